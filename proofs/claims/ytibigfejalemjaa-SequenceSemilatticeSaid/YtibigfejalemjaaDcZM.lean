/- Maps whose keys are structs of two integers: made, looked up, written. -/
import Derived.Test.YtibigfejalemjaaDcZ
import Derived.MapKept
import Derived.WideKeyRuns
set_option linter.unusedVariables false
namespace Go.Dc
open Go
variable {P : Program} {ρ : Option Nat} {n : Fw} {e : List (Nat × Value)} {C : World → Prop}

abbrev K2 := Int × Int
def keyV (k : K2) : Value := .agg #[.int .i64 k.1, .int .i64 k.2]

theorem keyV_inj {a b : K2} (h : keyV a = keyV b) : a = b := by
  unfold keyV at h; simp at h; exact Prod.ext h.1 h.2

/-- the key's type is a struct of two integers -/
structure Key2 (P : Program) (K I : TypeId) (n1 n2 : String) : Prop where
  str : P.underlying K = some (.struct (P.fieldsOf K))
  held : P.stoodInHeld K = false
  flds : (P.fieldsOf K).toList.map (fun f => (f.name, f.type, f.offset)) = [(n1, I, 0), (n2, I, 1)]
  ne1 : n1 ≠ "_"
  ne2 : n2 ≠ "_"
  int : P.underlying I = some (.int .i64)

theorem Key2.eq {K I : TypeId} {n1 n2 : String} (h : Key2 P K I n1 n2) (a b : K2) (w : World) : (Op.equal K (keyV a) (keyV b)).run P w = .ok (decide (a = b)) w := by
  have h1 : AllLeaf P [.int .i64 a.1, .int .i64 a.2] [.int .i64 b.1, .int .i64 b.2] [(n1, I, 0), (n2, I, 1)] [decide (a.1 = b.1), decide (a.2 = b.2)] :=
    ⟨_, _, rfl, h.ne1, ⟨_, _, rfl, rfl, leaf_int h.int⟩, _, _, rfl, h.ne2, ⟨_, _, rfl, rfl, leaf_int h.int⟩, rfl⟩
  have := run_eqS h.str h.held h.flds h1 w
  refine this.trans ?_
  congr 1
  simp only [allB]
  rw [Bool.eq_iff_iff]; simp [Prod.ext_iff]

theorem part_int {I : TypeId} (h : P.underlying I = some (.int .i64)) {cs : Array Value} {i : Nat} {v : Value} (hv : cs[i]? = some v) (w : World) : (part I cs i).run P w = .ok v w := by
  simp [part, run_isAgg' h, aggD, hv]

theorem chk_int {I : TypeId} (h : P.underlying I = some (.int .i64)) (em : Bool) (m : Nat) (x : Int) (w : World) : (Instr.checkKey em (m + 1) I (.int .i64 x)).run P w = .ok () w := by
  simp [Instr.checkKey, run_underlying h]

theorem Key2.chk {K I : TypeId} {n1 n2 : String} (h : Key2 P K I n1 n2) (em : Bool) (a : K2) (w : World) : (Instr.checkKey em 10000 K (keyV a)).run P w = .ok () w := by
  rw [show (10000 : Nat) = 9999 + 1 from rfl, Instr.checkKey]
  simp only [Sem.run_bind, run_underlying h.str, Result.andThen_ok, keyV]
  rw [← Array.forIn_toList]
  have hf := h.flds
  generalize (P.fieldsOf K).toList = L at hf
  cases L with
  | nil => simp at hf
  | cons f1 L =>
    cases L with
    | nil => simp at hf
    | cons f2 L =>
      cases L with
      | cons f3 L => simp at hf
      | nil =>
        simp only [List.map_cons, List.map_nil, List.cons.injEq, Prod.mk.injEq, and_true] at hf
        obtain ⟨⟨a1, a2, a3⟩, b1, b2, b3⟩ := hf
        have p1 := part_int (P := P) h.int (cs := #[.int .i64 a.1, .int .i64 a.2]) (i := 0) rfl w
        have p2 := part_int (P := P) h.int (cs := #[.int .i64 a.1, .int .i64 a.2]) (i := 1) rfl w
        simp [a1, a2, a3, b1, b2, b3, h.ne1, h.ne2, p1, p2, chk_int h.int em 9998]

/-! ## what a map holds -/
def mget {β : Type} : List (K2 × β) → K2 → Option β
  | [], _ => Option.none
  | p :: r, k => if p.1 = k then some p.2 else mget r k

def mput {β : Type} : List (K2 × β) → K2 → β → List (K2 × β)
  | [], k, v => [(k, v)]
  | p :: r, k, v => if p.1 = k then (p.1, v) :: r else p :: mput r k v

def EntR (es : List MapEntry) (l : List (K2 × Value)) : Prop := es.map (fun e => (e.key, e.val)) = l.map fun p => (keyV p.1, p.2)

theorem EntR.cons {x : MapEntry} {es : List MapEntry} {l : List (K2 × Value)} (h : EntR (x :: es) l) : ∃ p r, l = p :: r ∧ x.key = keyV p.1 ∧ x.val = p.2 ∧ EntR es r := by
  cases l with
  | nil => simp [EntR] at h
  | cons p r =>
    simp only [EntR, List.map_cons, List.cons.injEq, Prod.mk.injEq] at h
    exact ⟨p, r, rfl, h.1.1, h.1.2, h.2⟩

theorem run_find {K I : TypeId} {n1 n2 : String} (h : Key2 P K I n1 n2) (k : K2) (w : World) : ∀ (es : List MapEntry) (l : List (K2 × Value)) (i : Nat), EntR es l →
    ((mget l k = Option.none ∧ (Instr.findAsking K (keyV k) es i).run P w = .ok Option.none w ∧ ∀ v (x : MapEntry), x.key = keyV k → x.val = v → EntR (es ++ [x]) (mput l k v)) ∨
     ∃ j v x, mget l k = some v ∧ (Instr.findAsking K (keyV k) es i).run P w = .ok (some (i + j, v)) w ∧ es[j]? = some x ∧ x.key = keyV k ∧ ∀ (f : MapEntry → MapEntry) u, (f x).key = keyV k → (f x).val = u → EntR (es.modify j f) (mput l k u))
  | [], l, i, hr => by
    have hl : l = [] := by cases l with
      | nil => rfl
      | cons p r => simp [EntR] at hr
    subst hl
    exact .inl ⟨rfl, by simp [Instr.findAsking], fun v x hk hv => by simp [EntR, mput, hk, hv]⟩
  | y :: es, l, i, hr => by
    obtain ⟨p, r, rfl, hk, hv, hr'⟩ := hr.cons
    have heq := h.eq k p.1 w
    by_cases hp : p.1 = k
    · refine .inr ⟨0, p.2, y, by simp [mget, hp], ?_, rfl, by rw [hk, hp], ?_⟩
      · rw [Instr.findAsking]
        simp only [hk, hp, Sem.run_bind, h.eq k k w, Result.andThen_ok, decide_true, if_true, Sem.run_pure, hv, Nat.add_zero]
      · intro f u h1 h2
        have h3 : es.map (fun e => (e.key, e.val)) = r.map (fun p => (keyV p.1, p.2)) := hr'
        simp only [mput, if_pos hp, List.modify_zero_cons, EntR, List.map_cons, h1, h2, h3, hp, if_true]
    · have hne : decide (k = p.1) = false := decide_eq_false (fun e => hp e.symm)
      have hstep : (Instr.findAsking K (keyV k) (y :: es) i).run P w = (Instr.findAsking K (keyV k) es (i + 1)).run P w := by
        rw [Instr.findAsking]
        simp only [hk, Sem.run_bind, heq, hne, Result.andThen_ok, Bool.false_eq_true, if_false]
      rcases run_find h k w es r (i + 1) hr' with ⟨h1, h2, h3⟩ | ⟨j, v, x, h1, h2, h3, h4, h5⟩
      · refine .inl ⟨by simp [mget, hp, h1], hstep.trans h2, fun v x h6 h7 => ?_⟩
        have := h3 v x h6 h7
        simp only [mput, if_neg hp, List.cons_append, EntR, List.map_cons, hk, hv, List.cons.injEq, true_and]
        exact this
      · refine .inr ⟨j + 1, v, x, by simp [mget, hp, h1], ?_, by simpa using h3, h4, fun f u h6 h7 => ?_⟩
        · rw [hstep, h2]; rw [show i + 1 + j = i + (j + 1) by omega]
        · have := h5 f u h6 h7
          simp only [mput, if_neg hp, List.modify_succ_cons, EntR, List.map_cons, hk, hv, List.cons.injEq, true_and]
          exact this

theorem getMap {w : World} {b clock : Nat} {es : Array MapEntry} (hb : w.heap[b]? = some (.map es clock)) : (getObj b).run P w = .ok (.map es clock) w := by simp [getObj, Sem.run, hb]
theorem setMap {w : World} {b clock : Nat} {es : Array MapEntry} (o : Obj) (hb : w.heap[b]? = some (.map es clock)) : (setObj b o).run P w = .ok () { w with heap := w.heap.setIfInBounds b o } := by simp [setObj, Sem.run, hb]

theorem run_lookup2 {T K I E : TypeId} {n1 n2 : String} (h : Key2 P K I n1 n2) (hT : P.underlying T = some (.map K E)) {z : Value} (hz : (P.info? E).bind (·.zero) = some z) {w : World} {b clock : Nat} {es : Array MapEntry} {l : List (K2 × Value)}
    (hb : w.heap[b]? = some (.map es clock)) (hr : EntR es.toList l) (k : K2) : (Instr.lookup T (.map (some b)) (keyV k) false).run P w = .ok ((mget l k).getD z) w := by
  have h1 : (Instr.findKey K (keyV k) es.toList).run P w = (Instr.findAsking K (keyV k) es.toList).run P w := run_findKey_eq _ (by rw [h.str]) _ _
  unfold Instr.lookup
  simp only [Sem.run_bind, run_underlying hT, Result.andThen_ok, getMap hb, Sem.run_pure, h.chk _ k w, h1]
  rcases run_find h k w es.toList l 0 hr with ⟨e1, e2, _⟩ | ⟨j, v, x, e1, e2, _⟩
  · simp only [e2, Result.andThen_ok, Sem.run_bind, run_zero' hz, Sem.run_pure, e1, Option.getD_none, Bool.false_eq_true, if_false]
  · simp only [e2, Result.andThen_ok, Sem.run_pure, Sem.run_bind, e1, Option.getD_some, Bool.false_eq_true, if_false]

/-- a map's block -/
abbrev mb (b : Nat) (es : Array MapEntry) (clock : Nat) : Hl := [(b, .map es clock)]

theorem ev_lookup2 {T K I E : TypeId} {n1 n2 : String} (h : Key2 P K I n1 n2) (hT : P.underlying T = some (.map K E)) {z : Value} (hz : (P.info? E).bind (·.zero) = some z) {b clock : Nat} {es : Array MapEntry} {l : List (K2 × Value)} (hr : EntR es.toList l)
    {x y : Operand} {k : K2} {v : Value} (hx : evalE e x = some (.map (some b))) (hy : evalE e y = some (keyV k)) (hw : ∀ w, C w → w.heap[b]? = some (.map es clock)) (hv : (mget l k).getD z = v) : Ev P n e C (.lookup T x y false) v := by
  intro o a w ho F hC
  have := run_lookup2 h hT hz (hw w hC) hr k
  subst hv
  simp [execOp, ho, F.eval hx, F.eval hy, this]

theorem wl_makeMap {ops : Array Oper} {rest : List Oper} {o : Oper} {Q : Exit → Act → World → Prop} {a : Act} {w : World} {g : Gh} {cks : List Hl} {fr : Hl} {T : TypeId} {d : Nat}
    (hg : Region.wanted o (yielded ops a.tmps) = true) (ho : o.op = .makeMap T Option.none) (F : Fr n a e) (S : St g cks fr w)
    (hd : o.dst = some d) (hn : Nat.blt d n.sz = true)
    (K : ∀ b a' w', Fr n a' ((d, .map (some b)) :: e) → St g (mb b #[] 0 :: cks) fr w' → wpListIn (RW ρ) 0 P ops Q rest a' w') : wpListIn (RW ρ) 0 P ops Q (o :: rest) a w := by
  have hrun : (execOp a.eval o).run P w = .ok (.value (.map (some w.heap.size))) { w with heap := w.heap.push (.map #[] 0) } := by
    simp [execOp, ho, Instr.makeMap, newObj, Sem.run]
  refine wl_run hg hrun (by intro d; simp) ?_
  simp only [Oper.uponIn, hd]
  exact K w.heap.size _ _ (F.put hn) (S.push rfl rfl rfl rfl)

theorem sameBits_key (k : K2) : Instr.sameBits 10000 (keyV k) (keyV k) = true := by
  rw [show (10000 : Nat) = 9999 + 1 from rfl]
  simp [keyV, Instr.sameBits]

theorem run_mapUpdate2 {T K I E : TypeId} {n1 n2 : String} (h : Key2 P K I n1 n2) (hT : P.underlying T = some (.map K E)) {w : World} {b clock : Nat} {es : Array MapEntry} {l : List (K2 × Value)}
    (hb : w.heap[b]? = some (.map es clock)) (hr : EntR es.toList l) (k : K2) (v : Value) : ∃ es' clock', EntR es'.toList (mput l k v) ∧ (Instr.mapUpdate T (.map (some b)) (keyV k) v).run P w = .ok () { w with heap := w.heap.setIfInBounds b (.map es' clock') } := by
  have h1 : (Instr.findKey K (keyV k) es.toList).run P w = (Instr.findAsking K (keyV k) es.toList).run P w := run_findKey_eq _ (by rw [h.str]) _ _
  unfold Instr.mapUpdate
  simp only [Sem.run_bind, run_underlying hT, Result.andThen_ok, getMap hb, h.chk _ k w, h1]
  rcases run_find h k w es.toList l 0 hr with ⟨e1, e2, e3⟩ | ⟨j, u, x, e1, e2, e3, e4, e5⟩
  · refine ⟨es.push { key := keyV k, val := v, born := clock }, clock + 1, ?_, ?_⟩
    · have := e3 v { key := keyV k, val := v, born := clock } rfl rfl
      simpa using this
    · simp only [e2, Result.andThen_ok, setMap _ hb]
  · refine ⟨es.modify j fun e => { e with key := keyV k, val := v }, clock, ?_, ?_⟩
    · have := e5 (fun e => { e with key := keyV k, val := v }) v rfl rfl
      simpa using this
    · have hx : es[j]? = some x := by simpa using e3
      have hks : (Instr.keyThatStays (keyV k) (keyV k)).run P w = .ok (keyV k) w := by
        simp [Instr.keyThatStays, sameBits_key k]
      simp only [Nat.zero_add] at e2
      simp only [e2, Result.andThen_ok, Sem.run_bind, hx, Option.map_some, Option.getD_some, e4, hks, setMap _ hb]

theorem wl_mapUpdate2 {ops : Array Oper} {rest : List Oper} {o : Oper} {Q : Exit → Act → World → Prop} {a : Act} {w : World} {g : Gh} {cks : List Hl} {fr : Hl} {T K I E : TypeId} {n1 n2 : String} (h : Key2 P K I n1 n2) (hT : P.underlying T = some (.map K E))
    {x y u : Operand} {b clock i : Nat} {es : Array MapEntry} {l : List (K2 × Value)} {k : K2} {v : Value}
    (hg : Region.wanted o (yielded ops a.tmps) = true) (ho : o.op = .mapUpdate T x y u) (F : Fr n a e) (S : St g cks fr w) (hx : evalE e x = some (.map (some b))) (hy : evalE e y = some (keyV k)) (hu : evalE e u = some v)
    (hi : cks[i]? = some (mb b es clock)) (hr : EntR es.toList l) (hd : o.dst = Option.none)
    (K : ∀ es' clock' w', EntR es'.toList (mput l k v) → St g (cks.set i (mb b es' clock')) fr w' → wpListIn (RW ρ) 0 P ops Q rest a w') : wpListIn (RW ρ) 0 P ops Q (o :: rest) a w := by
  have hb := S.heap i hi
  obtain ⟨es', clock', hr', hm⟩ := run_mapUpdate2 h hT hb hr k v
  have hrun : (execOp a.eval o).run P w = .ok .skip { w with heap := w.heap.setIfInBounds b (.map es' clock') } := by
    simp [execOp, ho, F.eval hx, F.eval hy, F.eval hu, hm]
  refine wl_run hg hrun (by intro d; simp) ?_
  simp only [Oper.uponIn, hd]
  refine K es' clock' _ hr' ?_
  have hlt : i < cks.length := by
    rcases Nat.lt_or_ge i cks.length with h' | h'
    · exact h'
    · simp [List.getElem?_eq_none h'] at hi
  refine St.back i hlt ?_
  have hbs := heap_lt hb
  exact (S.front i hi).write (y := .map es' clock') (by simp [hbs]) (fun c hc => by simp [Array.getElem?_setIfInBounds, Ne.symm hc]) rfl rfl rfl

/-! ## maps with truth values -/
def OwnB (g : Gh) (l : List (K2 × Bool)) (v : Value) (c : Hl) : Prop := ∃ b es clock, v = .map (some b) ∧ c = mb b es clock ∧ EntR es.toList (l.map fun p => (p.1, Value.bool p.2))

theorem OwnB.mono {g g' : Gh} {l : List (K2 × Bool)} {v : Value} {c : Hl} (hl : Le g g') (h : OwnB g l v c) : OwnB g' l v c := h
theorem OwnB.one {g : Gh} {l : List (K2 × Bool)} {v : Value} {c : Hl} (h : OwnB g l v c) : oneC v = true := by obtain ⟨b, es, clock, rfl, _⟩ := h; rfl
theorem OwnB.cl {g : Gh} {l : List (K2 × Bool)} {v : Value} {c : Hl} (h : OwnB g l v c) : v.cells.toList = [v] := by obtain ⟨b, es, clock, rfl, _⟩ := h; rfl
theorem OwnB.csz {g : Gh} {l : List (K2 × Bool)} {v : Value} {c : Hl} (h : OwnB g l v c) : v.cells.size = 1 := by obtain ⟨b, es, clock, rfl, _⟩ := h; rfl

theorem mget_map {β γ : Type} (f : β → γ) (k : K2) : ∀ l : List (K2 × β), mget (l.map fun p => (p.1, f p.2)) k = (mget l k).map f
  | [] => rfl
  | p :: r => by simp only [List.map_cons, mget]; split <;> simp [mget_map f k r]

theorem mput_map {β γ : Type} (f : β → γ) (k : K2) (v : β) : ∀ l : List (K2 × β), mput (l.map fun p => (p.1, f p.2)) k (f v) = (mput l k v).map fun p => (p.1, f p.2)
  | [] => rfl
  | p :: r => by simp only [List.map_cons, mput]; split <;> simp [mput_map f k v r]

theorem ev_lookB {g : Gh} {l : List (K2 × Bool)} {v : Value} {c : Hl} {T K I E : TypeId} {n1 n2 : String} (hm : OwnB g l v c) (h : Key2 P K I n1 n2) (hT : P.underlying T = some (.map K E)) (hz : (P.info? E).bind (·.zero) = some (.bool false))
    {x y : Operand} {k : K2} (hx : evalE e x = some v) (hy : evalE e y = some (keyV k)) {cks : List Hl} {fr : Hl} {g' : Gh} (j : Nat) (hj : cks[j]? = some c) : Ev P n e (fun w => St g' cks fr w) (.lookup T x y false) (.bool ((mget l k).getD false)) := by
  obtain ⟨b, es, clock, rfl, rfl, hr⟩ := hm
  refine ev_lookup2 h hT hz hr hx hy (fun w S => S.heap j hj) ?_
  rw [mget_map]; cases mget l k <;> rfl

theorem wl_makeB {ops : Array Oper} {rest : List Oper} {o : Oper} {Q : Exit → Act → World → Prop} {a : Act} {w : World} {g : Gh} {cks : List Hl} {fr : Hl} {T : TypeId} {d : Nat}
    (hg : Region.wanted o (yielded ops a.tmps) = true) (ho : o.op = .makeMap T Option.none) (F : Fr n a e) (S : St g cks fr w)
    (hd : o.dst = some d) (hn : Nat.blt d n.sz = true)
    (K : ∀ v c a' w', OwnB g [] v c → Fr n a' ((d, v) :: e) → St g (c :: cks) fr w' → wpListIn (RW ρ) 0 P ops Q rest a' w') : wpListIn (RW ρ) 0 P ops Q (o :: rest) a w :=
  wl_makeMap hg ho F S hd hn fun b a' w' F S => K _ _ a' w' ⟨b, #[], 0, rfl, rfl, rfl⟩ F S

theorem wl_updB {g : Gh} {l : List (K2 × Bool)} {v : Value} {c : Hl} {T K I E : TypeId} {n1 n2 : String} (hm : OwnB g l v c) (h : Key2 P K I n1 n2) (hT : P.underlying T = some (.map K E))
    {ops : Array Oper} {rest : List Oper} {o : Oper} {Q : Exit → Act → World → Prop} {a : Act} {w : World} {cks : List Hl} {fr : Hl} {x y u : Operand} {k : K2} {t : Bool}
    (hg : Region.wanted o (yielded ops a.tmps) = true) (ho : o.op = .mapUpdate T x y u) (F : Fr n a e) (S : St g cks fr w) (hx : evalE e x = some v) (hy : evalE e y = some (keyV k)) (hu : evalE e u = some (.bool t))
    (i : Nat) (hi : cks[i]? = some c) (hd : o.dst = Option.none)
    (K : ∀ c' w', OwnB g (mput l k t) v c' → St g (cks.set i c') fr w' → wpListIn (RW ρ) 0 P ops Q rest a w') : wpListIn (RW ρ) 0 P ops Q (o :: rest) a w := by
  obtain ⟨b, es, clock, rfl, rfl, hr⟩ := hm
  exact wl_mapUpdate2 h hT hg ho F S hx hy hu hi hr hd fun es' clock' w' hr' S' => K _ w' ⟨b, es', clock', rfl, rfl, by rw [← mput_map (f := Value.bool)]; exact hr'⟩ S'

/-! ## maps with slices: a key whose slice has been taken out is dead -/
section
variable {α : Type} [Rep α]

def Rows (g : Gh) : List (K2 × Option (List α)) → List (K2 × Value) → Hl → Prop
  | [], vl, c => vl = [] ∧ c = []
  | (k, Option.none) :: r, vl, c => ∃ v vr, vl = (k, v) :: vr ∧ Rows g r vr c
  | (k, some l) :: r, vl, c => ∃ v c1 vr cr, vl = (k, v) :: vr ∧ c = c1 ++ cr ∧ OwnS g l v c1 ∧ Rows g r vr cr

theorem Rows.mono {g g' : Gh} (hl : Le g g') : ∀ {l : List (K2 × Option (List α))} {vl : List (K2 × Value)} {c : Hl}, Rows g l vl c → Rows g' l vl c
  | [], _, _, h => h
  | (k, Option.none) :: r, _, _, h => by
    obtain ⟨v, vr, h1, h2⟩ := h; exact ⟨v, vr, h1, Rows.mono hl h2⟩
  | (k, some l) :: r, _, _, h => by
    obtain ⟨v, c1, vr, cr, h1, h2, h3, h4⟩ := h; exact ⟨v, c1, vr, cr, h1, h2, h3.mono hl, Rows.mono hl h4⟩

def lookM {α : Type} (l : List (K2 × Option (List α))) (k : K2) : Option (List α) :=
  match mget l k with
  | Option.none => some []
  | some o => o
def deadM {α : Type} (l : List (K2 × Option (List α))) (k : K2) : List (K2 × Option (List α)) :=
  match mget l k with
  | Option.none => l
  | some _ => mput l k Option.none

/-- a row comes out -/
theorem Rows.out {g : Gh} (k : K2) : ∀ {l : List (K2 × Option (List α))} {vl : List (K2 × Value)} {c : Hl}, Rows g l vl c → ∀ x, lookM l k = some x →
    ∃ u c1 c2, (mget vl k).getD (.slice Option.none 0 0) = u ∧ OwnS g x u c1 ∧ Rows g (deadM l k) vl c2 ∧ c.Perm (c1 ++ c2)
  | [], vl, c, h, x, hx => by
    obtain ⟨rfl, rfl⟩ := h
    simp [lookM, mget] at hx; subst hx
    exact ⟨_, [], [], rfl, OwnS.nil g, ⟨rfl, rfl⟩, List.Perm.refl _⟩
  | (k', o) :: r, vl, c, h, x, hx => by
    by_cases hk : k' = k
    · subst hk
      cases o with
      | none => simp [lookM, mget] at hx
      | some l' =>
        simp [lookM, mget] at hx; subst hx
        obtain ⟨v, c1, vr, cr, rfl, rfl, h3, h4⟩ := h
        exact ⟨v, c1, cr, by simp [mget], h3, by simp only [deadM, mget, if_true, mput]; exact ⟨v, vr, rfl, h4⟩, List.Perm.refl _⟩
    · have hx' : lookM r k = some x := by simpa [lookM, mget, hk] using hx
      have hd : deadM ((k', o) :: r) k = (k', o) :: deadM r k := by
        simp only [deadM, mget, if_neg hk]; split <;> simp [mput, hk]
      rw [hd]
      cases o with
      | none =>
        obtain ⟨v, vr, rfl, h2⟩ := h
        obtain ⟨u, c1, c2, e1, e2, e3, e4⟩ := Rows.out k h2 x hx'
        exact ⟨u, c1, c2, by simpa [mget, hk] using e1, e2, ⟨v, vr, rfl, e3⟩, e4⟩
      | some l' =>
        obtain ⟨v, c0, vr, cr, rfl, rfl, h3, h4⟩ := h
        obtain ⟨u, c1, c2, e1, e2, e3, e4⟩ := Rows.out k h4 x hx'
        refine ⟨u, c1, c0 ++ c2, by simpa [mget, hk] using e1, e2, ⟨v, c0, vr, c2, rfl, rfl, h3, e3⟩, ?_⟩
        exact (List.Perm.append_left c0 e4).trans (by rw [← List.append_assoc, ← List.append_assoc]; exact List.Perm.append_right _ List.perm_append_comm)

/-- a row comes in -/
theorem Rows.put {g : Gh} (k : K2) {x : List α} {u : Value} {c1 : Hl} (hu : OwnS g x u c1) : ∀ {l : List (K2 × Option (List α))} {vl : List (K2 × Value)} {c : Hl}, Rows g l vl c →
    ∃ c' cl, Rows g (mput l k (some x)) (mput vl k u) c' ∧ (c ++ c1).Perm (cl ++ c')
  | [], vl, c, h => by
    obtain ⟨rfl, rfl⟩ := h
    exact ⟨c1, [], ⟨u, c1, [], [], rfl, by simp, hu, rfl, rfl⟩, by simp⟩
  | (k', o) :: r, vl, c, h => by
    by_cases hk : k' = k
    · subst hk
      cases o with
      | none =>
        obtain ⟨v, vr, rfl, h2⟩ := h
        refine ⟨c1 ++ c, [], ?_, by simpa using List.perm_append_comm⟩
        simp only [mput, if_true]; exact ⟨u, c1, vr, c, rfl, rfl, hu, h2⟩
      | some l' =>
        obtain ⟨v, c0, vr, cr, rfl, rfl, h3, h4⟩ := h
        refine ⟨c1 ++ cr, c0, ?_, ?_⟩
        · simp only [mput, if_true]; exact ⟨u, c1, vr, cr, rfl, rfl, hu, h4⟩
        · rw [List.append_assoc]; exact List.Perm.append_left _ List.perm_append_comm
    · simp only [mput, if_neg hk]
      cases o with
      | none =>
        obtain ⟨v, vr, rfl, h2⟩ := h
        obtain ⟨c', cl, e1, e2⟩ := Rows.put k hu h2
        exact ⟨c', cl, by simp only [mput, if_neg hk]; exact ⟨v, _, rfl, e1⟩, e2⟩
      | some l' =>
        obtain ⟨v, c0, vr, cr, rfl, rfl, h3, h4⟩ := h
        obtain ⟨c', cl, e1, e2⟩ := Rows.put k hu h4
        refine ⟨c0 ++ c', cl, by simp only [mput, if_neg hk]; exact ⟨v, c0, _, c', rfl, rfl, h3, e1⟩, ?_⟩
        rw [List.append_assoc]
        refine (List.Perm.append_left c0 e2).trans ?_
        rw [← List.append_assoc, ← List.append_assoc]; exact List.Perm.append_right _ List.perm_append_comm

def OwnR (g : Gh) (l : List (K2 × Option (List α))) (v : Value) (c : Hl) : Prop := ∃ b es clock vl cr, v = .map (some b) ∧ c = mb b es clock ++ cr ∧ EntR es.toList vl ∧ Rows g l vl cr

theorem OwnR.mono {g g' : Gh} {l : List (K2 × Option (List α))} {v : Value} {c : Hl} (hl : Le g g') (h : OwnR g l v c) : OwnR g' l v c := by
  obtain ⟨b, es, clock, vl, cr, h1, h2, h3, h4⟩ := h; exact ⟨b, es, clock, vl, cr, h1, h2, h3, h4.mono hl⟩
theorem OwnR.one {g : Gh} {l : List (K2 × Option (List α))} {v : Value} {c : Hl} (h : OwnR g l v c) : oneC v = true := by obtain ⟨b, es, clock, vl, cr, rfl, _⟩ := h; rfl
theorem OwnR.cl {g : Gh} {l : List (K2 × Option (List α))} {v : Value} {c : Hl} (h : OwnR g l v c) : v.cells.toList = [v] := by obtain ⟨b, es, clock, vl, cr, rfl, _⟩ := h; rfl
theorem OwnR.csz {g : Gh} {l : List (K2 × Option (List α))} {v : Value} {c : Hl} (h : OwnR g l v c) : v.cells.size = 1 := by obtain ⟨b, es, clock, vl, cr, rfl, _⟩ := h; rfl

theorem wl_makeR {ops : Array Oper} {rest : List Oper} {o : Oper} {Q : Exit → Act → World → Prop} {a : Act} {w : World} {g : Gh} {cks : List Hl} {fr : Hl} {T : TypeId} {d : Nat}
    (hg : Region.wanted o (yielded ops a.tmps) = true) (ho : o.op = .makeMap T Option.none) (F : Fr n a e) (S : St g cks fr w)
    (hd : o.dst = some d) (hn : Nat.blt d n.sz = true)
    (K : ∀ v c a' w', OwnR g ([] : List (K2 × Option (List α))) v c → Fr n a' ((d, v) :: e) → St g (c :: cks) fr w' → wpListIn (RW ρ) 0 P ops Q rest a' w') : wpListIn (RW ρ) 0 P ops Q (o :: rest) a w :=
  wl_makeMap hg ho F S hd hn fun b a' w' F S => K _ _ a' w' ⟨b, #[], 0, [], [], rfl, rfl, rfl, rfl, rfl⟩ F S

/-- what a look-up at this key gives, as long as the map's block is there -/
def LkR (v : Value) (k : K2) (u : Value) (c : Hl) : Prop := ∃ b es clock vl cr, v = .map (some b) ∧ c = mb b es clock ++ cr ∧ EntR es.toList vl ∧ (mget vl k).getD (.slice Option.none 0 0) = u

theorem OwnR.look {g : Gh} {l : List (K2 × Option (List α))} {v : Value} {c : Hl} (h : OwnR g l v c) {k : K2} {x : List α} (hx : lookM l k = some x) :
    ∃ u c1 c2, OwnS g x u c1 ∧ OwnR g (deadM l k) v c2 ∧ LkR v k u c2 ∧ c.Perm (c1 ++ c2) := by
  obtain ⟨b, es, clock, vl, cr, rfl, rfl, h3, h4⟩ := h
  obtain ⟨u, c1, c2, e1, e2, e3, e4⟩ := h4.out k x hx
  refine ⟨u, c1, mb b es clock ++ c2, e2, ⟨b, es, clock, vl, c2, rfl, rfl, h3, e3⟩, ⟨b, es, clock, vl, c2, rfl, rfl, h3, e1⟩, ?_⟩
  refine (List.Perm.append_left _ e4).trans ?_
  rw [← List.append_assoc, ← List.append_assoc]; exact List.Perm.append_right _ List.perm_append_comm

theorem St.splitM {g : Gh} {c c1 c2 : Hl} {cks : List Hl} {fr : Hl} {w : World} (h : c.Perm (c1 ++ c2)) (S : St g (c :: cks) fr w) : St g (c1 :: c2 :: cks) fr w := by
  refine St0.perm (o := c ++ fl cks fr) S ?_
  have := List.Perm.append_right (fl cks fr) h
  rw [List.append_assoc] at this
  exact this

theorem St0.get {g : Gh} {o : Hl} {w : World} (S : St0 g o w) {b : Nat} {x : Obj} (h : (b, x) ∈ o) : w.heap[b]? = some x := (S.own (b, x) h).1

theorem ev_lookR {T K I E : TypeId} {n1 n2 : String} {v u : Value} {k : K2} {c : Hl} (hL : LkR v k u c) (h : Key2 P K I n1 n2) (hT : P.underlying T = some (.map K E)) (hz : (P.info? E).bind (·.zero) = some (.slice Option.none 0 0))
    {x y : Operand} (hx : evalE e x = some v) (hy : evalE e y = some (keyV k)) {cks : List Hl} {fr : Hl} {g : Gh} (j : Nat) (hj : cks[j]? = some c) : Ev P n e (fun w => St g cks fr w) (.lookup T x y false) u := by
  obtain ⟨b, es, clock, vl, cr, rfl, rfl, h3, h4⟩ := hL
  exact ev_lookup2 (clock := clock) h hT hz h3 hx hy (fun w S => St0.get (S.front j hj) (List.mem_append_left _ (List.mem_append_left _ (List.mem_singleton.2 rfl)))) h4

theorem wl_updR {g : Gh} {l : List (K2 × Option (List α))} {x : List α} {v u : Value} {c c1 : Hl} {T K I E : TypeId} {n1 n2 : String} (hm : OwnR g l v c) (hu : OwnS g x u c1) (h : Key2 P K I n1 n2) (hT : P.underlying T = some (.map K E))
    {ops : Array Oper} {rest : List Oper} {o : Oper} {Q : Exit → Act → World → Prop} {a : Act} {w : World} {cks : List Hl} {fr : Hl} {xo yo uo : Operand} {k : K2}
    (hg : Region.wanted o (yielded ops a.tmps) = true) (ho : o.op = .mapUpdate T xo yo uo) (F : Fr n a e) (S : St g (c :: c1 :: cks) fr w) (hx : evalE e xo = some v) (hy : evalE e yo = some (keyV k)) (hv : evalE e uo = some u)
    (hd : o.dst = Option.none)
    (K : ∀ c' w', OwnR g (mput l k (some x)) v c' → St g (c' :: cks) fr w' → wpListIn (RW ρ) 0 P ops Q rest a w') : wpListIn (RW ρ) 0 P ops Q (o :: rest) a w := by
  obtain ⟨b, es, clock, vl, cr, rfl, rfl, h3, h4⟩ := hm
  have S' : St g (mb b es clock :: (cr ++ c1) :: cks) fr w := by
    refine S.of_eq ?_
    simp [fl]
  refine wl_mapUpdate2 h hT hg ho F S' hx hy hv (i := 0) rfl h3 hd fun es' clock' w' hr' S2 => ?_
  obtain ⟨c', cl, e1, e2⟩ := h4.put k hu
  have S3 : St g (mb b es' clock' :: (cr ++ c1) :: cks) fr w' := S2
  refine K (mb b es' clock' ++ c') w' ⟨b, es', clock', _, c', rfl, rfl, hr', e1⟩ ?_
  have S4 : St0 g (cl ++ (mb b es' clock' ++ c' ++ fl cks fr)) w' := by
    refine St0.perm (o := mb b es' clock' ++ ((cr ++ c1) ++ fl cks fr)) S3 ?_
    refine (List.Perm.append_left _ (List.Perm.append_right _ e2)).trans ?_
    simp only [← List.append_assoc]
    refine List.Perm.append_right _ (List.Perm.append_right _ ?_)
    exact List.perm_append_comm
  exact S4.drop
end

end Go.Dc
