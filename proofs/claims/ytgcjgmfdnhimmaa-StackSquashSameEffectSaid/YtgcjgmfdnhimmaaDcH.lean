/- Regions that draw their order, whatever is in them: each operation by itself, on facts that no other one touches. -/
import Derived.Test.YtgcjgmfdnhimmaaDcG
import Derived.Orders
namespace Go.Dc
open Go

variable {P : Program} {n : Nat} {e : List (Nat × Value)}

/-! ## which operations stand ahead of which -/
def edgesOf (o : Oper) : List Nat := (o.after.toList.filter (Region.binds .any)).map (·.on)

def cloF : List (List Nat) → List Oper → List (List Nat)
  | acc, [] => acc
  | acc, o :: r => cloF (acc ++ [edgesOf o ++ (edgesOf o).flatMap fun j => acc.getD j []]) r

def writes (o : Oper) (t : Nat) : Bool := match o.dst with | some d => Nat.beq d t | Option.none => false

structure Plan where
  M : Nat
  sl : List (List Nat)
  tk : List (List Nat)
  rd : List (List Nat)
  keep : List (List Nat)
  need : List (List Nat)
  kend : List Nat
  al : List Nat

def subL (a b : List Nat) : Bool := a.all fun x => b.contains x
def nodupB : List Nat → Bool
  | [] => true
  | x :: r => !r.contains x && nodupB r

def okOp (p : Plan) (ops : List Oper) (clo : List (List Nat)) (i : Nat) (o : Oper) : Bool :=
  let N := ops.length
  let ci := clo.getD i []
  let use := p.tk.getD i [] ++ p.rd.getD i []
  (match o.guard with | Option.none => true | some _ => false) && (edgesOf o).all (fun j => Nat.blt j i) && nodupB use &&
  use.all (fun k => (Nat.ble N k || ci.contains k) && Nat.blt k (N + p.M)) &&
  (List.range N).all (fun m => Nat.beq m i || (p.tk.getD m []).all fun k => !(p.tk.getD i []).contains k && (!(p.rd.getD i []).contains k || (clo.getD m []).contains i)) &&
  (p.sl.getD i []).all (fun t => (List.range N).all fun k => !(match ops[k]? with | some q => writes q t | Option.none => false) || Nat.beq k i || ci.contains k) &&
  (p.keep.getD i []).all (fun t => (List.range N).all fun k => !(match ops[k]? with | some q => writes q t | Option.none => false) || Nat.beq k i || (clo.getD k []).contains i) &&
  subL (p.need.getD i []) ci

def okDraw (p : Plan) (ops : List Oper) : Bool :=
  let N := ops.length
  let clo := cloF [] ops
  (List.range N).all (fun i => match ops[i]? with | some o => okOp p ops clo i o | Option.none => true) &&
  p.kend.all (fun t => (List.range N).all fun k => !(match ops[k]? with | some q => writes q t | Option.none => false)) &&
  (p.al == (List.range (N + p.M)).filter fun k => (List.range N).all fun m => !(p.tk.getD m []).contains k)

def flat (c : Nat → Hl) (ks : List Nat) : Hl := ks.flatMap c

abbrev Vt := (Nat → Value) → Gh → Hl → Prop
def val (a : Act) : Nat → Value := fun t => a.tmps.getD t undef

/-- what is asked of one operation -/
def Loc (P : Program) (n : Nat) (e : List (Nat × Value)) (p : Plan) (V : List Vt) (N : Nat) (init : List Hl) (g0 : Gh) (all : Array Oper) (i : Nat) (o : Oper) : Prop :=
  ∀ (a : Act) (w : World) (g : Gh) (c : Nat → Hl) (G : Hl), a.tmps.size = n → a.defers = [] → (∀ t ∈ p.keep.getD i [], ∀ v, look e t = some v → val a t = v) → Le g0 g →
    (∀ j ∈ p.need.getD i [], (V.getD j fun _ _ _ => True) (val a) g (c j)) → (∀ k x, init[k]? = some x → c (N + k) = x) → St0 g (flat c (p.tk.getD i []) ++ (flat c (p.rd.getD i []) ++ G)) w →
    wpList P all (fun en a' w' => en = Exit.normal ∧ a'.tmps.size = n ∧ a'.defers = [] ∧ ∃ g' ci, Le g g' ∧ St0 g' (ci ++ (flat c (p.rd.getD i []) ++ G)) w' ∧ (V.getD i fun _ _ _ => True) (val a') g' ci) [o] a w

def Locs (P : Program) (n : Nat) (e : List (Nat × Value)) (p : Plan) (V : List Vt) (N : Nat) (init : List Hl) (g0 : Gh) (all : Array Oper) : Nat → List Oper → Prop
  | _, [] => True
  | i, o :: r => Loc P n e p V N init g0 all i o ∧ Locs P n e p V N init g0 all (i + 1) r

theorem Locs.get {p : Plan} {V : List Vt} {N : Nat} {init : List Hl} {g0 : Gh} {all : Array Oper} : ∀ {l : List Oper} {k : Nat}, Locs P n e p V N init g0 all k l → ∀ i o, l[i]? = some o → Loc P n e p V N init g0 all (k + i) o
  | [], _, _, i, o, h => by simp at h
  | q :: r, k, h, i, o, ho => by
    cases i with
    | zero => simp at ho; subst ho; exact h.1
    | succ i =>
      simp at ho
      have := Locs.get h.2 i o ho
      rwa [show k + 1 + i = k + (i + 1) from by omega] at this

theorem upon_put {o : Oper} {a : Act} {next : Act → World → Prop} {Q : Exit → Act → World → Prop} {r : Result Next} (hd : ∀ a w, next a w → a.defers = []) (h : o.upon P a next Q r) :
    o.upon P a (fun a' w' => next a' w' ∧ ∃ v, a' = a.put o.dst v) Q r := by
  unfold Oper.upon at *
  split <;> simp only at h
  · exact ⟨h, _, rfl⟩
  · exact ⟨h, _, rfl⟩
  · have := hd _ _ h
    rename_i d w' 
    cases hdst : o.dst <;> simp [Act.put, hdst] at this
  · refine h.mono ?_
    intro en w' hh
    cases en with
    | returned v => exact ⟨hh, _, rfl⟩
    | panicked ch => exact hh
    | outgrown => exact hh
  · refine h.mono ?_
    intro v w' hh
    exact ⟨hh, _, rfl⟩
  · exact h

theorem val_put_ne {a : Act} {d t : Nat} {v : Value} (h : Nat.beq d t = false) : val (a.put (some d) v) t = val a t := by
  have hne : d ≠ t := fun e => by subst e; simp at h
  simp [val, Act.put, Array.getD_eq_getD_getElem?, hne]

theorem val_put {a : Act} {o : Oper} {t : Nat} {v : Value} (h : writes o t = false) : val (a.put o.dst v) t = val a t := by
  cases hd : o.dst with
  | none => rfl
  | some d => simp only [writes, hd] at h; exact val_put_ne h

theorem nodupB_spec : ∀ {l : List Nat}, nodupB l = true → l.Nodup
  | [], _ => List.nodup_nil
  | x :: r, h => by
    simp only [nodupB, Bool.and_eq_true, Bool.not_eq_true', List.contains_eq_mem, decide_eq_false_iff_not] at h
    exact List.nodup_cons.2 ⟨h.1, nodupB_spec h.2⟩

theorem flat_append (c : Nat → Hl) (a b : List Nat) : flat c (a ++ b) = flat c a ++ flat c b := by simp [flat]
theorem flat_congr {c c' : Nat → Hl} {l : List Nat} (h : ∀ k ∈ l, c k = c' k) : flat c l = flat c' l := by
  induction l with
  | nil => rfl
  | cons x r ih => simp only [flat, List.flatMap_cons]; rw [h x (by simp)]; congr 1; exact ih fun k hk => h k (by simp [hk])
theorem flat_perm (c : Nat → Hl) {a b : List Nat} (h : a.Perm b) : (flat c a).Perm (flat c b) := h.flatMap_right c

theorem perm_split {u l : List Nat} (hu : u.Nodup) (hl : l.Nodup) (hs : ∀ x ∈ u, x ∈ l) : l.Perm (u ++ l.filter fun x => !u.contains x) := by
  rw [List.perm_ext_iff_of_nodup hl]
  · intro x
    simp only [List.mem_append, List.mem_filter, List.contains_eq_mem, Bool.not_eq_true', decide_eq_false_iff_not]
    constructor
    · intro hx
      by_cases h : x ∈ u
      · exact .inl h
      · exact .inr ⟨hx, h⟩
    · rintro (h | h)
      · exact hs x h
      · exact h.1
  · rw [List.nodup_append]
    refine ⟨hu, hl.sublist List.filter_sublist, ?_⟩
    intro x hx y hy he
    subst he
    simp only [List.mem_filter, List.contains_eq_mem, Bool.not_eq_true', decide_eq_false_iff_not] at hy
    exact hy.2 hx

/-- closure -/
def CloOk (ops : List Oper) (clo : List (List Nat)) (k : Nat) : Prop :=
  clo.length = k ∧ ∀ i o, i < k → ops[i]? = some o → ∀ j, j ∈ clo.getD i [] → ∃ q, q ∈ edgesOf o ∧ (j = q ∨ j ∈ clo.getD q [])

theorem cloF_len : ∀ (r : List Oper) (acc : List (List Nat)), (cloF acc r).length = acc.length + r.length
  | [], acc => by simp [cloF]
  | o :: r, acc => by simp only [cloF]; rw [cloF_len r]; simp; omega

theorem cloF_get : ∀ (r : List Oper) (acc : List (List Nat)) (i : Nat), i < acc.length → (cloF acc r).getD i [] = acc.getD i []
  | [], acc, i, _ => rfl
  | o :: r, acc, i, h => by
    simp only [cloF]
    rw [cloF_get r _ i (by simp; omega)]
    simp [List.getD_eq_getElem?_getD, List.getElem?_append_left h]

theorem cloF_spec : ∀ (r : List Oper) (acc : List (List Nat)) (i : Nat) (o : Oper), r[i]? = some o → (∀ j ∈ edgesOf o, j < acc.length + i) →
    ∀ j, j ∈ (cloF acc r).getD (acc.length + i) [] → ∃ q, q ∈ edgesOf o ∧ (j = q ∨ j ∈ (cloF acc r).getD q [])
  | [], _, i, o, h, _ => by simp at h
  | q :: r, acc, i, o, h, he => by
    intro j hj
    cases i with
    | zero =>
      simp only [List.getElem?_cons_zero, Option.some.injEq] at h
      subst h
      simp only [cloF, Nat.add_zero] at hj
      rw [cloF_get r _ acc.length (by simp)] at hj
      simp only [List.getD_eq_getElem?_getD, List.getElem?_append_right (Nat.le_refl _), Nat.sub_self, List.getElem?_cons_zero, Option.getD_some, List.mem_append, List.mem_flatMap] at hj
      rcases hj with hj | ⟨p, hp, hj⟩
      · exact ⟨j, hj, .inl rfl⟩
      · refine ⟨p, hp, .inr ?_⟩
        have hpl := he p hp
        simp only [cloF]
        rw [cloF_get r _ p (by simp; omega), List.getD_eq_getElem?_getD, List.getElem?_append_left (by omega)]
        exact hj
    | succ i =>
      simp only [List.getElem?_cons_succ] at h
      have := cloF_spec r (acc ++ [edgesOf q ++ (edgesOf q).flatMap fun j => acc.getD j []]) i o h (by intro j hj; have := he j hj; simp; omega) j
      simp only [List.length_append, List.length_singleton] at this
      rw [show acc.length + 1 + i = acc.length + (i + 1) from by omega] at this
      exact this hj

/-- what holds while some of the operations have been carried out -/
structure Inv (n : Nat) (e : List (Nat × Value)) (p : Plan) (V : List Vt) (N : Nat) (ops : List Oper) (init : List Hl) (g0 : Gh) (fr : Hl) (a0 : Act) (listed : Array Bool) (a : Act) (w : World) : Prop where
  size : listed.size = N
  down : ∀ i o, ops[i]? = some o → listed.getD i false = true → ∀ j ∈ edgesOf o, listed.getD j false = true
  sz : a.tmps.size = n
  df : a.defers = []
  old : ∀ t, (∀ k o, ops[k]? = some o → listed.getD k false = true → writes o t = false) → val a t = val a0 t
  rest : ∃ g c, Le g0 g ∧ (∀ k x, init[k]? = some x → c (N + k) = x) ∧
    St0 g (flat c ((List.range (N + p.M)).filter fun k => (Nat.ble N k || listed.getD k false) && (List.range N).all fun m => !(listed.getD m false && (p.tk.getD m []).contains k)) ++ fr) w ∧
    ∀ j, j < N → listed.getD j false = true → (V.getD j fun _ _ _ => True) (val a) g (c j)

theorem wp_draw {id : Nat} {ops : List Oper} {Q : Exit → Act → World → Prop} {a0 : Act} {w0 : World} {g0 : Gh} {init : List Hl} {fr : Hl} (p : Plan) (V : List Vt)
    (hm : P.follows .mixedOrders = true) (hok : okDraw p ops = true) (hM : init.length = p.M)
    (hcong : ∀ i s s' g c, (∀ t ∈ p.sl.getD i [], s t = s' t) → (V.getD i fun _ _ _ => True) s g c → (V.getD i fun _ _ _ => True) s' g c)
    (hmono : ∀ i s g g' c, Le g g' → (V.getD i fun _ _ _ => True) s g c → (V.getD i fun _ _ _ => True) s g' c)
    (F : Fr n a0 e) (S : St g0 init fr w0)
    (hloc : Locs P n e p V ops.length init g0 ops.toArray 0 ops)
    (hend : ∀ (a : Act) (w : World) (g : Gh) (c : Nat → Hl), a.tmps.size = n → a.defers = [] → (∀ t ∈ p.kend, ∀ v, look e t = some v → val a t = v) → Le g0 g → (∀ k x, init[k]? = some x → c (ops.length + k) = x) →
      St0 g (flat c p.al ++ fr) w → (∀ j, j < ops.length → (V.getD j fun _ _ _ => True) (val a) g (c j)) → Q .normal a w) :
    (Code.region id ops.toArray true).wp P Q a0 w0 := by
  have hM' := hM
  simp only [okDraw, Bool.and_eq_true, List.all_eq_true, List.mem_range, beq_iff_eq] at hok
  obtain ⟨⟨hops, hkend⟩, hal⟩ := hok
  have hop : ∀ i o, ops[i]? = some o → okOp p ops (cloF [] ops) i o = true := by
    intro i o ho
    have hi : i < ops.length := by
      rcases Nat.lt_or_ge i ops.length with h | h
      · exact h
      · simp [List.getElem?_eq_none h] at ho
    have := hops i hi
    rwa [ho] at this
  have hedge : ∀ i o, ops[i]? = some o → ∀ j ∈ edgesOf o, j < i := by
    intro i o ho j hj
    have h := hop i o ho
    simp only [okOp, Bool.and_eq_true, List.all_eq_true] at h
    have := h.1.1.1.1.1.1.2 j hj
    simpa using this
  have hclo : ∀ i o, ops[i]? = some o → ∀ j, j ∈ (cloF [] ops).getD i [] → ∃ q, q ∈ edgesOf o ∧ (j = q ∨ j ∈ (cloF [] ops).getD q []) := by
    intro i o ho j hj
    have := cloF_spec ops [] i o ho (by intro j hj; have := hedge i o ho j hj; simpa using this) j
    simp only [List.length_nil, Nat.zero_add] at this
    exact this hj
  -- what stands ahead of a listed operation is listed
  have hdown : ∀ (listed : Array Bool), (∀ i o, ops[i]? = some o → listed.getD i false = true → ∀ j ∈ edgesOf o, listed.getD j false = true) →
      ∀ i o, ops[i]? = some o → (∀ j ∈ edgesOf o, listed.getD j false = true) → ∀ j, j ∈ (cloF [] ops).getD i [] → listed.getD j false = true := by
    intro listed hd i
    induction i using Nat.strongRecOn with
    | _ i ih =>
      intro o ho he j hj
      obtain ⟨q, hq, h⟩ := hclo i o ho j hj
      have hql := he q hq
      rcases h with rfl | h
      · exact hql
      · have hqi := hedge i o ho q hq
        have hqN : q < ops.length := by
          have : i < ops.length := by
            rcases Nat.lt_or_ge i ops.length with h | h
            · exact h
            · simp [List.getElem?_eq_none h] at ho
          omega
        have hoq : ops[q]? = some ops[q] := List.getElem?_eq_getElem hqN
        exact ih q hqi _ hoq (hd q _ hoq hql) j h
  have hbind : ∀ (o : Oper), (∀ x ∈ o.after, Region.binds .any x = true → ∀ (l : Array Bool), l.getD x.on false = true → True) := fun _ _ _ _ _ _ => trivial
  have main : ∀ (fuel : Nat) (listed : Array Bool) (a : Act) (w : World), Inv n e p V ops.length ops init g0 fr a0 listed a w → (List.range ops.length).countP (fun k => !listed.getD k false) ≤ fuel →
      wpAny P .any ops.toArray Q fuel listed a w := by
    intro fuel
    have hfin : ∀ (listed : Array Bool) (a : Act) (w : World), Inv n e p V ops.length ops init g0 fr a0 listed a w → Region.ready .any ops.toArray listed = [] → Q .normal a w := by
      intro listed a w I hr
      -- all are listed
      have hall : ∀ i, i < ops.length → listed.getD i false = true := by
        intro i
        induction i using Nat.strongRecOn with
        | _ i ih =>
          intro hi
          cases hl : listed.getD i false with
          | true => rfl
          | false =>
            exfalso
            have ho : ops[i]? = some ops[i] := List.getElem?_eq_getElem hi
            have hl' : listed.getD i true = false := by
              have : i < listed.size := by rw [I.size]; exact hi
              simp only [Array.getD_eq_getD_getElem?, Array.getElem?_eq_getElem this, Option.getD_some] at hl ⊢
              exact hl
            have : i ∈ Region.ready .any ops.toArray listed := by
              rw [mem_ready]
              refine ⟨hl', ops[i], by simp, ?_⟩
              intro x hx hb
              have hmem : x.on ∈ edgesOf ops[i] := by
                simp only [edgesOf, List.mem_map, List.mem_filter]
                exact ⟨x, ⟨by simpa using hx, hb⟩, rfl⟩
              have := hedge i _ ho _ hmem
              exact ih x.on this (by omega)
            rw [hr] at this
            cases this
      obtain ⟨g, c, h1, h2, h3, h4⟩ := I.rest
      refine hend a w g c I.sz I.df ?_ h1 h2 ?_ (fun j hj => h4 j hj (hall j hj))
      · intro t ht v hv
        rw [I.old t ?_]
        · exact F.get t v hv
        · intro k o ho _
          have hk : k < ops.length := by
            rcases Nat.lt_or_ge k ops.length with h | h
            · exact h
            · simp [List.getElem?_eq_none h] at ho
          have := hkend t ht k hk
          rw [ho] at this
          simpa using this
      · rw [hal]
        have : ((List.range (ops.length + p.M)).filter fun k => (Nat.ble ops.length k || listed.getD k false) && (List.range ops.length).all fun m => !(listed.getD m false && (p.tk.getD m []).contains k)) =
            (List.range (ops.length + p.M)).filter fun k => (List.range ops.length).all fun m => !(p.tk.getD m []).contains k := by
          apply List.filter_congr
          intro k hk
          have e1 : (Nat.ble ops.length k || listed.getD k false) = true := by
            rcases Nat.lt_or_ge k ops.length with h | h
            · rw [hall k h, Bool.or_true]
            · rw [Nat.ble_eq_true_of_le h, Bool.true_or]
          rw [e1, Bool.true_and, Bool.eq_iff_iff]
          simp only [List.all_eq_true, List.mem_range]
          constructor
          · intro h m hm; have := h m hm; rw [hall m hm, Bool.true_and] at this; exact this
          · intro h m hm; rw [hall m hm, Bool.true_and]; exact h m hm
        rw [← this]; exact h3
    induction fuel with
    | zero =>
      intro listed a w I hc
      have : Region.ready .any ops.toArray listed = [] := by
        rw [List.eq_nil_iff_forall_not_mem]
        intro i hi
        rw [mem_ready] at hi
        obtain ⟨hl, o, ho, _⟩ := hi
        have hi' : i < ops.length := by
          rcases Nat.lt_or_ge i ops.length with h | h
          · exact h
          · simp [List.getElem?_eq_none h] at ho
        have hc0 : (List.range ops.length).countP (fun k => !listed.getD k false) = 0 := by omega
        rw [List.countP_eq_zero] at hc0
        have := hc0 i (List.mem_range.2 hi')
        simp only [Bool.not_eq_true', Bool.not_eq_false] at this
        have hsz : i < listed.size := by rw [I.size]; exact hi'
        simp only [Array.getD_eq_getD_getElem?, Array.getElem?_eq_getElem hsz, Option.getD_some] at hl this
        rw [hl] at this
        cases this
      exact ⟨this, hfin listed a w I this⟩
    | succ fuel ih =>
      intro listed a w I hc
      refine ⟨hfin listed a w I, fun i hi => ?_⟩
      rw [mem_ready] at hi
      obtain ⟨hl, o, ho, hall⟩ := hi
      have ho' : ops[i]? = some o := by simpa using ho
      have hi' : i < ops.length := by
        rcases Nat.lt_or_ge i ops.length with h | h
        · exact h
        · simp [List.getElem?_eq_none h] at ho'
      have hsz : i < listed.size := by rw [I.size]; exact hi'
      have hlf : listed.getD i false = false := by
        simp only [Array.getD_eq_getD_getElem?, Array.getElem?_eq_getElem hsz, Option.getD_some] at hl ⊢
        exact hl
      have hedg : ∀ j ∈ edgesOf o, listed.getD j false = true := by
        intro j hj
        simp only [edgesOf, List.mem_map, List.mem_filter] at hj
        obtain ⟨x, ⟨hx, hb⟩, rfl⟩ := hj
        exact hall x (by simpa using hx) hb
      have hcl := hdown listed I.down i o ho' hedg
      have hck := hop i o ho'
      simp only [okOp, Bool.and_eq_true, List.all_eq_true, List.mem_range, Bool.or_eq_true, Nat.beq_eq, List.contains_eq_mem, decide_eq_true_eq, Bool.not_eq_true', decide_eq_false_iff_not, Nat.ble_eq, Nat.blt_eq] at hck
      obtain ⟨⟨⟨⟨⟨⟨⟨hgd, _⟩, hnd⟩, huse⟩, htak⟩, hsl⟩, hkp⟩, hnd2⟩ := hck
      have hgn : o.guard = Option.none := by
        cases hgu : o.guard with
        | none => rfl
        | some x => rw [hgu] at hgd; cases hgd
      obtain ⟨g, c, hLe, hini, hS, hV⟩ := I.rest
      have hlive : ∀ k ∈ p.tk.getD i [] ++ p.rd.getD i [], k ∈ ((List.range (ops.length + p.M)).filter fun k => (Nat.ble ops.length k || listed.getD k false) && (List.range ops.length).all fun m => !(listed.getD m false && (p.tk.getD m []).contains k)) := by
        intro k hk
        obtain ⟨h1, h2⟩ := huse k hk
        rw [List.mem_filter]
        refine ⟨List.mem_range.2 h2, ?_⟩
        simp only [Bool.and_eq_true, Bool.or_eq_true, Nat.ble_eq, List.all_eq_true, List.mem_range, Bool.not_eq_true', Bool.and_eq_false_iff, List.contains_eq_mem, decide_eq_false_iff_not]
        refine ⟨?_, ?_⟩
        · rcases h1 with h1 | h1
          · exact .inl h1
          · exact .inr (hcl k h1)
        · intro m hm
          by_cases hmi : m = i
          · subst hmi; exact .inl hlf
          · rcases htak m hm with h | h
            · exact absurd h hmi
            · by_cases hkm : k ∈ p.tk.getD m []
              · obtain ⟨h3, h4⟩ := h k hkm
                rcases List.mem_append.1 hk with h5 | h5
                · exact absurd h5 h3
                · have him : i ∈ (cloF [] ops).getD m [] := by
                    rcases h4 with h4 | h4
                    · exact absurd h5 h4
                    · exact h4
                  left
                  cases hlm : listed.getD m false with
                  | false => rfl
                  | true =>
                    have hom : ops[m]? = some ops[m] := List.getElem?_eq_getElem hm
                    have := hdown listed I.down m _ hom (I.down m _ hom hlm) i him
                    rw [hlf] at this
                    cases this
              · exact .inr hkm
      generalize hL : ((List.range (ops.length + p.M)).filter fun k => (Nat.ble ops.length k || listed.getD k false) && (List.range ops.length).all fun m => !(listed.getD m false && (p.tk.getD m []).contains k)) = L at hS hlive
      have hLn : L.Nodup := by rw [← hL]; exact List.nodup_range.sublist List.filter_sublist
      have hpm := perm_split (nodupB_spec hnd) hLn hlive
      have hS1 : St0 g (flat c (p.tk.getD i []) ++ (flat c (p.rd.getD i []) ++ (flat c (L.filter fun x => !(p.tk.getD i [] ++ p.rd.getD i []).contains x) ++ fr))) w := by
        refine hS.perm ?_
        have := (flat_perm c hpm).append_right fr
        rw [flat_append, flat_append] at this
        simpa [List.append_assoc] using this
      have hrun := (Locs.get hloc i o ho') a w g c _ I.sz I.df (by
          intro t ht v hv
          rw [I.old t ?_]
          · exact F.get t v hv
          · intro k q hq hlk
            have hk : k < ops.length := by
              rcases Nat.lt_or_ge k ops.length with h | h
              · exact h
              · simp [List.getElem?_eq_none h] at hq
            have := hkp t (by rw [Nat.zero_add] at ht; exact ht) k hk
            rw [hq] at this
            rcases this with (h | h) | h
            · exact h
            · subst h; rw [hlf] at hlk; cases hlk
            · have := hdown listed I.down k q hq (I.down k q hq hlk) i h
              rw [hlf] at this; cases this) hLe (by
          intro j hj
          rw [Nat.zero_add] at hj
          have hjc : j ∈ (cloF [] ops).getD i [] := by
            simp only [subL, List.all_eq_true, List.contains_eq_mem, decide_eq_true_eq] at hnd2
            exact hnd2 j hj
          have hjl := hcl j hjc
          have hjN : j < ops.length := by
            rcases Nat.lt_or_ge j ops.length with h | h
            · exact h
            · have : listed.getD j false = false := by simp [Array.getD_eq_getD_getElem?, Array.getElem?_eq_none (by rw [I.size]; exact h)]
              rw [this] at hjl; cases hjl
          exact hV j hjN hjl) hini (by simp only [Nat.zero_add]; exact hS1)
      simp only [Nat.zero_add] at hrun
      -- from the list of one operation to the operation
      unfold wpOp
      rw [ho]
      simp only
      have hw : Region.wanted o (yielded ops.toArray a.tmps) = true := wn hgn
      rw [if_pos hw]
      unfold wpList at hrun
      rw [if_pos hw] at hrun
      rcases hrun with hrun | ⟨_, a1, w1, h1⟩
      case inr => exact absurd h1.1 (by simp)
      refine .inl ?_
      unfold Oper.wp at hrun ⊢
      have hrun2 := upon_put (fun a' w' h => by unfold wpList at h; exact h.2.2.1) hrun
      refine upon_mono (Q := fun en a' w' => en = Exit.normal ∧ a'.tmps.size = n ∧ a'.defers = [] ∧ ∃ g' ci, Le g g' ∧ St0 g' (ci ++ (flat c (p.rd.getD i []) ++ (flat c (L.filter fun x => !(p.tk.getD i [] ++ p.rd.getD i []).contains x) ++ fr))) w' ∧ (V.getD i fun _ _ _ => True) (val a') g' ci) ?_ ?_ hrun2
      · rintro a' w' ⟨hh, v, hput⟩
        unfold wpList at hh
        obtain ⟨_, hs', hd', g', ci, hLe', hS', hV'⟩ := hh
        have hgetn : ∀ k, k ≠ i → (listed.setIfInBounds i true).getD k false = listed.getD k false := by
          intro k hk
          simp [Array.getD_eq_getD_getElem?, Ne.symm hk]
        have hgeti : (listed.setIfInBounds i true).getD i false = true := by
          simp [Array.getD_eq_getD_getElem?, hsz]
        have hget : ∀ k, listed.getD k false = true → (listed.setIfInBounds i true).getD k false = true := by
          intro k hk
          by_cases h : k = i
          · subst h; exact hgeti
          · rw [hgetn k h]; exact hk
        refine ih _ a' w' ?_ ?_
        · refine ⟨by simp [I.size], ?_, hs', hd', ?_, ?_⟩
          · intro k q hq hk j hj
            by_cases h : k = i
            · subst h
              rw [ho'] at hq; cases hq
              exact hget j (hedg j hj)
            · rw [hgetn k h] at hk
              exact hget j (I.down k q hq hk j hj)
          · intro t ht
            have hwi := ht i o ho' hgeti
            rw [hput, val_put hwi]
            exact I.old t fun k q hq hk => ht k q hq (hget k hk)
          · refine ⟨g', fun k => if k = i then ci else c k, hLe.trans hLe', ?_, ?_, ?_⟩
            · intro k x hx
              have : ops.length + k ≠ i := by omega
              simp only [if_neg this]
              exact hini k x hx
            · -- the owned memory
              have hnotin : i ∉ p.tk.getD i [] ++ p.rd.getD i [] := by
                intro hii
                have := (huse i hii).1
                rcases this with h | h
                · omega
                · have := hcl i h; rw [hlf] at this; cases this
              have hrdn : ∀ k ∈ p.rd.getD i [], k ∉ p.tk.getD i [] := by
                intro k hk hk2
                have := nodupB_spec hnd
                rw [List.nodup_append] at this
                exact this.2.2 k hk2 k hk rfl
              have hiL : i ∉ L := by
                rw [← hL, List.mem_filter]
                rintro ⟨_, h⟩
                simp only [Bool.and_eq_true, Bool.or_eq_true, Nat.ble_eq] at h
                rcases h.1 with h | h
                · omega
                · rw [hlf] at h; cases h
              have hperm : ((List.range (ops.length + p.M)).filter fun k => (Nat.ble ops.length k || (listed.setIfInBounds i true).getD k false) && (List.range ops.length).all fun m => !((listed.setIfInBounds i true).getD m false && (p.tk.getD m []).contains k)).Perm
                  (i :: (p.rd.getD i [] ++ L.filter fun x => !(p.tk.getD i [] ++ p.rd.getD i []).contains x)) := by
                rw [List.perm_ext_iff_of_nodup (List.nodup_range.sublist List.filter_sublist)]
                · intro k
                  rw [List.mem_filter, List.mem_cons, List.mem_append, List.mem_filter]
                  simp only [List.mem_range, Bool.and_eq_true, Bool.or_eq_true, Nat.ble_eq, List.all_eq_true, Bool.not_eq_true', Bool.and_eq_false_iff, List.contains_eq_mem, decide_eq_false_iff_not, List.mem_append, not_or]
                  have hmemL : k ∈ L ↔ k < ops.length + p.M ∧ (ops.length ≤ k ∨ listed.getD k false = true) ∧ ∀ m, m < ops.length → listed.getD m false = false ∨ k ∉ p.tk.getD m [] := by
                    rw [← hL, List.mem_filter]
                    simp only [List.mem_range, Bool.and_eq_true, Bool.or_eq_true, Nat.ble_eq, List.all_eq_true, Bool.not_eq_true', Bool.and_eq_false_iff, List.contains_eq_mem, decide_eq_false_iff_not]
                  constructor
                  · rintro ⟨h1, h2, h3⟩
                    by_cases hki : k = i
                    · exact .inl hki
                    · right
                      rw [hgetn k hki] at h2
                      have hkt : k ∉ p.tk.getD i [] := by
                        rcases h3 i hi' with h | h
                        · rw [hgeti] at h; cases h
                        · exact h
                      have hkL : k ∈ L := by
                        rw [hmemL]
                        refine ⟨h1, h2, fun m hm => ?_⟩
                        by_cases hmi : m = i
                        · subst hmi; exact .inr hkt
                        · have := h3 m hm; rwa [hgetn m hmi] at this
                      by_cases hkr : k ∈ p.rd.getD i []
                      · exact .inl hkr
                      · exact .inr ⟨hkL, hkt, hkr⟩
                  · rintro (rfl | h | ⟨h, hkt, hkr⟩)
                    · refine ⟨by omega, .inr hgeti, fun m hm => ?_⟩
                      by_cases hmi : m = k
                      · subst hmi
                        exact .inr fun h => hnotin (List.mem_append_left _ h)
                      · rw [hgetn m hmi]
                        by_cases hkm : k ∈ p.tk.getD m []
                        · left
                          cases hlm : listed.getD m false with
                          | false => rfl
                          | true =>
                            -- m took what k makes: k is ahead of m
                            have hom : ops[m]? = some ops[m] := List.getElem?_eq_getElem hm
                            have hckm := hop m _ hom
                            simp only [okOp, Bool.and_eq_true, List.all_eq_true, List.mem_range, Bool.or_eq_true, Nat.beq_eq, List.contains_eq_mem, decide_eq_true_eq, Bool.not_eq_true', decide_eq_false_iff_not, Nat.ble_eq, Nat.blt_eq] at hckm
                            have hu := (hckm.1.1.1.1.2 k (List.mem_append_left _ hkm)).1
                            rcases hu with hu | hu
                            · omega
                            · have := hdown listed I.down m _ hom (I.down m _ hom hlm) k hu
                              rw [hlf] at this; cases this
                        · exact .inr hkm
                    · have hkL := hlive k (List.mem_append_right _ h)
                      have hki : k ≠ i := fun e => hnotin (List.mem_append_right _ (e ▸ h))
                      rw [hmemL] at hkL
                      refine ⟨hkL.1, by rw [hgetn k hki]; exact hkL.2.1, fun m hm => ?_⟩
                      by_cases hmi : m = i
                      · subst hmi; exact .inr (hrdn k h)
                      · rw [hgetn m hmi]; exact hkL.2.2 m hm
                    · have hki : k ≠ i := fun e => hiL (e ▸ h)
                      rw [hmemL] at h
                      refine ⟨h.1, by rw [hgetn k hki]; exact h.2.1, fun m hm => ?_⟩
                      by_cases hmi : m = i
                      · subst hmi; exact .inr hkt
                      · rw [hgetn m hmi]; exact h.2.2 m hm
                · rw [List.nodup_cons]
                  refine ⟨?_, ?_⟩
                  · rw [List.mem_append, not_or]
                    exact ⟨fun h => hnotin (List.mem_append_right _ h), fun h => hiL (List.mem_filter.1 h).1⟩
                  · rw [List.nodup_append]
                    have hn2 := nodupB_spec hnd
                    rw [List.nodup_append] at hn2
                    refine ⟨hn2.2.1, hLn.sublist List.filter_sublist, ?_⟩
                    intro x hx y hy he
                    subst he
                    rw [List.mem_filter] at hy
                    simp only [List.contains_eq_mem, Bool.not_eq_true', decide_eq_false_iff_not, List.mem_append, not_or] at hy
                    exact hy.2.2 hx
              refine hS'.perm ?_
              refine List.Perm.trans ?_ ((flat_perm _ hperm).append_right fr).symm
              have e1 : flat (fun k => if k = i then ci else c k) (i :: (p.rd.getD i [] ++ L.filter fun x => !(p.tk.getD i [] ++ p.rd.getD i []).contains x)) =
                  ci ++ (flat c (p.rd.getD i []) ++ flat c (L.filter fun x => !(p.tk.getD i [] ++ p.rd.getD i []).contains x)) := by
                simp only [flat, List.flatMap_cons, if_true, List.flatMap_append]
                congr 2
                · exact flat_congr (c := fun k => if k = i then ci else c k) (c' := c) fun k hk => if_neg fun (he : k = i) => hnotin (List.mem_append_right _ (by rw [he] at hk; exact hk))
                · exact flat_congr (c := fun k => if k = i then ci else c k) (c' := c) fun k hk => if_neg fun (he : k = i) => hiL (by rw [he] at hk; exact (List.mem_filter.1 hk).1)
              rw [e1]
              simp [List.append_assoc]
            · intro j hj hjl
              by_cases hji : j = i
              · subst hji
                simp only [if_true]
                exact hV'
              · simp only [if_neg hji]
                rw [hgetn j hji] at hjl
                have h1 := hV j hj hjl
                refine hmono j _ g g' _ hLe' (hcong j (val a) (val a') g _ ?_ h1)
                intro t ht
                rw [hput]
                refine (val_put ?_).symm
                cases hwt : writes o t with
                | false => rfl
                | true =>
                  exfalso
                  have hoj : ops[j]? = some ops[j] := List.getElem?_eq_getElem hj
                  have hckj := hop j _ hoj
                  simp only [okOp, Bool.and_eq_true, List.all_eq_true, List.mem_range, Bool.or_eq_true, Nat.beq_eq, List.contains_eq_mem, decide_eq_true_eq, Bool.not_eq_true', decide_eq_false_iff_not, Nat.ble_eq, Nat.blt_eq] at hckj
                  have h2 := hckj.1.1.2 t ht i hi'
                  rw [ho'] at h2
                  rcases h2 with (h | h) | h
                  · have h3 : writes o t = false := h
                    rw [hwt] at h3; cases h3
                  · exact hji h.symm
                  · have := hdown listed I.down j _ hoj (I.down j _ hoj hjl) i h
                    rw [hlf] at this; cases this
        · have : (List.range ops.length).countP (fun k => !(listed.setIfInBounds i true).getD k false) < (List.range ops.length).countP (fun k => !listed.getD k false) := by
            apply countP_lt
            · intro k _ hk
              simp only [Bool.not_eq_true'] at hk ⊢
              by_cases h : k = i
              · subst h; exact hlf
              · rwa [hgetn k h] at hk
            · exact ⟨i, List.mem_range.2 hi', by simp only [hlf, Bool.not_false], by simp only [hgeti, Bool.not_true]⟩
          omega
      · intro en a' w' hne hh
        exact absurd hh.1 hne
  refine wp_region_any hm ?_
  have hzero : ∀ k, (Array.replicate ops.toArray.size false).getD k false = false := by
    intro k
    simp [Array.getD_eq_getD_getElem?, Array.getElem?_replicate]
    split <;> rfl
  refine main _ _ _ _ ?_ ?_
  · refine ⟨by simp, ?_, F.sz, F.df, fun _ _ => rfl, g0, fun k => init.getD (k - ops.length) [], Le.refl _, ?_, ?_, ?_⟩
    · intro i o _ h; rw [hzero] at h; cases h
    · intro k x hx
      simp [List.getD_eq_getElem?_getD, hx]
    · have hfil : ((List.range (ops.length + p.M)).filter fun k => (Nat.ble ops.length k || (Array.replicate ops.toArray.size false).getD k false) && (List.range ops.length).all fun m => !((Array.replicate ops.toArray.size false).getD m false && (p.tk.getD m []).contains k)) = (List.range p.M).map (ops.length + ·) := by
        have e1 : ∀ k, ((Nat.ble ops.length k || (Array.replicate ops.toArray.size false).getD k false) && (List.range ops.length).all fun m => !((Array.replicate ops.toArray.size false).getD m false && (p.tk.getD m []).contains k)) = Nat.ble ops.length k := by
          intro k
          simp only [hzero, Bool.or_false, Bool.false_and, Bool.not_false]
          simp
        simp only [e1]
        rw [List.range_add, List.filter_append]
        have e2 : (List.range ops.length).filter (fun k => Nat.ble ops.length k) = [] := by
          rw [List.filter_eq_nil_iff]; intro k hk; simp at hk ⊢; omega
        have e3 : ((List.range p.M).map (ops.length + ·)).filter (fun k => Nat.ble ops.length k) = (List.range p.M).map (ops.length + ·) := by
          rw [List.filter_eq_self]; intro k hk; simp at hk; obtain ⟨q, _, rfl⟩ := hk; simp
        rw [e2, e3, List.nil_append]
      rw [hfil]
      have hfl : flat (fun k => init.getD (k - ops.length) []) ((List.range p.M).map (ops.length + ·)) ++ fr = fl init fr := by
        rw [← hM']
        clear hfil hend hloc S hal hM hM'
        have key : ∀ (l : List Hl) (m : Nat), (List.range l.length).flatMap (fun k => l.getD k []) ++ fr = fl l fr := by
          intro l
          induction l with
          | nil => intro _; rfl
          | cons x r ih =>
            intro m
            simp only [List.length_cons, List.range_succ_eq_map, List.flatMap_cons, List.flatMap_map, fl, List.append_assoc]
            congr 1
            exact ih m
        have := key init 0
        rw [← this]
        congr 1
        simp only [flat, List.flatMap_map]
        congr 1
        funext k
        simp
      rw [hfl]
      exact S.keep rfl rfl rfl rfl
    · intro j _ h; rw [hzero] at h; cases h
  · exact Nat.le_trans List.countP_le_length (by simp)
 where
  countP_lt {l : List Nat} {p q : Nat → Bool} (h : ∀ k ∈ l, p k = true → q k = true) (hx : ∃ k ∈ l, q k = true ∧ p k = false) : l.countP p < l.countP q := by
    induction l with
    | nil => obtain ⟨k, hk, _⟩ := hx; cases hk
    | cons x r ih =>
      have hmono : r.countP p ≤ r.countP q := List.countP_mono_left fun k hk => h k (by simp [hk])
      obtain ⟨k, hk, h1, h2⟩ := hx
      rw [List.countP_cons, List.countP_cons]
      rcases List.mem_cons.1 hk with rfl | hk
      · rw [if_pos h1, h2]; simp; omega
      · have := ih (fun k hk => h k (by simp [hk])) ⟨k, hk, h1, h2⟩
        have hx2 := h x (by simp)
        cases hpx : p x with
        | true => rw [hx2 hpx]; simp; exact this
        | false => simp; split <;> omega

/-! ## the shape that printed walks use -/
abbrev Wt := List Value → Gh → Hl → Prop
def mkV (p : List Nat × Wt) : Vt := fun s g c => p.2 (p.1.map s) g c

def MonoAll : List (List Nat × Wt) → Prop
  | [] => True
  | p :: r => (∀ us g g' c, Le g g' → p.2 us g c → p.2 us g' c) ∧ MonoAll r

theorem MonoAll.get : ∀ {l : List (List Nat × Wt)}, MonoAll l → ∀ i s g g' c, Le g g' → ((l.map mkV).getD i fun _ _ _ => True) s g c → ((l.map mkV).getD i fun _ _ _ => True) s g' c
  | [], _, i, s, g, g', c, _, h => by simp
  | p :: r, hm, 0, s, g, g', c, hl, h => by
    simp only [List.map_cons, List.getD_cons_zero, mkV] at h ⊢
    exact hm.1 _ _ _ _ hl h
  | p :: r, hm, i + 1, s, g, g', c, hl, h => by
    simp only [List.map_cons, List.getD_cons_succ] at h ⊢
    exact MonoAll.get hm.2 i s g g' c hl h

theorem cong_all : ∀ (l : List (List Nat × Wt)) (i : Nat) (s s' : Nat → Value) (g : Gh) (c : Hl), (∀ t ∈ (l.map (·.1)).getD i [], s t = s' t) → ((l.map mkV).getD i fun _ _ _ => True) s g c → ((l.map mkV).getD i fun _ _ _ => True) s' g c
  | [], i, s, s', g, c, _, h => by simp
  | p :: r, 0, s, s', g, c, hs, h => by
    simp only [List.map_cons, List.getD_cons_zero, mkV] at hs h ⊢
    rwa [List.map_congr_left hs] at h
  | p :: r, i + 1, s, s', g, c, hs, h => by
    simp only [List.map_cons, List.getD_cons_succ] at hs h ⊢
    exact cong_all r i s s' g c hs h

theorem wp_drawL {id : Nat} {ops : List Oper} {Q : Exit → Act → World → Prop} {a0 : Act} {w0 : World} {g0 : Gh} {init : List Hl} {fr : Hl} (p : Plan) (V : List (List Nat × Wt))
    (hm : P.follows .mixedOrders = true) (hok : okDraw p ops = true) (hsl : p.sl = V.map (·.1)) (hM : init.length = p.M) (hmono : MonoAll V)
    (F : Fr n a0 e) (S : St g0 init fr w0)
    (hloc : Locs P n e p (V.map mkV) ops.length init g0 ops.toArray 0 ops)
    (hend : ∀ (a : Act) (w : World) (g : Gh) (c : Nat → Hl), a.tmps.size = n → a.defers = [] → (∀ t ∈ p.kend, ∀ v, look e t = some v → val a t = v) → Le g0 g → (∀ k x, init[k]? = some x → c (ops.length + k) = x) →
      St0 g (flat c p.al ++ fr) w → (∀ j, j < ops.length → ((V.map mkV).getD j fun _ _ _ => True) (val a) g (c j)) → Q .normal a w) :
    (Code.region id ops.toArray true).wp P Q a0 w0 := by
  have hc : ∀ i s s' g c, (∀ t ∈ p.sl.getD i [], s t = s' t) → ((V.map mkV).getD i fun _ _ _ => True) s g c → ((V.map mkV).getD i fun _ _ _ => True) s' g c := by
    rw [hsl]; exact cong_all V
  exact wp_draw p (V.map mkV) hm hok hM hc (fun i s g g' c => MonoAll.get hmono i s g g' c) F S hloc hend

def AllV (a : Act) : List (Nat × Value) → Prop
  | [] => True
  | p :: r => val a p.1 = p.2 ∧ AllV a r

theorem AllV.look {a : Act} : ∀ {e : List (Nat × Value)}, AllV a e → ∀ t v, look e t = some v → val a t = v
  | [], _, t, v, h => by cases h
  | p :: r, ha, t, v, h => by
    simp only [Dc.look] at h
    cases hb : Nat.beq p.1 t with
    | true =>
      rw [hb] at h
      simp only [cond_true, Option.some.injEq] at h
      rw [← Nat.eq_of_beq_eq_true hb, ← h]
      exact ha.1
    | false =>
      rw [hb] at h
      exact ha.2.look t v h

theorem Fr.of {a : Act} {e : List (Nat × Value)} (hs : a.tmps.size = n) (hd : a.defers = []) (h : AllV a e) : Fr n a e := ⟨hs, hd, fun t v hl => h.look t v hl⟩

theorem flat_fl (c : Nat → Hl) (ks : List Nat) (G : Hl) : flat c ks ++ G = fl (ks.map c) G := by
  induction ks with
  | nil => rfl
  | cons k r ih => simp only [flat, List.flatMap_cons, List.map_cons, fl, List.append_assoc] at ih ⊢; rw [ih]

theorem flat2 (c : Nat → Hl) (tk rd : List Nat) (G : Hl) : flat c tk ++ (flat c rd ++ G) = fl (tk.map c ++ rd.map c) G := by
  rw [flat_fl, flat_fl, fl_append]

theorem flat3 (c : Nat → Hl) (os : List Hl) (rd : List Nat) (G : Hl) : fl os [] ++ (flat c rd ++ G) = fl (os ++ rd.map c) G := by
  rw [flat_fl]
  induction os with
  | nil => rfl
  | cons o r ih => simp only [fl, List.cons_append, List.append_assoc] at ih ⊢; rw [ih]

theorem nth {a b : List Value} (h : a = b) (k : Nat) : a.getD k undef = b.getD k undef := by rw [h]

theorem lst1 {x a : Value} (h : x = a) : [x] = [a] := by rw [h]
theorem lst2 {x y a b : Value} (h : x = a) (h' : y = b) : [x, y] = [a, b] := by rw [h, h']
theorem lst3 {x y z a b c : Value} (h : x = a) (h' : y = b) (h'' : z = c) : [x, y, z] = [a, b, c] := by rw [h, h', h'']

theorem ev_makeFunc {C : World → Prop} {f : FuncId} {xs : List Operand} {vs : List Value} (hxs : xs.map (evalE e) = vs.map some) : Ev P n e C (.makeFunc (.func f) #[] xs.toArray) (.func (.func f) #[] vs.toArray) := by
  intro o a w ho F _
  have hm : xs.map a.eval = vs := by
    clear ho
    induction xs generalizing vs with
    | nil => cases vs with
      | nil => rfl
      | cons u r => simp at hxs
    | cons p r ih => cases vs with
      | nil => simp at hxs
      | cons u s =>
        simp only [List.map_cons, List.cons.injEq] at hxs ⊢
        exact ⟨F.eval hxs.1, ih hxs.2⟩
  simp [execOp, ho, Instr.makeFunc, hm]

theorem flat3s (c : Nat → Hl) (o : Hl) (rd : List Nat) (G : Hl) : o ++ (flat c rd ++ G) = fl ([o] ++ rd.map c) G := by
  rw [flat_fl]; rfl
theorem lst4 {x y z u a b c d : Value} (h : x = a) (h' : y = b) (h'' : z = c) (h3 : u = d) : [x, y, z, u] = [a, b, c, d] := by rw [h, h', h'', h3]

end Go.Dc
