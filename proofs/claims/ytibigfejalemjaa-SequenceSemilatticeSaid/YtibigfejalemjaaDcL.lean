/- Slices held against nil; parts of owned slices, for reading. -/
import Derived.Test.YtibigfejalemjaaDcK
namespace Go.Dc
open Go
variable {P : Program} {ρ : Option Nat} {n : Fw} {e : List (Nat × Value)} {C : World → Prop}

/-! ## nil -/
/-- what follows a test whether a slice is nil: an empty list may be nil or not -/
noncomputable def nilIf {α β : Type} (l : List α) (m1 m2 : Option β) : Option β := open Classical in if l = [] then (if m1 = m2 then m1 else Option.none) else m2

theorem nilIf_ne {α β : Type} {l : List α} {m1 m2 : Option β} (h : l ≠ []) : nilIf l m1 m2 = m2 := by unfold nilIf; rw [if_neg h]
theorem nilIf_same {α β : Type} {l : List α} {m1 m2 : Option β} (h : l = [] → m1 = m2) : nilIf l m1 m2 = m2 := by
  unfold nilIf
  by_cases hl : l = []
  · rw [if_pos hl, if_pos (h hl), h hl]
  · rw [if_neg hl]

theorem nilIf_some {α β : Type} {l : List α} {m1 m2 : Option β} {r : β} (h : nilIf l m1 m2 = some r) : m2 = some r ∧ (l = [] → m1 = some r) := by
  unfold nilIf at h
  by_cases hl : l = []
  · rw [if_pos hl] at h
    split at h
    · rename_i he; exact ⟨he ▸ h, fun _ => h⟩
    · cases h
  · rw [if_neg hl] at h; exact ⟨h, fun e => absurd e hl⟩

theorem nil_or {α β : Type} {l : List α} {m1 m2 : Option β} {r : β} {b : Bool} (hb : b = true → l = []) (h : nilIf l m1 m2 = some r) : (b = true ∧ m1 = some r) ∨ (b = false ∧ m2 = some r) := by
  obtain ⟨h1, h2⟩ := nilIf_some h
  cases b with
  | true => exact .inl ⟨rfl, h2 (hb rfl)⟩
  | false => exact .inr ⟨rfl, h1⟩
theorem nil_orx {α β : Type} {l : List α} {m1 m2 : Option β} {r : β} {b : Bool} (hb : b = true → l = []) (h : nilIf l m1 m2 = some r) : ((!b) = false ∧ m1 = some r) ∨ ((!b) = true ∧ m2 = some r) := by
  rcases nil_or hb h with ⟨h1, h2⟩ | ⟨h1, h2⟩
  · exact .inl ⟨by rw [h1]; rfl, h2⟩
  · exact .inr ⟨by rw [h1]; rfl, h2⟩
theorem nil_orn {α β : Type} {l : List α} {m1 m2 : Option β} {r : β} {b : Bool} (hb : b = false → l = []) (h : nilIf l m1 m2 = some r) : (b = false ∧ m1 = some r) ∨ (b = true ∧ m2 = some r) := by
  obtain ⟨h1, h2⟩ := nilIf_some h
  cases b with
  | false => exact .inl ⟨rfl, h2 (hb rfl)⟩
  | true => exact .inr ⟨rfl, h1⟩
theorem nil_ornx {α β : Type} {l : List α} {m1 m2 : Option β} {r : β} {b : Bool} (hb : b = false → l = []) (h : nilIf l m1 m2 = some r) : ((!b) = true ∧ m1 = some r) ∨ ((!b) = false ∧ m2 = some r) := by
  rcases nil_orn hb h with ⟨h1, h2⟩ | ⟨h1, h2⟩
  · exact .inl ⟨by rw [h1]; rfl, h2⟩
  · exact .inr ⟨by rw [h1]; rfl, h2⟩

theorem run_eqNil {T E : TypeId} {a : Option Addr} {m k : Nat} (hT : P.underlying T = some (.slice E)) (w : World) : (Op.equal T (.slice a m k) (.slice Option.none 0 0)).run P w = .ok a.isNone w := by
  have : ∀ d, (Op.equalIn (d + 1) T (.slice a m k) (.slice Option.none 0 0)).run P w = .ok a.isNone w := by
    intro d; cases a <;> simp [Op.equalIn, run_underlying hT]
  exact this 9999

theorem ev_nilV {T E U : TypeId} {x y : Operand} {a : Option Addr} {m k : Nat} (hT : P.underlying T = some (.slice E)) (hx : evalE e x = some (.slice a m k)) (hy : evalE e y = some (.slice Option.none 0 0)) : Ev P n e C (.binOp .eql T x y U) (.bool a.isNone) := by
  intro o ac w ho F _
  simp [execOp, ho, F.eval hx, F.eval hy, eqGuard, binOp, run_eqNil hT]
theorem ev_nenV {T E U : TypeId} {x y : Operand} {a : Option Addr} {m k : Nat} (hT : P.underlying T = some (.slice E)) (hx : evalE e x = some (.slice a m k)) (hy : evalE e y = some (.slice Option.none 0 0)) : Ev P n e C (.binOp .neq T x y U) (.bool (!a.isNone)) := by
  intro o ac w ho F _
  simp [execOp, ho, F.eval hx, F.eval hy, eqGuard, binOp, run_eqNil hT]
theorem ev_nileql0 {T E U : TypeId} {x y : Operand} (hT : P.underlying T = some (.slice E)) (hx : evalE e x = some (.slice Option.none 0 0)) (hy : evalE e y = some (.slice Option.none 0 0)) : Ev P n e C (.binOp .eql T x y U) (.bool true) := ev_nilV hT hx hy
theorem ev_nilneq0 {T E U : TypeId} {x y : Operand} (hT : P.underlying T = some (.slice E)) (hx : evalE e x = some (.slice Option.none 0 0)) (hy : evalE e y = some (.slice Option.none 0 0)) : Ev P n e C (.binOp .neq T x y U) (.bool false) := ev_nenV hT hx hy

theorem RepSl.isnil {α : Type} [Rep α] {g : Gh} {l : List α} {v : Value} (h : RepSl g l v) : ∃ a m k, v = .slice a m k ∧ (a.isNone = true → l = []) := by
  rcases h with ⟨rfl, a, cap, rfl⟩ | ⟨b, off, cap, c, t, fz, rfl, _⟩
  · exact ⟨a, _, _, rfl, fun _ => rfl⟩
  · exact ⟨_, _, _, rfl, fun h => by cases h⟩
theorem OwnS.isnil {α : Type} [Rep α] {g : Gh} {l : List α} {v : Value} {c : Hl} (h : OwnS g l v c) : ∃ a m k, v = .slice a m k ∧ (a.isNone = true → l = []) := by
  rcases h with ⟨rfl, rfl, _⟩ | ⟨b, cap, arr, t, rfl, _⟩
  · exact ⟨_, _, _, rfl, fun _ => rfl⟩
  · exact ⟨_, _, _, rfl, fun h => by cases h⟩

theorem ev_nileqlS {α : Type} [Rep α] {g : Gh} {l : List α} {v : Value} {T E U : TypeId} {x y : Operand} (h : RepSl g l v) (hT : P.underlying T = some (.slice E)) (hx : evalE e x = some v) (hy : evalE e y = some (.slice Option.none 0 0)) :
    ∃ b : Bool, (b = true → l = []) ∧ Ev P n e C (.binOp .eql T x y U) (.bool b) := by
  obtain ⟨a, m, k, rfl, hn⟩ := h.isnil
  exact ⟨_, hn, ev_nilV hT hx hy⟩
theorem ev_nileqlO {α : Type} [Rep α] {g : Gh} {l : List α} {v : Value} {c : Hl} {T E U : TypeId} {x y : Operand} (h : OwnS g l v c) (hT : P.underlying T = some (.slice E)) (hx : evalE e x = some v) (hy : evalE e y = some (.slice Option.none 0 0)) :
    ∃ b : Bool, (b = true → l = []) ∧ Ev P n e C (.binOp .eql T x y U) (.bool b) := by
  obtain ⟨a, m, k, rfl, hn⟩ := h.isnil
  exact ⟨_, hn, ev_nilV hT hx hy⟩
theorem ev_nilneqS {α : Type} [Rep α] {g : Gh} {l : List α} {v : Value} {T E U : TypeId} {x y : Operand} (h : RepSl g l v) (hT : P.underlying T = some (.slice E)) (hx : evalE e x = some v) (hy : evalE e y = some (.slice Option.none 0 0)) :
    ∃ b : Bool, (b = false → l = []) ∧ Ev P n e C (.binOp .neq T x y U) (.bool b) := by
  obtain ⟨a, m, k, rfl, hn⟩ := h.isnil
  exact ⟨_, fun h => hn (by simpa using h), ev_nenV hT hx hy⟩
theorem ev_nilneqO {α : Type} [Rep α] {g : Gh} {l : List α} {v : Value} {c : Hl} {T E U : TypeId} {x y : Operand} (h : OwnS g l v c) (hT : P.underlying T = some (.slice E)) (hx : evalE e x = some v) (hy : evalE e y = some (.slice Option.none 0 0)) :
    ∃ b : Bool, (b = false → l = []) ∧ Ev P n e C (.binOp .neq T x y U) (.bool b) := by
  obtain ⟨a, m, k, rfl, hn⟩ := h.isnil
  exact ⟨_, fun h => hn (by simpa using h), ev_nenV hT hx hy⟩

/-! ## a part of an owned slice, for reading -/
theorem Cat.cut {α : Type} [Rep α] {g : Gh} {l : List α} {cs : List Value} {p q : Nat} (h : Cat g l cs) (hpq : p ≤ q) (hq : q ≤ l.length) : Cat g ((l.take q).drop p) ((cs.drop (p * Rep.n α)).take ((q - p) * Rep.n α)) := by
  obtain ⟨h1, h2⟩ := h
  have e0 : q * Rep.n α ≤ cs.length := by rw [h1]; exact Nat.mul_le_mul_right _ hq
  have e1 : (q - p) * Rep.n α + p * Rep.n α = q * Rep.n α := by rw [← Nat.add_mul]; congr 1; omega
  refine ⟨?_, fun i hi => ?_⟩
  · simp only [List.length_take, List.length_drop]
    rw [Nat.min_eq_left (by omega), Nat.min_eq_left (by omega)]
  · have hi' : p + i < l.length := by simp at hi; omega
    have hiq : i < q - p := by simp at hi; omega
    have hle : i * Rep.n α + Rep.n α ≤ (q - p) * Rep.n α := by
      have : (i + 1) * Rep.n α ≤ (q - p) * Rep.n α := Nat.mul_le_mul_right _ hiq
      rwa [Nat.add_mul, Nat.one_mul] at this
    have := h2 (p + i) hi'
    simp only [List.getElem_drop, List.getElem_take]
    rw [List.drop_take, List.take_take, List.drop_drop, Nat.min_eq_left (by omega), show p * Rep.n α + i * Rep.n α = (p + i) * Rep.n α from by rw [Nat.add_mul]]
    exact this

def ViewS {α : Type} [Rep α] (g : Gh) (l : List α) (v : Value) (c : Hl) : Prop :=
  (∃ a cap, v = .slice a l.length cap) ∧ ∃ cs, Cat g l cs ∧ ∀ (w : World) (cks : List Hl) (fr : Hl) (k : Nat), cks[k]? = some c → St g cks fr w → Reads w (Rep.n α) v l.length cs

theorem ViewS.mono {α : Type} [Rep α] {g g' : Gh} {l : List α} {v : Value} {c : Hl} (hl : Le g g') (h : ViewS g l v c) : ViewS g' l v c := by
  obtain ⟨h1, cs, h2, h3⟩ := h
  exact ⟨h1, cs, ⟨h2.1, fun i hi => Rep.mono hl (h2.2 i hi)⟩, fun w cks fr k hk s => h3 w cks fr k hk (St0.weak hl s)⟩

theorem ev_lenV {α : Type} [Rep α] {g : Gh} {l : List α} {v : Value} {c : Hl} {T E : TypeId} {x : Operand} (h : ViewS g l v c) (hx : evalE e x = some v) (hT : P.underlying T = some (.slice E)) :
    Ev P n e C (.call { callee := .builtin .len, args := #[x], argTypes := #[T] }) (.int .i64 l.length) := by
  obtain ⟨⟨a, cap, rfl⟩, _⟩ := h
  exact ev_len hx hT

theorem ev_cutV {α : Type} [Rep α] {g : Gh} {l : List α} {v : Value} {c : Hl} {T E : TypeId} {x : Operand} {lo hi : Option Operand} {p q : Int} {l' : List α} (hr : OwnS g l v c) (hc : cut? l p q = some l') (hT : P.underlying T = some (.slice E)) (hz : (P.info? E).map (·.size) = some (Rep.n α))
    (hx : evalE e x = some v) (hlo : bnd e lo 0 p) (hhi : bnd e hi l.length q) : ∃ v', ViewS g l' v' c ∧ Ev P n e C (.slice T x lo hi Option.none) v' := by
  have hr0 := hr
  unfold cut? at hc
  split at hc
  case isFalse => cases hc
  rename_i hb
  cases hc
  obtain ⟨h0, h1, h2⟩ := hb
  obtain ⟨p, rfl⟩ := Int.eq_ofNat_of_zero_le h0
  obtain ⟨q, rfl⟩ := Int.eq_ofNat_of_zero_le (show 0 ≤ q from by omega)
  have hpq : p ≤ q := by omega
  have hql : q ≤ l.length := by omega
  obtain ⟨cs, hcat, hown⟩ := hr.cat
  have hcut := hcat.cut hpq hql
  have hlen : ((l.take q).drop p).length = q - p := by simp; omega
  rcases hr with ⟨rfl, rfl, rfl⟩ | ⟨b, cap, arr, t, rfl, rfl, h3, h4, h5⟩
  · have hq0 : q = 0 := by simp at hql; omega
    have hp0 : p = 0 := by omega
    subst hq0; subst hp0
    refine ⟨.slice Option.none 0 0, ⟨⟨_, _, rfl⟩, [], ⟨by simp, fun i hi => by simp at hi⟩, fun w cks fr k hk s => ⟨by simp, one_nil, .inl ⟨rfl, _, _, rfl⟩⟩⟩, ?_⟩
    intro o a w ho F _
    have hb := run_bounds (P := P) (isS := true) (len := 0) (cap := 0) F hlo (by simpa using hhi) (Int.le_refl 0) (Int.le_refl 0) (by omega) w
    simp [execOp, ho, F.eval hx, Instr.sliceAt, Instr.slice, run_underlying hT, hb, run_sizeOf' hz]
  · refine ⟨.slice (some (if cap = p then ⟨b, 0, Option.none⟩ else ⟨b, p * Rep.n α, Option.none⟩)) (q - p) (cap - p), ⟨⟨_, _, by rw [Int.toNat_natCast, Int.toNat_natCast, hlen]⟩, _, by rw [Int.toNat_natCast, Int.toNat_natCast]; exact hcut, ?_⟩, ?_⟩
    · intro w cks fr k hk s
      rw [Int.toNat_natCast, Int.toNat_natCast, hlen]
      refine ⟨by rw [hcut.1, hlen], hcut.one, ?_⟩
      rcases Nat.eq_zero_or_pos (q - p) with hz0 | hz0
      · exact .inl ⟨hz0, _, _, by rw [hz0]⟩
      · have hcp : ¬ cap = p := by omega
        rw [if_neg hcp]
        refine .inr ⟨_, _, rfl, b, p * Rep.n α, arr, t, (0, 0), rfl, s.heap k hk, ?_, ?_⟩
        · rw [hcut.1, hlen, h4, ← Nat.add_mul]; exact Nat.mul_le_mul_right _ (by omega)
        · rw [hcut.1, hlen]
          rcases hown with ⟨h6, _⟩ | ⟨b', cap', arr', t', h6, h7, _, _, h8⟩
          · cases h6
          · cases h6; cases h7
            rw [← h8]
            have e1 : (q - p) * Rep.n α + p * Rep.n α = q * Rep.n α := by rw [← Nat.add_mul]; congr 1; omega
            have e2 : q * Rep.n α ≤ l.length * Rep.n α := Nat.mul_le_mul_right _ hql
            rw [List.drop_take, List.take_take, Nat.min_eq_left (by omega)]
    · intro o a w ho F _
      have hb := run_bounds (P := P) (isS := true) (len := l.length) (cap := cap) F hlo hhi (by omega) (by omega) (by omega) w
      by_cases hcp : cap = p
      · subst hcp
        have hq2 : q = cap := by omega
        subst hq2
        simp [execOp, ho, F.eval hx, Instr.sliceAt, Instr.slice, run_underlying hT, hb, run_sizeOf' hz, add_mk]
      · simp [execOp, ho, F.eval hx, Instr.sliceAt, Instr.slice, run_underlying hT, hb, run_sizeOf' hz, add_mk, hcp]

theorem len_set {α : Type} {l l' : List α} {i : Nat} {z : α} (h : some (l.set i z) = some l') : l'.length = l.length := by rw [← Option.some.inj h]; exact List.length_set ..
/-- a place in an owned slice, by its length alone -/
theorem ev_idxOL {α : Type} [Rep α] {g : Gh} {l l2 : List α} {v : Value} {c : Hl} {i : Int} {z : α} {T E : TypeId} {x y : Operand} {k : IntKind} (hr : OwnS g l v c) (hl : l2.length = l.length) (hi : at? l2 i = some z) (hT : P.underlying T = some (.slice E)) (hz : (P.info? E).map (·.size) = some (Rep.n α))
    (hx : evalE e x = some v) (hy : evalE e y = some (.int k i)) : Ev P n e C (.indexAddr T x y) (elemP v i (Rep.n α)) := by
  obtain ⟨z2, hz2⟩ := at_len hl.symm hi
  exact ev_idxO hr hz2 hT hz hx hy

/-! short words of the printed walks -/
abbrev bp (b o : Nat) : Value := .pointer (some ⟨b, o, Option.none⟩)
abbrev nilS : Value := .slice Option.none 0 0
theorem lb {m n : Nat} (h : Nat.ble m n = true) : m ≤ n := Nat.le_of_ble_eq_true h
theorem sinj {α : Type} {x y : α} (h : some x = some y) : x = y := Option.some.inj h
/-! short words for printed walks -/
abbrev _root_.Go.Value.i6 (x : Int) : Value := .int .i64 x
abbrev bx (b : Nat) (v : Array Value) (t : TypeId) : Nat × Obj := (b, .cells v t (0, 0))
theorem wE {P : Program} {ρ : Option Nat} {n : Fw} {e : List (Nat × Value)} {C : World → Prop} {ops : Array Oper} {rest : List Oper} {o : Oper} {Q : Exit → Act → World → Prop} {a : Act} {w : World} {v : Value} {d : Nat}
    (hev : Ev P n e C o.op v) (F : Fr n a e) (hC : C w) (hd : o.dst = some d)
    (k : ∀ a', Fr n a' ((d, v) :: e) → wpListIn (RW ρ) 0 P ops Q rest a' w) (hg : o.guard = Option.none := by rfl) (hn : Nat.blt d n.sz = true := by rfl) : wpListIn (RW ρ) 0 P ops Q (o :: rest) a w := wl_ev (wn hg) hev F hC hd hn k
/-- a call of a function that has captured nothing -/
theorem wl_call0 {P : Program} {ρ : Option Nat} {n : Fw} {e : List (Nat × Value)} {ops : Array Oper} {rest : List Oper} {o : Oper} {Q : Exit → Act → World → Prop} {a : Act} {w : World} {f : Operand} {fn : FuncId} {xs : List Operand} {vs : List Value} {A : Array TypeId} {d : Nat} {R : Value → World → Prop}
    (hg : Region.wanted o (yielded ops a.tmps) = true) (ho : o.op = .call { callee := .value f, args := xs.toArray, argTypes := A }) (F : Fr n a e) (hf : evalE e f = some (.func (.func fn) #[] #[])) (hc : Calls P fn vs.toArray w (fun en w' => ∃ v, en = .returned v ∧ R v w')) (hxs : xs.map (evalE e) = vs.map some)
    (hent : ∀ args w, (callFunc fn args).run P w = .ok (.enter fn args) w) (hd : o.dst = some d) (hn : Nat.blt d n.sz = true)
    (K : ∀ v a' w', R v w' → Fr n a' ((d, v) :: e) → wpListIn (RW ρ) 0 P ops Q rest a' w') : wpListIn (RW ρ) 0 P ops Q (o :: rest) a w :=
  wl_call (cap := []) hg ho F hf hxs hent (by simpa using hc) hd hn K

end Go.Dc
