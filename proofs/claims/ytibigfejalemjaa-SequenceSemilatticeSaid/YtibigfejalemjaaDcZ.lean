/- slices.Insert and slices.Delete at slices whose elements own memory: from the contracts at bare rows of cells. -/
import Derived.Test.YtibigfejalemjaaDcY
import Derived.ChangeKeysEq
set_option linter.unusedVariables false
namespace Go.Dc
open Go
variable {P : Program}

section
variable {α : Type} [Rep α] [ORep α]

/-- rows of cells with their own memory, element by element -/
structure PW (g : Gh) (l : List α) (rl : List (Raw (Rep.n α))) (ks : List Hl) : Prop where
  hl : rl.length = l.length
  hk : ks.length = l.length
  at_ : ∀ i (h : i < l.length) (h1 : i < rl.length) (h2 : i < ks.length), ORep.orep g l[i] rl[i].cs ks[i]

theorem PW.mono {g g' : Gh} {l : List α} {rl : List (Raw (Rep.n α))} {ks : List Hl} (hl : Le g g') (h : PW g l rl ks) : PW g' l rl ks := ⟨h.hl, h.hk, fun i a b c => ORep.omono hl (h.at_ i a b c)⟩

theorem PW.append {g : Gh} {l m : List α} {rl rm : List (Raw (Rep.n α))} {kl km : List Hl} (h : PW g l rl kl) (h' : PW g m rm km) : PW g (l ++ m) (rl ++ rm) (kl ++ km) where
  hl := by rw [List.length_append, List.length_append, h.hl, h'.hl]
  hk := by rw [List.length_append, List.length_append, h.hk, h'.hk]
  at_ := by
    intro i a b c
    have e1 := h.hl
    have e2 := h.hk
    by_cases hi : i < l.length
    · rw [List.getElem_append_left hi, List.getElem_append_left (by omega), List.getElem_append_left (by omega)]
      exact h.at_ i hi _ _
    · rw [List.length_append] at a
      have e3 := h'.hl
      have e4 := h'.hk
      rw [List.getElem_append_right (by omega), List.getElem_append_right (by omega), List.getElem_append_right (by omega)]
      have f1 : i - rl.length = i - l.length := by omega
      have f2 : i - kl.length = i - l.length := by omega
      simp only [f1, f2]
      exact h'.at_ (i - l.length) (by omega) (by omega) (by omega)

theorem PW.take {g : Gh} {l : List α} {rl : List (Raw (Rep.n α))} {ks : List Hl} (h : PW g l rl ks) (p : Nat) : PW g (l.take p) (rl.take p) (ks.take p) where
  hl := by rw [List.length_take, List.length_take, h.hl]
  hk := by rw [List.length_take, List.length_take, h.hk]
  at_ := by
    intro i a b c
    rw [List.getElem_take, List.getElem_take, List.getElem_take]
    rw [List.length_take] at a b c
    exact h.at_ i (by omega) (by omega) (by omega)

theorem PW.drop {g : Gh} {l : List α} {rl : List (Raw (Rep.n α))} {ks : List Hl} (h : PW g l rl ks) (p : Nat) : PW g (l.drop p) (rl.drop p) (ks.drop p) where
  hl := by rw [List.length_drop, List.length_drop, h.hl]
  hk := by rw [List.length_drop, List.length_drop, h.hk]
  at_ := by
    intro i a b c
    rw [List.getElem_drop, List.getElem_drop, List.getElem_drop]
    rw [List.length_drop] at a b c
    exact h.at_ (p + i) (by omega) (by omega) (by omega)

theorem OwnN.pw {g : Gh} {l : List α} {v : Value} {c : Hl} (h : OwnN g l v c) : ∃ (rl : List (Raw (Rep.n α))) (ca : Hl) (ks : List Hl), OwnS g rl v ca ∧ c.Perm (ca ++ ks.flatten) ∧ PW g l rl ks := by
  obtain ⟨rl, ca, ks, h1, h2, h3, h4, h5⟩ := h
  exact ⟨rl, ca, ks, h1, h2, h3, h4, h5⟩

theorem PW.own {g : Gh} {l : List α} {v : Value} {ca : Hl} {rl : List (Raw (Rep.n α))} {ks : List Hl} (h : PW g l rl ks) (ho : OwnS g rl v ca) : OwnN g l v (ca ++ ks.flatten) :=
  ⟨rl, ca, ks, ho, List.Perm.refl _, h.hl, h.hk, h.at_⟩

theorem ins?_mk {β : Type} {bytes : Nat} {s v : List β} {p : Nat} (hp : p ≤ s.length) (hv : v.length = 1) (hb : (s.length + 1) * bytes ≤ 140737488355328) : ins? bytes s (p : Int) v = some (s.take p ++ v ++ s.drop p) := by
  match v, hv with
  | [x], _ =>
    unfold ins?
    simp only
    rw [if_pos (by omega)]
    have : app? bytes s [x] = some (s ++ [x]) := by unfold app?; rw [if_pos (by simpa using hb)]
    rw [this, Option.bind_some, Int.toNat_natCast]

theorem del?_mk {β : Type} {s : List β} {p q : Nat} (hpq : p ≤ q) (hq : q ≤ s.length) : del? s (p : Int) (q : Int) = some (s.take p ++ s.drop q) := by
  unfold del?
  rw [if_pos (by omega), Int.toNat_natCast, Int.toNat_natCast]

theorem flat_cut (ks : List Hl) (p : Nat) : ks.flatten = (ks.take p).flatten ++ (ks.drop p).flatten := by rw [← List.flatten_append, List.take_append_drop]

theorem insN_ok {f : Nat} {bytes : Nat}
    (raw : ∀ {g : Gh} {fr : Hl} {w : World} {r : List (Raw (Rep.n α))} (s_ : List (Raw (Rep.n α))) (vs_1 : Value) (c_1 : Hl) (os_1 : OwnS g s_ vs_1 c_1) (i_ : Int) (v_ : List (Raw (Rep.n α))) (vv_1 : Value) (c_2 : Hl) (ov_1 : OwnS g v_ vv_1 c_2) (S : St g [c_1, c_2] fr w) (hm : ins? bytes s_ i_ v_ = some r),
      Calls P f [vs_1, .int .i64 i_, vv_1].toArray w (fun en w' => ∃ v, en = .returned v ∧ ∃ (g' : Gh) (v1 : Value) (c1 : Hl), Le g g' ∧ St g' [c1] fr w' ∧ OwnS g' r v1 c1 ∧ v1 = v))
    {g : Gh} {fr : Hl} {w : World} {r : List α} (s_ : List α) (vs_1 : Value) (c_1 : Hl) (os_1 : OwnN g s_ vs_1 c_1) (i_ : Int) (v_ : List α) (vv_1 : Value) (c_2 : Hl) (ov_1 : OwnN g v_ vv_1 c_2) (S : St g [c_1, c_2] fr w) (hm : ins? bytes s_ i_ v_ = some r) :
    Calls P f [vs_1, .int .i64 i_, vv_1].toArray w (fun en w' => ∃ v, en = .returned v ∧ ∃ (g' : Gh) (v1 : Value) (c1 : Hl), Le g g' ∧ St g' [c1] fr w' ∧ OwnN g' r v1 c1 ∧ v1 = v) := by
  obtain ⟨rl, ca, ks, h1, h2, h3⟩ := os_1.pw
  obtain ⟨rl', ca', ks', h1', h2', h3'⟩ := ov_1.pw
  obtain ⟨p, rfl, hp, hv1, hb, rfl⟩ := ins?_some hm
  have hm' : ins? bytes rl (p : Int) rl' = some (rl.take p ++ rl' ++ rl.drop p) := ins?_mk (by rw [h3.hl]; exact hp) (by rw [h3'.hl]; exact hv1) (by rw [h3.hl]; exact hb)
  have S' : St g [ca, ca'] (ks.flatten ++ (ks'.flatten ++ fr)) w := by
    refine St0.perm S ?_
    simp only [fl]
    refine (List.Perm.append h2 (List.Perm.append_right fr h2')).trans ?_
    simp only [List.append_assoc]
    refine List.Perm.append_left ca ?_
    rw [← List.append_assoc ks.flatten, ← List.append_assoc ca']
    exact List.Perm.append_right _ List.perm_append_comm
  refine (raw rl vs_1 ca h1 p rl' vv_1 ca' h1' S' hm').mono ?_
  rintro e w' ⟨v, rfl, g', v1, c1, hl, S2, ho, rfl⟩
  have hpw := ((h3.take p).append h3').append (h3.drop p)
  refine ⟨_, rfl, g', v1, _, hl, ?_, (hpw.mono hl).own ho, rfl⟩
  refine St0.perm S2 ?_
  simp only [fl, List.flatten_append, List.append_assoc]
  rw [flat_cut ks p]
  simp only [List.append_assoc]
  refine List.Perm.append_left c1 (List.Perm.append_left _ ?_)
  rw [← List.append_assoc, ← List.append_assoc ks'.flatten]
  exact List.Perm.append_right fr List.perm_append_comm

theorem delN_ok {f : Nat}
    (raw : ∀ {g : Gh} {fr : Hl} {w : World} {r : List (Raw (Rep.n α))} (s_ : List (Raw (Rep.n α))) (vs_1 : Value) (c_1 : Hl) (os_1 : OwnS g s_ vs_1 c_1) (i_ j_ : Int) (S : St g [c_1] fr w) (hm : del? s_ i_ j_ = some r),
      Calls P f [vs_1, .int .i64 i_, .int .i64 j_].toArray w (fun en w' => ∃ v, en = .returned v ∧ ∃ (g' : Gh) (v1 : Value) (c1 : Hl), Le g g' ∧ St g' [c1] fr w' ∧ OwnS g' r v1 c1 ∧ v1 = v))
    {g : Gh} {fr : Hl} {w : World} {r : List α} (s_ : List α) (vs_1 : Value) (c_1 : Hl) (os_1 : OwnN g s_ vs_1 c_1) (i_ j_ : Int) (S : St g [c_1] fr w) (hm : del? s_ i_ j_ = some r) :
    Calls P f [vs_1, .int .i64 i_, .int .i64 j_].toArray w (fun en w' => ∃ v, en = .returned v ∧ ∃ (g' : Gh) (v1 : Value) (c1 : Hl), Le g g' ∧ St g' [c1] fr w' ∧ OwnN g' r v1 c1 ∧ v1 = v) := by
  obtain ⟨rl, ca, ks, h1, h2, h3⟩ := os_1.pw
  obtain ⟨p, q, rfl, rfl, hpq, hq, rfl⟩ := del?_some hm
  have hm' : del? rl (p : Int) (q : Int) = some (rl.take p ++ rl.drop q) := del?_mk hpq (by rw [h3.hl]; exact hq)
  have S' : St g [ca] (ks.flatten ++ fr) w := by
    refine St0.perm S ?_
    simp only [fl]
    refine (List.Perm.append_right fr h2).trans ?_
    rw [List.append_assoc]
  refine (raw rl vs_1 ca h1 p q S' hm').mono ?_
  rintro e w' ⟨v, rfl, g', v1, c1, hl, S2, ho, rfl⟩
  have hpw := (h3.take p).append (h3.drop q)
  refine ⟨_, rfl, g', v1, _, hl, ?_, (hpw.mono hl).own ho, rfl⟩
  have hsub : (ks.drop q).flatten.Sublist (ks.drop p).flatten := by
    have : ks.drop q = (ks.drop p).drop (q - p) := by rw [List.drop_drop]; congr 1; omega
    rw [this]
    have e := flat_cut (ks.drop p) (q - p)
    rw [e]
    exact List.sublist_append_right _ _
  refine St0.sub S2 ?_
  simp only [fl, List.flatten_append, List.append_assoc]
  rw [flat_cut ks p]
  simp only [List.append_assoc]
  exact List.Sublist.append_left (List.Sublist.append_left (List.Sublist.append_right hsub fr) _) _
end

/-! ## lent for reading -/
theorem St0.thaw {g g' : Gh} {c o : Hl} {w w' : World} (S : St0 g (c ++ o) w) (hl : Le (g.add c) g') (S' : St0 g' o w') : St0 g (c ++ o) w' := by
  have l0 : Le g g' := (Le.add g c).trans hl
  have hw := S'.weak l0
  refine ⟨hw.snap, fun p hp => ⟨?_, (S.own p hp).2⟩, S.nd, hw.os, hw.out, hw.tape, hw.dr⟩
  rcases List.mem_append.1 hp with h | h
  · exact S'.snap _ _ (hl.snap _ _ (Gh.add_snap S h))
  · exact (S'.own p h).1

theorem lend {f : Nat} {args : Array Value} {g : Gh} {c : Hl} {cks : List Hl} {fr : Hl} {w : World} {rv : Value} (S : St g (c :: cks) fr w)
    (K : St (g.add c) [] (fl cks fr) w → Fz (g.add c) c → Calls P f args w (fun en w' => ∃ v, en = .returned v ∧ ∃ g', Le (g.add c) g' ∧ St g' [] (fl cks fr) w' ∧ rv = v)) :
    Calls P f args w (fun en w' => ∃ v, en = .returned v ∧ ∃ g', Le g g' ∧ St g' (c :: cks) fr w' ∧ rv = v) := by
  have S0 : St0 g (c ++ fl cks fr) w := S
  refine (K (St0.freeze S0) (Fz.add S0)).mono ?_
  rintro e w' ⟨v, rfl, g', hl, S', rfl⟩
  exact ⟨_, rfl, g, Le.refl g, St0.thaw S0 hl S', rfl⟩

/-- a place in an array in a row, its number a constant -/
theorem ev_idxArr {n : Fw} {e : List (Nat × Value)} {C : World → Prop} {T E len z m : Nat} {x y : Operand} {k : IntKind} {i : Int} {p q : Value} (hT : P.underlying T = some (.array len E)) (hz : (P.info? E).map (·.size) = some z) (hi : 0 ≤ i ∧ i < len)
    (hx : evalE e x = some p) (hy : evalE e y = some (.int k i)) (hp : ∃ a, p = .pointer (some a)) (hm : m = i.toNat * z) (hq : addP p m = q) : Ev P n e C (.indexAddr T x y) q := by
  intro o a w ho F _
  obtain ⟨ad, rfl⟩ := hp
  subst hm hq
  simp [execOp, ho, F.eval hx, F.eval hy, Instr.indexAt, asIntOf, run_underlying hT, hi.1, hi.2, run_sizeOf' hz, Instr.sureAddr, addP]

/-! equality of arrays of leaves -/
def AllLeafA (P : Program) (E : TypeId) (k : Nat) (xs ys : List Value) : List Nat → List Bool → Prop
  | [], bs => bs = []
  | i :: is, bs => ∃ b bs', bs = b :: bs' ∧ (∃ x y, xs[i * k]? = some x ∧ ys[i * k]? = some y ∧ LeafEq P E x y b) ∧ AllLeafA P E k xs ys is bs'

theorem run_eqItems_leaf {E : TypeId} {k : Nat} {xs ys : List Value} (d : Nat) (w : World) : ∀ (is : List Nat) {bs : List Bool}, AllLeafA P E k xs ys is bs → (Op.eqItems (d + 1) E k xs.toArray ys.toArray is).run P w = .ok (allB bs) w
  | [], bs, hl => by
    simp only [AllLeafA] at hl
    subst hl
    simp [Op.eqItems, allB]
  | i :: is, bs, hl => by
    simp only [AllLeafA] at hl
    obtain ⟨b, bs', rfl, ⟨x, y, hx, hy, ⟨dd, hu, hag⟩, he⟩, hr⟩ := hl
    have ih := run_eqItems_leaf d w is hr
    have px : (part E xs.toArray (i * k)).run P w = .ok x w := by simp [part, run_isAgg' hu, hag, hx]
    have py : (part E ys.toArray (i * k)).run P w = .ok y w := by simp [part, run_isAgg' hu, hag, hy]
    simp only [Op.eqItems, Sem.run_bind, px, py, Result.andThen_ok, he d w, allB_cons]
    cases b
    · simp
    · simpa using ih

theorem run_eqA {T E : TypeId} {N k : Nat} {xs ys : List Value} {is : List Nat} {bs : List Bool} (hT : P.underlying T = some (.array N E)) (hz : (P.info? E).map (·.size) = some k) (his : List.range N = is) (h : AllLeafA P E k xs ys is bs) (w : World) :
    (Op.equal T (.agg xs.toArray) (.agg ys.toArray)).run P w = .ok (allB bs) w := by
  simp only [Op.equal, Op.maxDepth]
  cases hi : P.info? E with
  | none => rw [hi] at hz; cases hz
  | some i =>
    rw [run_equalIn_array w 9999 _ _ hT hi, his]
    have hk : P.cellsOf E = k := by
      rw [hi] at hz
      simp [Program.cellsOf, hi] at hz ⊢
      exact hz
    rw [hk]
    exact run_eqItems_leaf 9998 w is h

theorem ev_eqA {n : Fw} {e : List (Nat × Value)} {C : World → Prop} {T E U : TypeId} {N k : Nat} {x y : Operand} {xs ys : List Value} {is : List Nat} {bs : List Bool} (hT : P.underlying T = some (.array N E)) (hz : (P.info? E).map (·.size) = some k) (hgd : P.eqGuardType P.depth T = false) (his : List.range N = is)
    (hx : evalE e x = some (.agg xs.toArray)) (hy : evalE e y = some (.agg ys.toArray)) (h : AllLeafA P E k xs ys is bs) : Ev P n e C (.binOp .eql T x y U) (.bool (allB bs)) := by
  intro o a w ho F _
  simp [execOp, ho, F.eval hx, F.eval hy, eqGuard, hgd, binOp, run_eqA hT hz his h]

theorem ev_neA {n : Fw} {e : List (Nat × Value)} {C : World → Prop} {T E U : TypeId} {N k : Nat} {x y : Operand} {xs ys : List Value} {is : List Nat} {bs : List Bool} (hT : P.underlying T = some (.array N E)) (hz : (P.info? E).map (·.size) = some k) (hgd : P.eqGuardType P.depth T = false) (his : List.range N = is)
    (hx : evalE e x = some (.agg xs.toArray)) (hy : evalE e y = some (.agg ys.toArray)) (h : AllLeafA P E k xs ys is bs) : Ev P n e C (.binOp .neq T x y U) (.bool (!allB bs)) := by
  intro o a w ho F _
  simp [execOp, ho, F.eval hx, F.eval hy, eqGuard, hgd, binOp, run_eqA hT hz his h]

/-- the first cells behind a pointer -/
theorem fieldP0 {w : World} {p : Value} {cs cells : List Value} (h : PtrW w p cs) (hc : (cs.drop 0).take cells.length = cells) (hm : 0 + cells.length ≤ cs.length) : PtrW w p cells := by
  have := fieldP 0 h hc hm
  rwa [addP_zero] at this
/-! a cell that is not told: some number lies there -/
def RepH (_ : Gh) (l : List Unit) (v : Value) : Prop := l = [] ∧ ∃ n : Int, v = .int .i64 n
theorem RepH.mono {g g' : Gh} {l : List Unit} {v : Value} (_ : Le g g') (h : RepH g l v) : RepH g' l v := h
theorem RepH.one {g : Gh} {l : List Unit} {v : Value} (h : RepH g l v) : oneC v = true := by obtain ⟨_, n, rfl⟩ := h; rfl
theorem RepH.int {g : Gh} {n : Int} : RepH g ([] : List Unit) (.int .i64 n) := ⟨rfl, n, rfl⟩

theorem RepSl.mapR {α β : Type} [Rep α] [Rep β] {f : α → β} {g : Gh} {l : List α} {v : Value} (hf : ∀ {g : Gh} {x : α} {cs : List Value}, Rep.rep g x cs → Rep.rep g (f x) cs) (hn : Rep.n β = Rep.n α) (h : RepSl g l v) : RepSl g (l.map f) v := by
  rcases h with ⟨rfl, h⟩ | ⟨b, off, cap, c, t, fz, h1, h2, h3, h4, h5⟩
  · exact .inl ⟨rfl, h⟩
  · refine .inr ⟨b, off, cap, c, t, fz, by rw [List.length_map]; exact h1, by rw [List.length_map]; exact h2, h3, by rw [List.length_map, hn]; exact h4, fun i hi => ?_⟩
    rw [List.length_map] at hi
    rw [List.getElem_map, hn]; exact hf (h5 i hi)

theorem OwnS.mapR {α β : Type} [Rep α] [Rep β] {f : α → β} {g : Gh} {l : List α} {v : Value} {c : Hl} (hf : ∀ {g : Gh} {x : α} {cs : List Value}, Rep.rep g x cs → Rep.rep g (f x) cs) (hn : Rep.n β = Rep.n α) (h : OwnS g l v c) : OwnS g (l.map f) v c := by
  rcases h with ⟨h1, rfl, h2⟩ | ⟨b, cap, arr, t, h1, h2, h3, h4, h5⟩
  · exact .inl ⟨h1, rfl, h2⟩
  · refine .inr ⟨b, cap, arr, t, by rw [List.length_map]; exact h1, h2, by rw [List.length_map]; exact h3, by rw [hn]; exact h4, fun i hi => ?_⟩
    rw [List.length_map] at hi
    rw [List.getElem_map, hn]; exact hf (h5 i hi)
end Go.Dc
