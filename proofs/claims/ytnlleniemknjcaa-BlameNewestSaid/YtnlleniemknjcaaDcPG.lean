/- The document's alignment: the same steps. -/
import Derived.Test.YtnlleniemknjcaaDcPF
set_option linter.unusedSimpArgs false
namespace Go.Dc
open Go

theorem lcs_step : ∀ (a b : List ByteArray) (y : ByteArray), lcs a (y :: b) ≤ lcs a b + 1 ∧ lcs a b ≤ lcs a (y :: b)
  | [], b, y => by simp [lcs]
  | x :: a, [], y => by
    rw [lcs_cons, lcs_nil_r, lcs_nil_r]
    have := lcs_step a [] y
    rw [lcs_nil_r] at this
    split <;> omega
  | x :: a, z :: b, y => by
    have h1 := lcs_step a (z :: b) y
    have h5 := lcs_step (z :: b) a x
    rw [lcs_comm (z :: b) (x :: a), lcs_comm (z :: b) a] at h5
    rw [lcs_cons x y]
    split <;> omega
 termination_by a b => a.length + b.length

theorem lcs_step_l (a b : List ByteArray) (x : ByteArray) : lcs (x :: a) b ≤ lcs a b + 1 ∧ lcs a b ≤ lcs (x :: a) b := by
  rw [lcs_comm (x :: a) b, lcs_comm a b]; exact lcs_step b a x

/-- the table, column by column: what is there from column j on, in column j from row i on -/
def Col (a b : List ByteArray) (j : Nat) (c : List Int) (i : Nat) : Prop := c.length = a.length + 1 ∧ ∀ p (h : p < c.length), i ≤ p ∨ p = a.length → c[p] = (lcs (a.drop p) (b.drop j) : Nat)
def Cols (a b : List ByteArray) (T : List (List Int)) (j : Nat) : Prop := T.length = b.length + 1 ∧ ∀ q (h : q < T.length), j ≤ q → Col a b q T[q] 0

variable {a b : List ByteArray} (hs : (a.length + 1) * (b.length + 1) * 24 ≤ 140737488355328)
section
include hs

theorem small_r : (a.length + 1) * 24 ≤ 140737488355328 ∧ (b.length + 1) * 24 ≤ 140737488355328 := by
  constructor
  · exact Nat.le_trans (Nat.mul_le_mul_right _ (Nat.le_mul_of_pos_right _ (by omega))) hs
  · exact Nat.le_trans (Nat.mul_le_mul_right _ (Nat.le_mul_of_pos_left _ (by omega))) hs

theorem col_loop {j : Nat} (hj : j < b.length) : ∀ (i : Nat) (T : List (List Int)), i ≤ a.length → Cols a b T (j + 1) → (∃ h : j < T.length, Col a b j T[j] i) →
    ∃ T', iter (fun s => changeforgeref1_suffixes.l2 a b (j : Int) s.1 s.2) ((i : Int) - 1, T) = some T' ∧ Cols a b T' j := by
  obtain ⟨s1, s2⟩ := small_r hs
  intro i
  induction i with
  | zero =>
    intro T _ hT ⟨h, hc⟩
    refine ⟨T, iter_done ?_, hT.1, fun q hq hjq => ?_⟩
    · unfold changeforgeref1_suffixes.l2
      simp (implicitDefEqProofs := false) (disch := omega) only [ite_dec, if_neg]
    · by_cases he : q = j
      · subst he; exact hc
      · exact hT.2 q hq (by omega)
  | succ i ih =>
    intro T hi hT ⟨h, hc⟩
    have hTl := hT.1
    have hj1 : j + 1 < T.length := by omega
    obtain ⟨c1, c2⟩ := hT.2 (j + 1) hj1 (by omega)
    obtain ⟨d1, d2⟩ := hc
    have hia : i < a.length := by omega
    have v1 : T[j + 1][i]'(by omega) = (lcs (a.drop i) (b.drop (j + 1)) : Nat) := c2 i (by omega) (.inl (by omega))
    have v2 : T[j + 1][i + 1]'(by omega) = (lcs (a.drop (i + 1)) (b.drop (j + 1)) : Nat) := c2 (i + 1) (by omega) (.inl (by omega))
    have v3 : T[j][i + 1]'(by omega) = (lcs (a.drop (i + 1)) (b.drop j) : Nat) := d2 (i + 1) (by omega) (.inl (by omega))
    have e1 : at? T ((j : Int) + 1) = some T[j + 1] := by rw [show (j : Int) + 1 = ((j + 1 : Nat) : Int) from rfl]; exact at_nat hj1
    have e2 : at? T (j : Int) = some T[j] := at_nat h
    have e3 : at? T[j + 1] (i : Int) = some T[j + 1][i] := at_nat (by omega)
    have e4 : at? T[j + 1] ((i : Int) + 1) = some (T[j + 1][i + 1]'(by omega)) := by rw [show (i : Int) + 1 = ((i + 1 : Nat) : Int) from rfl]; exact at_nat (by omega)
    have e5 : at? T[j] ((i : Int) + 1) = some (T[j][i + 1]'(by omega)) := by rw [show (i : Int) + 1 = ((i + 1 : Nat) : Int) from rfl]; exact at_nat (by omega)
    have e6 : at? T[j] (i : Int) = some (T[j][i]'(by omega)) := at_nat (by omega)
    have b0 := lcs_le (a.drop (i + 1)) (b.drop (j + 1))
    have b1 := lcs_le (a.drop i) (b.drop (j + 1))
    have b2 := lcs_le (a.drop (i + 1)) (b.drop j)
    simp only [List.length_drop] at b0 b1 b2
    have hda := drop_cons hia
    have hdb := drop_cons hj
    have k1 := lcs_step (a.drop (i + 1)) (b.drop (j + 1)) b[j]
    have k2 := lcs_step_l (a.drop (i + 1)) (b.drop (j + 1)) a[i]
    rw [← hdb] at k1
    rw [← hda] at k2
    have hl := lcs_cons a[i] b[j] (a.drop (i + 1)) (b.drop (j + 1))
    rw [← hda, ← hdb] at hl
    have fin : ∀ n : Int, n = (lcs (a.drop i) (b.drop j) : Nat) → changeforgeref1_suffixes.j5 (j : Int) (i : Int) n T = some (.next ((i : Int) - 1, T.set j (T[j].set i n))) := by
      intro n _
      unfold changeforgeref1_suffixes.j5
      simp (implicitDefEqProofs := false) (disch := omega) only [e2, e6, Option.bind_some, ck_eq, Int.toNat_natCast]
    have j4e : ∀ n : Int, n = max (lcs (a.drop (i + 1)) (b.drop j) : Nat) (lcs (a.drop i) (b.drop (j + 1)) : Nat) →
        changeforgeref1_suffixes.j4 a b (j : Int) (i : Int) n T = some (.next ((i : Int) - 1, T.set j (T[j].set i ((lcs (a.drop i) (b.drop j) : Nat) : Int)))) := by
      intro n hn
      unfold changeforgeref1_suffixes.j4
      simp (implicitDefEqProofs := false) (disch := omega) only [at_nat hia, at_nat hj, Option.bind_some, ck_eq, e1, e4, v2, ite_dec]
      by_cases heq : a[i] = b[j]
      · rw [if_pos heq] at hl ⊢
        simp only [Option.bind_some, decide_eq_true_eq]
        by_cases hgt : ((lcs (a.drop (i + 1)) (b.drop (j + 1)) : Nat) : Int) + 1 > n
        · rw [if_pos hgt, fin _ (by omega), hl]; rfl
        · rw [if_neg hgt, fin _ (by omega)]
          rw [show n = ((lcs (a.drop i) (b.drop j) : Nat) : Int) by omega]
      · rw [if_neg heq] at hl ⊢
        simp only [Option.bind_some, Bool.false_eq_true, if_false]
        rw [fin _ (by omega), show n = ((lcs (a.drop i) (b.drop j) : Nat) : Int) by omega]
    have e0 : changeforgeref1_suffixes.l2 a b (j : Int) (((i + 1 : Nat) : Int) - 1) T = some (.next ((i : Int) - 1, T.set j (T[j].set i ((lcs (a.drop i) (b.drop j) : Nat) : Int)))) := by
      rw [show ((i + 1 : Nat) : Int) - 1 = (i : Int) by omega]
      unfold changeforgeref1_suffixes.l2
      simp (implicitDefEqProofs := false) (disch := omega) only [ite_dec, if_pos, ck_eq, Option.bind_some, e1, e3, e2, e5, v1, v3]
      by_cases hgt : ((lcs (a.drop (i + 1)) (b.drop j) : Nat) : Int) > ((lcs (a.drop i) (b.drop (j + 1)) : Nat) : Int)
      · rw [if_pos hgt, j4e _ (by omega)]
      · rw [if_neg hgt, j4e _ (by omega)]
    rw [iter_next e0]
    refine ih _ (by omega) ⟨by simpa using hTl, fun q hq hjq => ?_⟩ ⟨by simpa using h, ?_⟩
    · have hq' : q < T.length := by simpa using hq
      rw [List.getElem_set_ne (by omega)]; exact hT.2 q hq' hjq
    · rw [List.getElem_set_self]
      refine ⟨by simpa using d1, fun p hp hip => ?_⟩
      have hp' : p < T[j].length := by simpa using hp
      by_cases hpi : p = i
      · subst hpi; simp
      · rw [List.getElem_set_ne (Ne.symm hpi)]; exact d2 p hp' (by omega)

theorem suffix_key : ∀ (j : Nat) (T : List (List Int)), j ≤ b.length + 1 → Cols a b T j → ∃ T', iter (fun s => changeforgeref1_suffixes.l1 a b s.1 s.2) ((j : Int) - 1, T) = some T' ∧ Cols a b T' 0 := by
  obtain ⟨s1, s2⟩ := small_r hs
  intro j
  induction j with
  | zero =>
    intro T _ hT
    refine ⟨T, iter_done ?_, hT⟩
    unfold changeforgeref1_suffixes.l1
    simp (implicitDefEqProofs := false) (disch := omega) only [ite_dec, if_neg]
  | succ j ih =>
    intro T hj hT
    have hTl := hT.1
    have hjT : j < T.length := by omega
    have hm : mk? 8 ((a.length : Int) + 1) (0 : Int) = some (List.replicate (a.length + 1) 0) := by
      rw [mk_eq (by omega) (by omega), show ((a.length : Int) + 1).toNat = a.length + 1 by omega]
    have hset : Cols a b (T.set j (List.replicate (a.length + 1) 0)) (j + 1) := by
      refine ⟨by simpa using hTl, fun q hq hjq => ?_⟩
      have hq' : q < T.length := by simpa using hq
      rw [List.getElem_set_ne (by omega)]; exact hT.2 q hq' (by omega)
    by_cases hjb : j = b.length
    · subst hjb
      have e0 : changeforgeref1_suffixes.l1 a b (((b.length + 1 : Nat) : Int) - 1) T = some (.next ((b.length : Int) - 1, T.set b.length (List.replicate (a.length + 1) 0))) := by
        rw [show ((b.length + 1 : Nat) : Int) - 1 = (b.length : Int) by omega]
        unfold changeforgeref1_suffixes.l1 changeforgeref1_suffixes.j2
        simp (implicitDefEqProofs := false) (disch := omega) only [ite_dec, if_pos, if_true, ck_eq, Option.bind_some, hm, at_nat hjT, Int.toNat_natCast]
      rw [iter_next e0]
      refine ih _ (by omega) ⟨by simpa using hTl, fun q hq hjq => ?_⟩
      have hq' : q < T.length := by simpa using hq
      have : q = b.length := by omega
      subst this
      rw [List.getElem_set_self]
      refine ⟨by simp, fun p hp _ => ?_⟩
      simp [lcs_nil_r]
    · obtain ⟨T', h1, h2⟩ := col_loop hs (j := j) (by omega) a.length (T.set j (List.replicate (a.length + 1) 0)) (Nat.le_refl _) hset ⟨by simpa using hjT, by
        rw [List.getElem_set_self]
        refine ⟨by simp, fun p hp hip => ?_⟩
        have : p = a.length := by simp at hp; omega
        subst this
        simp [lcs_nil_l]⟩
      have e0 : changeforgeref1_suffixes.l1 a b (((j + 1 : Nat) : Int) - 1) T = some (.next ((j : Int) - 1, T')) := by
        rw [show ((j + 1 : Nat) : Int) - 1 = (j : Int) by omega]
        unfold changeforgeref1_suffixes.l1 changeforgeref1_suffixes.j3 changeforgeref1_suffixes.j2
        simp (implicitDefEqProofs := false) (disch := omega) only [ite_dec, if_pos, if_neg, ck_eq, Option.bind_some, hm, at_nat hjT, Int.toNat_natCast, h1]
      rw [iter_next e0]
      exact ih _ (by omega) h2

theorem suffixes_eq : ∃ T, changeforgeref1_suffixes a b = some T ∧ Cols a b T 0 := by
  obtain ⟨s1, s2⟩ := small_r hs
  unfold changeforgeref1_suffixes changeforgeref1_suffixes.j1
  have hm : mk? 24 ((b.length : Int) + 1) ([] : List Int) = some (List.replicate (b.length + 1) []) := by
    rw [mk_eq (by omega) (by omega), show ((b.length : Int) + 1).toNat = b.length + 1 by omega]
  obtain ⟨T', h1, h2⟩ := suffix_key hs (b.length + 1) (List.replicate (b.length + 1) []) (Nat.le_refl _) ⟨by simp, fun q hq hjq => by simp at hq; omega⟩
  rw [show ((b.length + 1 : Nat) : Int) - 1 = (b.length : Int) by omega] at h1
  refine ⟨T', ?_, h2⟩
  rw [ck_eq (by omega) (by omega), Option.bind_some, hm, Option.bind_some, h1, Option.bind_some]
end
end Go.Dc
