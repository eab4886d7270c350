/- Joined by sub.py from texts of mine: XDcVE:both_f XDcPC:ints_eq XDcPG XDcPH:algs,cols_at,alignR_loop,alignR_eq XDcPE -/
import Derived.Test.YthpkobkngplbbaaGreatDoorDcNCz
set_option linter.unusedSimpArgs false
set_option linter.unusedVariables false
set_option maxRecDepth 4000
namespace Go.Dc
open Go

theorem both_f (a b : List ByteArray) : lines_Both a b = some (if (textFault a).Code ≠ 0 then textFault a else if (textFault b).Code = 0 then ⟨0, 0⟩ else ⟨(textFault b).Code, -2⟩) := by
  unfold lines_Both
  rw [validate_f, Option.bind_some]
  rcases textFault_ok a with h | h
  · rw [h, second_f]; rfl
  · rw [if_pos (faultless.2 fun h2 => h h2.1), if_pos h]

theorem ints_eq (a b : List Int) (hb : a.length ≤ 1000000) : changeforgeequal_Ints a b = some (decide (a = b)) := by
  unfold changeforgeequal_Ints
  rw [ite_ndec]
  by_cases hl : (a.length : Int) = (b.length : Int)
  · rw [if_pos hl]
    have hl' : a.length = b.length := by omega
    obtain ⟨r, h1, h2⟩ := iter_rule (m := fun s => changeforgeequal_Ints.l1 a b s) (fun s => ∃ k : Nat, s = (k : Int) ∧ k ≤ a.length ∧ a.take k = b.take k) (fun s => a.length - s.toNat)
      (fun r => (r = .inr () ∧ a = b) ∨ (r = .inl false ∧ a ≠ b)) (by
        rintro s ⟨k, rfl, hk, hall⟩
        unfold changeforgeequal_Ints.l1
        rw [ite_dec]
        by_cases hlt : k < a.length
        · rw [if_pos (by omega), at_nat hlt, Option.bind_some, at_nat (by omega), Option.bind_some, ite_ndec]
          by_cases he : a[k] = b[k]
          · rw [if_pos he, ck_eq (by omega) (by omega), Option.bind_some]
            exact .inl ⟨_, rfl, ⟨k + 1, by omega, hlt, by rw [List.take_succ_eq_append_getElem hlt, List.take_succ_eq_append_getElem (by omega), hall, he]⟩, by omega⟩
          · rw [if_neg he]
            exact .inr ⟨_, rfl, .inr ⟨rfl, fun h => he (by subst h; rfl)⟩⟩
        · rw [if_neg (by omega)]
          refine .inr ⟨_, rfl, .inl ⟨rfl, ?_⟩⟩
          rw [List.take_of_length_le (by omega), List.take_of_length_le (by omega)] at hall
          exact hall) 0 ⟨0, rfl, Nat.zero_le _, by simp⟩
    rw [h1, Option.bind_some]
    rcases h2 with ⟨rfl, h⟩ | ⟨rfl, h⟩
    · rw [decide_eq_true h]; rfl
    · rw [decide_eq_false h]
  · rw [if_neg hl, decide_eq_false (fun h => hl (by rw [h]))]

theorem lcs_step : ∀ (a b : List ByteArray) (y : ByteArray), lcs a (y :: b) ≤ lcs a b + 1 ∧ lcs a b ≤ lcs a (y :: b)
  | [], b, y => by simp [lcs]
  | x :: a, [], y => by
    rw [lcs_cons, lcs_nil_r, lcs_nil_r]
    have := lcs_step a [] y
    rw [lcs_nil_r] at this
    split <;> omega
  | x :: a, z :: b, y => by
    have h1 := lcs_step a (z :: b) y
    have h5 := lcs_step (z :: b) a x
    rw [lcs_comm (z :: b) (x :: a), lcs_comm (z :: b) a] at h5
    rw [lcs_cons x y]
    split <;> omega
 termination_by a b => a.length + b.length

theorem lcs_step_l (a b : List ByteArray) (x : ByteArray) : lcs (x :: a) b ≤ lcs a b + 1 ∧ lcs a b ≤ lcs (x :: a) b := by
  rw [lcs_comm (x :: a) b, lcs_comm a b]; exact lcs_step b a x

/-- the table, column by column: what is there from column j on, in column j from row i on -/
def Col (a b : List ByteArray) (j : Nat) (c : List Int) (i : Nat) : Prop := c.length = a.length + 1 ∧ ∀ p (h : p < c.length), i ≤ p ∨ p = a.length → c[p] = (lcs (a.drop p) (b.drop j) : Nat)
def Cols (a b : List ByteArray) (T : List (List Int)) (j : Nat) : Prop := T.length = b.length + 1 ∧ ∀ q (h : q < T.length), j ≤ q → Col a b q T[q] 0

variable {a b : List ByteArray} (hs : (a.length + 1) * (b.length + 1) * 24 ≤ 140737488355328)
section
include hs

theorem small_r : (a.length + 1) * 24 ≤ 140737488355328 ∧ (b.length + 1) * 24 ≤ 140737488355328 := by
  constructor
  · exact Nat.le_trans (Nat.mul_le_mul_right _ (Nat.le_mul_of_pos_right _ (by omega))) hs
  · exact Nat.le_trans (Nat.mul_le_mul_right _ (Nat.le_mul_of_pos_left _ (by omega))) hs

theorem col_loop {j : Nat} (hj : j < b.length) : ∀ (i : Nat) (T : List (List Int)), i ≤ a.length → Cols a b T (j + 1) → (∃ h : j < T.length, Col a b j T[j] i) →
    ∃ T', iter (fun s => changeforgeref1_suffixes.l2 a b (j : Int) s.1 s.2) ((i : Int) - 1, T) = some T' ∧ Cols a b T' j := by
  obtain ⟨s1, s2⟩ := small_r hs
  intro i
  induction i with
  | zero =>
    intro T _ hT ⟨h, hc⟩
    refine ⟨T, iter_done ?_, hT.1, fun q hq hjq => ?_⟩
    · unfold changeforgeref1_suffixes.l2
      simp (implicitDefEqProofs := false) (disch := omega) only [ite_dec, if_neg]
    · by_cases he : q = j
      · subst he; exact hc
      · exact hT.2 q hq (by omega)
  | succ i ih =>
    intro T hi hT ⟨h, hc⟩
    have hTl := hT.1
    have hj1 : j + 1 < T.length := by omega
    obtain ⟨c1, c2⟩ := hT.2 (j + 1) hj1 (by omega)
    obtain ⟨d1, d2⟩ := hc
    have hia : i < a.length := by omega
    have v1 : T[j + 1][i]'(by omega) = (lcs (a.drop i) (b.drop (j + 1)) : Nat) := c2 i (by omega) (.inl (by omega))
    have v2 : T[j + 1][i + 1]'(by omega) = (lcs (a.drop (i + 1)) (b.drop (j + 1)) : Nat) := c2 (i + 1) (by omega) (.inl (by omega))
    have v3 : T[j][i + 1]'(by omega) = (lcs (a.drop (i + 1)) (b.drop j) : Nat) := d2 (i + 1) (by omega) (.inl (by omega))
    have e1 : at? T ((j : Int) + 1) = some T[j + 1] := by rw [show (j : Int) + 1 = ((j + 1 : Nat) : Int) from rfl]; exact at_nat hj1
    have e2 : at? T (j : Int) = some T[j] := at_nat h
    have e3 : at? T[j + 1] (i : Int) = some T[j + 1][i] := at_nat (by omega)
    have e4 : at? T[j + 1] ((i : Int) + 1) = some (T[j + 1][i + 1]'(by omega)) := by rw [show (i : Int) + 1 = ((i + 1 : Nat) : Int) from rfl]; exact at_nat (by omega)
    have e5 : at? T[j] ((i : Int) + 1) = some (T[j][i + 1]'(by omega)) := by rw [show (i : Int) + 1 = ((i + 1 : Nat) : Int) from rfl]; exact at_nat (by omega)
    have e6 : at? T[j] (i : Int) = some (T[j][i]'(by omega)) := at_nat (by omega)
    have b0 := lcs_le (a.drop (i + 1)) (b.drop (j + 1))
    have b1 := lcs_le (a.drop i) (b.drop (j + 1))
    have b2 := lcs_le (a.drop (i + 1)) (b.drop j)
    simp only [List.length_drop] at b0 b1 b2
    have hda := drop_cons hia
    have hdb := drop_cons hj
    have k1 := lcs_step (a.drop (i + 1)) (b.drop (j + 1)) b[j]
    have k2 := lcs_step_l (a.drop (i + 1)) (b.drop (j + 1)) a[i]
    rw [← hdb] at k1
    rw [← hda] at k2
    have hl := lcs_cons a[i] b[j] (a.drop (i + 1)) (b.drop (j + 1))
    rw [← hda, ← hdb] at hl
    have fin : ∀ n : Int, n = (lcs (a.drop i) (b.drop j) : Nat) → changeforgeref1_suffixes.j5 (j : Int) (i : Int) n T = some (.next ((i : Int) - 1, T.set j (T[j].set i n))) := by
      intro n _
      unfold changeforgeref1_suffixes.j5
      simp (implicitDefEqProofs := false) (disch := omega) only [e2, e6, Option.bind_some, ck_eq, Int.toNat_natCast]
    have j4e : ∀ n : Int, n = max (lcs (a.drop (i + 1)) (b.drop j) : Nat) (lcs (a.drop i) (b.drop (j + 1)) : Nat) →
        changeforgeref1_suffixes.j4 a b (j : Int) (i : Int) n T = some (.next ((i : Int) - 1, T.set j (T[j].set i ((lcs (a.drop i) (b.drop j) : Nat) : Int)))) := by
      intro n hn
      unfold changeforgeref1_suffixes.j4
      simp (implicitDefEqProofs := false) (disch := omega) only [at_nat hia, at_nat hj, Option.bind_some, ck_eq, e1, e4, v2, ite_dec]
      by_cases heq : a[i] = b[j]
      · rw [if_pos heq] at hl ⊢
        simp only [Option.bind_some, decide_eq_true_eq]
        by_cases hgt : ((lcs (a.drop (i + 1)) (b.drop (j + 1)) : Nat) : Int) + 1 > n
        · rw [if_pos hgt, fin _ (by omega), hl]; rfl
        · rw [if_neg hgt, fin _ (by omega)]
          rw [show n = ((lcs (a.drop i) (b.drop j) : Nat) : Int) by omega]
      · rw [if_neg heq] at hl ⊢
        simp only [Option.bind_some, Bool.false_eq_true, if_false]
        rw [fin _ (by omega), show n = ((lcs (a.drop i) (b.drop j) : Nat) : Int) by omega]
    have e0 : changeforgeref1_suffixes.l2 a b (j : Int) (((i + 1 : Nat) : Int) - 1) T = some (.next ((i : Int) - 1, T.set j (T[j].set i ((lcs (a.drop i) (b.drop j) : Nat) : Int)))) := by
      rw [show ((i + 1 : Nat) : Int) - 1 = (i : Int) by omega]
      unfold changeforgeref1_suffixes.l2
      simp (implicitDefEqProofs := false) (disch := omega) only [ite_dec, if_pos, ck_eq, Option.bind_some, e1, e3, e2, e5, v1, v3]
      by_cases hgt : ((lcs (a.drop (i + 1)) (b.drop j) : Nat) : Int) > ((lcs (a.drop i) (b.drop (j + 1)) : Nat) : Int)
      · rw [if_pos hgt, j4e _ (by omega)]
      · rw [if_neg hgt, j4e _ (by omega)]
    rw [iter_next e0]
    refine ih _ (by omega) ⟨by simpa using hTl, fun q hq hjq => ?_⟩ ⟨by simpa using h, ?_⟩
    · have hq' : q < T.length := by simpa using hq
      rw [List.getElem_set_ne (by omega)]; exact hT.2 q hq' hjq
    · rw [List.getElem_set_self]
      refine ⟨by simpa using d1, fun p hp hip => ?_⟩
      have hp' : p < T[j].length := by simpa using hp
      by_cases hpi : p = i
      · subst hpi; simp
      · rw [List.getElem_set_ne (Ne.symm hpi)]; exact d2 p hp' (by omega)

theorem suffix_key : ∀ (j : Nat) (T : List (List Int)), j ≤ b.length + 1 → Cols a b T j → ∃ T', iter (fun s => changeforgeref1_suffixes.l1 a b s.1 s.2) ((j : Int) - 1, T) = some T' ∧ Cols a b T' 0 := by
  obtain ⟨s1, s2⟩ := small_r hs
  intro j
  induction j with
  | zero =>
    intro T _ hT
    refine ⟨T, iter_done ?_, hT⟩
    unfold changeforgeref1_suffixes.l1
    simp (implicitDefEqProofs := false) (disch := omega) only [ite_dec, if_neg]
  | succ j ih =>
    intro T hj hT
    have hTl := hT.1
    have hjT : j < T.length := by omega
    have hm : mk? 8 ((a.length : Int) + 1) (0 : Int) = some (List.replicate (a.length + 1) 0) := by
      rw [mk_eq (by omega) (by omega), show ((a.length : Int) + 1).toNat = a.length + 1 by omega]
    have hset : Cols a b (T.set j (List.replicate (a.length + 1) 0)) (j + 1) := by
      refine ⟨by simpa using hTl, fun q hq hjq => ?_⟩
      have hq' : q < T.length := by simpa using hq
      rw [List.getElem_set_ne (by omega)]; exact hT.2 q hq' (by omega)
    by_cases hjb : j = b.length
    · subst hjb
      have e0 : changeforgeref1_suffixes.l1 a b (((b.length + 1 : Nat) : Int) - 1) T = some (.next ((b.length : Int) - 1, T.set b.length (List.replicate (a.length + 1) 0))) := by
        rw [show ((b.length + 1 : Nat) : Int) - 1 = (b.length : Int) by omega]
        unfold changeforgeref1_suffixes.l1 changeforgeref1_suffixes.j2
        simp (implicitDefEqProofs := false) (disch := omega) only [ite_dec, if_pos, if_true, ck_eq, Option.bind_some, hm, at_nat hjT, Int.toNat_natCast]
      rw [iter_next e0]
      refine ih _ (by omega) ⟨by simpa using hTl, fun q hq hjq => ?_⟩
      have hq' : q < T.length := by simpa using hq
      have : q = b.length := by omega
      subst this
      rw [List.getElem_set_self]
      refine ⟨by simp, fun p hp _ => ?_⟩
      simp [lcs_nil_r]
    · obtain ⟨T', h1, h2⟩ := col_loop hs (j := j) (by omega) a.length (T.set j (List.replicate (a.length + 1) 0)) (Nat.le_refl _) hset ⟨by simpa using hjT, by
        rw [List.getElem_set_self]
        refine ⟨by simp, fun p hp hip => ?_⟩
        have : p = a.length := by simp at hp; omega
        subst this
        simp [lcs_nil_l]⟩
      have e0 : changeforgeref1_suffixes.l1 a b (((j + 1 : Nat) : Int) - 1) T = some (.next ((j : Int) - 1, T')) := by
        rw [show ((j + 1 : Nat) : Int) - 1 = (j : Int) by omega]
        unfold changeforgeref1_suffixes.l1 changeforgeref1_suffixes.j3 changeforgeref1_suffixes.j2
        simp (implicitDefEqProofs := false) (disch := omega) only [ite_dec, if_pos, if_neg, ck_eq, Option.bind_some, hm, at_nat hjT, Int.toNat_natCast, h1]
      rw [iter_next e0]
      exact ih _ (by omega) h2

theorem suffixes_eq : ∃ T, changeforgeref1_suffixes a b = some T ∧ Cols a b T 0 := by
  obtain ⟨s1, s2⟩ := small_r hs
  unfold changeforgeref1_suffixes changeforgeref1_suffixes.j1
  have hm : mk? 24 ((b.length : Int) + 1) ([] : List Int) = some (List.replicate (b.length + 1) []) := by
    rw [mk_eq (by omega) (by omega), show ((b.length : Int) + 1).toNat = b.length + 1 by omega]
  obtain ⟨T', h1, h2⟩ := suffix_key hs (b.length + 1) (List.replicate (b.length + 1) []) (Nat.le_refl _) ⟨by simp, fun q hq hjq => by simp at hq; omega⟩
  rw [show ((b.length + 1 : Nat) : Int) - 1 = (b.length : Int) by omega] at h1
  refine ⟨T', ?_, h2⟩
  rw [ck_eq (by omega) (by omega), Option.bind_some, hm, Option.bind_some, h1, Option.bind_some]
end
/-- the document's steps -/
def algs : List ByteArray → List ByteArray → List Step_changeforgeref1
  | [], [] => []
  | [], y :: b => ⟨2, y⟩ :: algs [] b
  | x :: a, [] => ⟨1, x⟩ :: algs a []
  | x :: a, y :: b => if x = y then ⟨0, x⟩ :: algs a b else if lcs a (y :: b) ≥ lcs (x :: a) b then ⟨1, x⟩ :: algs a (y :: b) else ⟨2, y⟩ :: algs (x :: a) b
 termination_by a b => a.length + b.length

theorem cols_at {T : List (List Int)} (h : Cols a b T 0) {i j : Nat} (hi : i ≤ a.length) (hj : j ≤ b.length) : ∃ c, at? T (j : Int) = some c ∧ at? c (i : Int) = some ((lcs (a.drop i) (b.drop j) : Nat) : Int) := by
  obtain ⟨h1, h2⟩ := h
  have hjT : j < T.length := by omega
  obtain ⟨h3, h4⟩ := h2 j hjT (by omega)
  refine ⟨T[j], at_nat hjT, ?_⟩
  rw [at_nat (by omega), h4 i (by omega) (.inl (by omega))]

theorem alignR_loop {T : List (List Int)} (hT : Cols a b T 0) (hs : (a.length + b.length) * 24 ≤ 140737488355328) : ∀ (n i j : Nat) (out : List Step_changeforgeref1), i ≤ a.length → j ≤ b.length → (a.length - i) + (b.length - j) = n → out.length ≤ i + j →
    iter (fun s => changeforgeref1_Align.l1 a b T s.1 s.2.1 s.2.2) ((j : Int), (i : Int), out) = some (out ++ algs (a.drop i) (b.drop j)) := by
  intro n
  induction n using Nat.strongRecOn with
  | _ n ih =>
  intro i j out hi hj hn hl
  have app : ∀ x : Step_changeforgeref1, i + j < a.length + b.length → app? 24 out [x] = some (out ++ [x]) := fun x h => app_eq (by simp only [List.length_singleton]; omega)
  by_cases hia : i < a.length
  · have hda := drop_cons hia
    have ei : (i : Int) + 1 = ((i + 1 : Nat) : Int) := rfl
    by_cases hjb : j < b.length
    · have hdb := drop_cons hjb
      have ej : (j : Int) + 1 = ((j + 1 : Nat) : Int) := rfl
      obtain ⟨c1, p1, p2⟩ := cols_at hT (i := i + 1) (j := j) (by omega) hj
      obtain ⟨c2, q1, q2⟩ := cols_at hT (i := i) (j := j + 1) (by omega) (by omega)
      rw [← ei] at p2
      rw [← ej] at q1
      have e0 : changeforgeref1_Align.l1 a b T (j : Int) (i : Int) out = if a[i] = b[j] then some (.next (((j + 1 : Nat) : Int), ((i + 1 : Nat) : Int), out ++ [⟨0, a[i]⟩])) else
          if lcs (a.drop (i + 1)) (b.drop j) ≥ lcs (a.drop i) (b.drop (j + 1)) then some (.next ((j : Int), ((i + 1 : Nat) : Int), out ++ [⟨1, a[i]⟩])) else some (.next (((j + 1 : Nat) : Int), (i : Int), out ++ [⟨2, b[j]⟩])) := by
        unfold changeforgeref1_Align.l1
        have c1' : decide ((i : Int) < (a.length : Int)) = true := decide_eq_true (by omega)
        have c2' : decide ((j : Int) < (b.length : Int)) = true := decide_eq_true (by omega)
        have c3' : decide ((j : Int) = (b.length : Int)) = false := decide_eq_false (by omega)
        rw [c1', c2', c3']
        simp (implicitDefEqProofs := false) (disch := omega) only [if_true, Option.bind_some, at_nat hia, at_nat hjb, ck_eq, p1, p2, q1, q2, Bool.false_eq_true, if_false, app, decide_eq_true_eq]
        split
        · rfl
        · by_cases h : lcs (a.drop (i + 1)) (b.drop j) ≥ lcs (a.drop i) (b.drop (j + 1))
          · rw [if_pos (by omega), if_pos h]; rfl
          · rw [if_neg (by omega), if_neg h]; rfl
      have hal : algs (a.drop i) (b.drop j) = if a[i] = b[j] then ⟨0, a[i]⟩ :: algs (a.drop (i + 1)) (b.drop (j + 1)) else if lcs (a.drop (i + 1)) (b.drop j) ≥ lcs (a.drop i) (b.drop (j + 1)) then ⟨1, a[i]⟩ :: algs (a.drop (i + 1)) (b.drop j) else ⟨2, b[j]⟩ :: algs (a.drop i) (b.drop (j + 1)) := by
        conv => lhs; rw [hda, hdb, algs]
        rw [← hda, ← hdb]
      rw [hal]
      by_cases heq : a[i] = b[j]
      · rw [if_pos heq] at e0 ⊢
        rw [iter_next e0, ih _ (by omega) (i + 1) (j + 1) _ (by omega) (by omega) rfl (by simp; omega), List.append_assoc]; rfl
      · rw [if_neg heq] at e0 ⊢
        by_cases h : lcs (a.drop (i + 1)) (b.drop j) ≥ lcs (a.drop i) (b.drop (j + 1))
        · rw [if_pos h] at e0 ⊢
          rw [iter_next e0, ih _ (by omega) (i + 1) j _ (by omega) (by omega) rfl (by simp; omega), List.append_assoc]; rfl
        · rw [if_neg h] at e0 ⊢
          rw [iter_next e0, ih _ (by omega) i (j + 1) _ (by omega) (by omega) rfl (by simp; omega), List.append_assoc]; rfl
    · have hj' : j = b.length := by omega
      subst hj'
      have e0 : changeforgeref1_Align.l1 a b T (b.length : Int) (i : Int) out = some (.next ((b.length : Int), ((i + 1 : Nat) : Int), out ++ [⟨1, a[i]⟩])) := by
        unfold changeforgeref1_Align.l1
        have c1' : decide ((i : Int) < (a.length : Int)) = true := decide_eq_true (by omega)
        have c2' : decide ((b.length : Int) < (b.length : Int)) = false := decide_eq_false (by omega)
        rw [c1', c2']
        simp (implicitDefEqProofs := false) (disch := omega) only [if_true, Option.bind_some, at_nat hia, ck_eq, Bool.false_eq_true, if_false, app, decide_true]
        rfl
      rw [iter_next e0, ih _ (by omega) (i + 1) b.length _ (by omega) (by omega) rfl (by simp; omega), List.append_assoc, hda, List.drop_length]
      conv => rhs; rw [algs]
      rfl
  · have hi' : i = a.length := by omega
    subst hi'
    by_cases hjb : j < b.length
    · have hdb := drop_cons hjb
      have e0 : changeforgeref1_Align.l1 a b T (j : Int) (a.length : Int) out = some (.next (((j + 1 : Nat) : Int), (a.length : Int), out ++ [⟨2, b[j]⟩])) := by
        unfold changeforgeref1_Align.l1
        have c1' : decide ((a.length : Int) < (a.length : Int)) = false := decide_eq_false (by omega)
        have c2' : decide ((j : Int) < (b.length : Int)) = true := decide_eq_true (by omega)
        have c3' : decide ((j : Int) = (b.length : Int)) = false := decide_eq_false (by omega)
        rw [c1', c2', c3']
        simp (implicitDefEqProofs := false) (disch := omega) only [if_true, Option.bind_some, at_nat hjb, ck_eq, Bool.false_eq_true, if_false, app]
        rfl
      rw [iter_next e0, ih _ (by omega) a.length (j + 1) _ (by omega) (by omega) rfl (by simp; omega), List.append_assoc, hdb, List.drop_length]
      conv => rhs; rw [algs]
      rfl
    · have hj' : j = b.length := by omega
      subst hj'
      rw [List.drop_length, List.drop_length]
      refine (iter_done ?_).trans (by simp [algs] : some out = _)
      unfold changeforgeref1_Align.l1
      have c1' : decide ((a.length : Int) < (a.length : Int)) = false := decide_eq_false (by omega)
      have c2' : decide ((b.length : Int) < (b.length : Int)) = false := decide_eq_false (by omega)
      rw [c1', c2']
      simp only [Bool.false_eq_true, if_false, Option.bind_some]

theorem alignR_eq (hs : (a.length + 1) * (b.length + 1) * 24 ≤ 140737488355328) : changeforgeref1_Align a b = some (algs a b) := by
  obtain ⟨T, h1, h2⟩ := suffixes_eq hs
  have hs2 : (a.length + b.length) * 24 ≤ 140737488355328 := by
    have : a.length + b.length + 1 ≤ (a.length + 1) * (b.length + 1) := by
      rw [Nat.add_mul, Nat.mul_add, Nat.mul_one, Nat.one_mul]; omega
    omega
  unfold changeforgeref1_Align
  rw [h1, Option.bind_some]
  have := alignR_loop h2 hs2 _ 0 0 [] (Nat.zero_le _) (Nat.zero_le _) rfl (by simp)
  simp only [List.drop_zero, List.nil_append] at this
  rw [show (0 : Int) = ((0 : Nat) : Int) from rfl, this, Option.bind_some]
  rfl

theorem rem_nn {x m : Int} (h0 : 0 ≤ x) (hm : 0 < m) : rem? x m = some (x % m) := by
  unfold rem?
  rw [if_neg (by omega), Int.tmod_eq_emod_of_nonneg h0]

theorem shr1 {b : Int} : shr? .i64 b 1 = some (b / 2) := by
  unfold shr?
  rw [if_neg (by decide)]
  have : (2 : Int) ^ (min (1 : Int).toNat IntKind.i64.bits) = 2 := by decide
  rw [this, Int.fdiv_eq_ediv_of_nonneg _ (by decide)]

/-- numbers of a digest -/
def Dig (x : Int) : Prop := 0 ≤ x ∧ x < 2305843009213693951

theorem dig_mod {x : Int} : Dig (x % 2305843009213693951) := ⟨Int.emod_nonneg _ (by decide), Int.emod_lt_of_pos _ (by decide)⟩

theorem mul_ok {a b : Int} (ha : Dig a) (hb : 0 ≤ b) : ∃ r, digest_mul a b = some r ∧ Dig r := by
  unfold digest_mul
  obtain ⟨r, h1, h2⟩ := iter_rule (m := fun s : Int × Int × Int => digest_mul.l1 s.1 s.2.1 s.2.2) (fun s => Dig s.1 ∧ Dig s.2.1 ∧ 0 ≤ s.2.2) (fun s => s.2.2.toNat) Dig (by
    rintro ⟨o, x, y⟩ ⟨h1, h2, h3⟩
    simp only at h1 h2 h3 ⊢
    obtain ⟨p1, p2⟩ := h1
    obtain ⟨q1, q2⟩ := h2
    unfold digest_mul.l1
    simp only [ite_dec]
    by_cases hy : y > 0
    · left
      rw [if_pos hy]
      have j2 : ∀ o', Dig o' → ∃ s', digest_mul.j2 x y o' = some (.next s') ∧ (Dig s'.1 ∧ Dig s'.2.1 ∧ 0 ≤ s'.2.2) ∧ s'.2.2.toNat < y.toNat := by
        intro o' ho
        unfold digest_mul.j2
        rw [ck_eq (by omega) (by omega), Option.bind_some, rem_nn (by omega) (by decide), Option.bind_some, shr1, Option.bind_some]
        exact ⟨_, rfl, ⟨ho, dig_mod, by simp only; omega⟩, by simp only; omega⟩
      by_cases hc : andI .i64 y 1 = 1
      · rw [if_pos hc, ck_eq (by omega) (by omega), Option.bind_some, rem_nn (by omega) (by decide), Option.bind_some]
        exact j2 _ dig_mod
      · rw [if_neg hc]
        exact j2 _ ⟨p1, p2⟩
    · right
      rw [if_neg hy]
      exact ⟨_, rfl, p1, p2⟩) (0, a, b) ⟨⟨Int.le_refl 0, (by decide : (0 : Int) < 2305843009213693951)⟩, ha, hb⟩
  rw [h1, Option.bind_some]
  exact ⟨r, rfl, h2⟩

theorem dnext_ok {s : Step_digest} {f : Int} (h0 : Dig s.e0) (h1 : Dig s.e1) (hf : 0 ≤ f) : ∃ r, digest_next s f = some r ∧ Dig r := by
  obtain ⟨r, h2, h3, h4⟩ := mul_ok h0 hf
  unfold digest_next
  obtain ⟨p1, p2⟩ := h1
  rw [h2, Option.bind_some, ck_eq (by omega) (by omega), Option.bind_some, rem_nn (by omega) (by decide), Option.bind_some]
  exact ⟨_, rfl, dig_mod⟩

theorem of_ok {l : List UInt8} (hl : l.length ≤ 4096) : ∃ r, digest_Of l = some (r, ⟨0, 0⟩) ∧ Dig r := by
  unfold digest_Of
  rw [ite_dec, if_neg (by omega)]
  obtain ⟨r, h1, h2⟩ := iter_rule (m := fun s : Int × Int => digest_Of.l1 l s.1 s.2) (fun s => ∃ k : Nat, s.1 = (k : Int) ∧ k ≤ l.length ∧ Dig s.2) (fun s => l.length - s.1.toNat) Dig (by
    rintro ⟨x, h⟩ ⟨k, hx, hk, hd⟩
    simp only at hx hd ⊢
    subst hx
    unfold digest_Of.l1
    rw [ite_dec]
    by_cases hlt : k < l.length
    · left
      have hb : (l[k]).toNat < 256 := (l[k]).toNat_lt
      rw [if_pos (by omega), at_nat hlt, Option.bind_some, ck_eq (by omega) (by omega), Option.bind_some, ck_eq (by omega) (by omega), Option.bind_some]
      obtain ⟨r, e1, e2⟩ := dnext_ok (s := { e0 := h, e1 := ((l[k]).toNat : Int) + 1 }) (f := 257) hd ⟨by simp only; omega, by simp only; omega⟩ (by decide)
      rw [e1, Option.bind_some, ck_eq (by omega) (by omega), Option.bind_some]
      exact ⟨_, rfl, ⟨k + 1, by simp, hlt, e2⟩, by simp only; omega⟩
    · right
      rw [if_neg (by omega)]
      exact ⟨_, rfl, hd⟩) (0, 1) ⟨0, rfl, Nat.zero_le _, by decide, by decide⟩
  rw [h1, Option.bind_some]
  exact ⟨r, rfl, h2⟩

theorem pair_ok {a b : Int} (ha : Dig a) (hb : Dig b) : ∃ r, digest_pair a b = some r ∧ Dig r := by
  unfold digest_pair
  obtain ⟨r, h1, h2⟩ := dnext_ok (s := { e0 := b, e1 := 7 }) (f := 31) hb ⟨(by decide : (0 : Int) ≤ 7), (by decide : (7 : Int) < 2305843009213693951)⟩ (by decide)
  rw [h1, Option.bind_some]
  obtain ⟨r', h3, h4⟩ := dnext_ok (s := { e0 := a, e1 := r }) (f := 1000003) ha h2 (by decide)
  rw [h3]
  exact ⟨r', rfl, h4⟩

theorem is_eq {a : Int} (h : Dig a) : digest_is a = some true := by
  obtain ⟨h1, h2⟩ := h
  unfold digest_is
  rw [ite_dec, if_pos h1, Option.bind_some, decide_eq_true h2]

theorem Pair_ok {a b : Int} (ha : Dig a) (hb : Dig b) : ∃ r, digest_Pair a b = some (r, ⟨0, 0⟩) ∧ Dig r := by
  unfold digest_Pair
  have : iter (fun s => digest_Pair.l1 a b s) 0 = some (.inr ()) := by
    refine iter_eq_of (fun s => s = 0 ∨ s = 1 ∨ s = 2) (fun s => 2 - s.toNat) _ ?_ _ (.inl rfl)
    rintro s (rfl | rfl | rfl)
    · left
      unfold digest_Pair.l1
      rw [ite_dec, if_pos (by decide), show at? [a, b] 0 = some a from rfl, Option.bind_some, is_eq ha, Option.bind_some, if_neg (by decide), ck_eq (by decide) (by decide), Option.bind_some]
      exact ⟨_, rfl, .inr (.inl rfl), by decide⟩
    · left
      unfold digest_Pair.l1
      rw [ite_dec, if_pos (by decide), show at? [a, b] 1 = some b from rfl, Option.bind_some, is_eq hb, Option.bind_some, if_neg (by decide), ck_eq (by decide) (by decide), Option.bind_some]
      exact ⟨_, rfl, .inr (.inr rfl), by decide⟩
    · right
      unfold digest_Pair.l1
      rw [ite_dec, if_neg (by decide)]
  rw [this, Option.bind_some]
  simp only
  unfold digest_Pair.j1
  obtain ⟨r, h1, h2⟩ := pair_ok ha hb
  rw [h1, Option.bind_some]
  exact ⟨r, rfl, h2⟩

/-- the number k of one line -/
noncomputable def lineN (k : Nat) (s : ByteArray) : Int := (((digest_Of s.data.toList).bind fun d => digest_Pair ((k : Int) + 1) d.1).map (·.1)).getD 0

/-- the number k of a text: the least of its lines' -/
noncomputable def textN (k : Nat) : List ByteArray → Int
  | [] => 0
  | [s] => lineN k s
  | s :: r => min (lineN k s) (textN k r)

theorem textN_cons (k : Nat) (s : ByteArray) {r : List ByteArray} (h : r ≠ []) : textN k (s :: r) = min (lineN k s) (textN k r) := by
  cases r with
  | nil => exact absurd rfl h
  | cons x r => rfl

theorem textN_append (k : Nat) : ∀ (l m : List ByteArray), l ≠ [] → m ≠ [] → textN k (l ++ m) = min (textN k l) (textN k m)
  | [], _, h, _ => absurd rfl h
  | [s], m, _, h => by rw [List.singleton_append, textN_cons k s h]; rfl
  | s :: x :: l, m, _, h => by
    rw [List.cons_append, textN_cons k s (by simp), textN_append k (x :: l) m (by simp) h, textN_cons k s (by simp)]
    omega

/-- a digest of a line that the program takes -/
theorem line_ok {s : ByteArray} (h : OkLine s) : ∃ d, digest_Of s.data.toList = some (d, ⟨0, 0⟩) ∧ Dig d ∧ ∀ k : Nat, k < 8 → digest_Pair ((k : Int) + 1) d = some (lineN k s, ⟨0, 0⟩) := by
  have hl : s.data.toList.length ≤ 4096 := by
    have h1 := h.1
    rw [Array.length_toList]
    show s.size ≤ 4096
    omega
  obtain ⟨d, h1, h2⟩ := of_ok hl
  refine ⟨d, h1, h2, fun k hk => ?_⟩
  obtain ⟨r, h3, _⟩ := Pair_ok (a := (k : Int) + 1) (b := d) ⟨by omega, by omega⟩ h2
  rw [h3]
  unfold lineN
  rw [h1, Option.bind_some, h3]
  rfl

/-- the eight numbers -/
noncomputable def nums (t : List ByteArray) : List Int := (List.range 8).map fun k => textN k t

theorem nums_len (t : List ByteArray) : (nums t).length = 8 := by simp [nums]
theorem nums_get {t : List ByteArray} {k : Nat} (h : k < (nums t).length) : (nums t)[k] = textN k t := by simp [nums]

theorem eq_nums {l : List Int} {t : List ByteArray} (hl : l.length = 8) (h : ∀ k (hk : k < l.length), l[k] = textN k t) : l = nums t := by
  apply List.ext_getElem
  · rw [hl, nums_len]
  · intro k h1 h2
    rw [h k h1, nums_get]

/-- one line more -/
theorem sketch_line {i : Nat} {s : ByteArray} {d : Int} {old : List Int} {pre : List ByteArray} (hold : old.length = 8) (hp : i = pre.length) (ho : i ≠ 0 → old = nums pre) (hd : ∀ k : Nat, k < 8 → digest_Pair ((k : Int) + 1) d = some (lineN k s, ⟨0, 0⟩)) :
    iter (fun st => rename_Sketch.l2 (i : Int) (d, ⟨0, 0⟩) st.1 st.2) (0, old) = some (nums (pre ++ [s])) := by
  refine iter_eq_of (σ := Int × List Int) (fun st => ∃ j : Nat, st.1 = (j : Int) ∧ j ≤ 8 ∧ st.2.length = 8 ∧ ∀ k (hk : k < st.2.length) (hk' : k < old.length), st.2[k] = if k < j then textN k (pre ++ [s]) else old[k]) (fun st => 8 - st.1.toNat) _ ?_ _ ⟨0, rfl, by decide, hold, fun k hk hk' => by simp⟩
  rintro ⟨x, l⟩ ⟨j, hx, hj, hl, hv⟩
  simp only at hx hl hv ⊢
  subst hx
  unfold rename_Sketch.l2
  simp only [ite_dec]
  by_cases hj8 : j < 8
  · left
    have hjl : j < l.length := by omega
    rw [if_pos (by omega), ck_eq (by omega) (by omega), Option.bind_some, hd j hj8, Option.bind_some]
    simp only
    have harr : arr? 8 l (j : Int) = some l[j] := by unfold arr?; rw [if_pos hl, at_nat hjl]
    have hlj : l[j] = old[j]'(by omega) := by have := hv j hjl (by omega); rw [if_neg (by omega)] at this; exact this
    have fin : ∀ l' : List Int, l'.length = 8 → (∀ k (hk : k < l'.length) (hk' : k < old.length), l'[k] = if k < j + 1 then textN k (pre ++ [s]) else old[k]) →
        ∃ s', rename_Sketch.j4 (j : Int) l' = some (.next s') ∧ (∃ q : Nat, s'.1 = (q : Int) ∧ q ≤ 8 ∧ s'.2.length = 8 ∧ ∀ k (hk : k < s'.2.length) (hk' : k < old.length), s'.2[k] = if k < q then textN k (pre ++ [s]) else old[k]) ∧ 8 - s'.1.toNat < 8 - (j : Int).toNat := by
      intro l' h1 h2
      unfold rename_Sketch.j4
      rw [ck_eq (by omega) (by omega), Option.bind_some]
      exact ⟨_, rfl, ⟨j + 1, by simp, hj8, h1, h2⟩, by simp only; omega⟩
    have keep : ∀ k (hk : k < l.length) (hk' : k < old.length), k ≠ j → l[k] = if k < j + 1 then textN k (pre ++ [s]) else old[k] := by
      intro k hk hk' hne
      rw [hv k hk hk']
      by_cases h : k < j
      · rw [if_pos h, if_pos (by omega)]
      · rw [if_neg h, if_neg (by omega)]
    have set : lineN j s = textN j (pre ++ [s]) → ∀ k (hk : k < (l.set j (lineN j s)).length) (hk' : k < old.length), (l.set j (lineN j s))[k] = if k < j + 1 then textN k (pre ++ [s]) else old[k] := by
      intro he k hk hk'
      rw [List.getElem_set]
      by_cases h : j = k
      · subst h; rw [if_pos rfl, if_pos (by omega), he]
      · rw [if_neg h]; exact keep k (by simpa using hk) hk' (fun e => h e.symm)
    by_cases hi : i = 0
    · rw [if_pos (by omega), Option.bind_some]
      simp only [if_true]
      rw [harr, Option.bind_some, Option.bind_some]
      have hpre : pre = [] := List.eq_nil_of_length_eq_zero (by omega)
      refine fin _ (by rw [List.length_set]; exact hl) ?_
      simp only [Int.toNat_natCast]
      exact set (by rw [hpre]; rfl)
    · rw [if_neg (by omega), harr]
      simp only [Option.bind_some, decide_eq_true_eq]
      have hpre : pre ≠ [] := by intro h; rw [h] at hp; simp at hp; omega
      have htn : textN j (pre ++ [s]) = min (textN j pre) (lineN j s) := textN_append j pre [s] hpre (by simp)
      have hoj : l[j] = textN j pre := by
        rw [hlj]
        have hoo := ho hi
        subst hoo
        rw [nums_get]
      by_cases hc : lineN j s < l[j]
      · rw [if_pos hc]
        refine fin _ (by rw [List.length_set]; exact hl) ?_
        simp only [Int.toNat_natCast]
        exact set (by omega)
      · rw [if_neg hc]
        refine fin l hl (fun k hk hk' => ?_)
        by_cases h : k = j
        · subst h
          rw [if_pos (by omega)]; omega
        · exact keep k hk hk' h
  · right
    rw [if_neg (by omega)]
    congr 2
    refine eq_nums hl (fun k hk => ?_)
    rw [hv k hk (by omega), if_pos (by omega)]

theorem sketch_eq (t : List ByteArray) : ∃ l f, rename_Sketch t = some (l, f) ∧ ((f = ⟨0, 0⟩ ∧ OkText t ∧ l = if t = [] then [] else nums t) ∨ (f.Code ≠ 0 ∧ ¬ OkText t)) := by
  obtain ⟨f, h1, h2⟩ := validate_eq t
  unfold rename_Sketch
  rw [h1, Option.bind_some]
  rcases h2 with ⟨rfl, hok⟩ | ⟨h2, h3⟩
  · rw [if_neg (by simp), ite_dec]
    by_cases h0 : t = []
    · rw [if_pos (by rw [h0]; rfl)]
      exact ⟨_, _, rfl, .inl ⟨rfl, hok, by rw [if_pos h0]⟩⟩
    · have hne : t.length ≠ 0 := fun h => h0 (List.eq_nil_of_length_eq_zero h)
      have h120 := hok.1
      rw [if_neg (by omega)]
      have main : iter (fun s => rename_Sketch.l1 t s.1 s.2) (0, ([0, 0, 0, 0, 0, 0, 0, 0] : List Int)) = some (nums t) := by
        refine iter_eq_of (σ := Int × List Int) (fun st => ∃ i : Nat, st.1 = (i : Int) ∧ i ≤ t.length ∧ st.2.length = 8 ∧ (i ≠ 0 → st.2 = nums (t.take i))) (fun st => t.length - st.1.toNat) _ ?_ _ ⟨0, rfl, Nat.zero_le _, rfl, fun h => absurd rfl h⟩
        rintro ⟨x, l⟩ ⟨i, hx, hi, hl, hv⟩
        simp only at hx hl hv ⊢
        subst hx
        unfold rename_Sketch.l1
        rw [ite_dec]
        by_cases hlt : i < t.length
        · left
          obtain ⟨d, e1, e2, e3⟩ := line_ok (hok.2 _ (List.getElem_mem hlt))
          rw [if_pos (by omega), at_nat hlt, Option.bind_some, e1, Option.bind_some, sketch_line (pre := t.take i) hl (by rw [List.length_take]; omega) hv e3, Option.bind_some]
          unfold rename_Sketch.j3 rename_Sketch.j2
          rw [ck_eq (by omega) (by omega), Option.bind_some]
          exact ⟨_, rfl, ⟨i + 1, by simp, hlt, nums_len _, fun _ => by rw [List.take_succ_eq_append_getElem hlt]⟩, by simp only; omega⟩
        · right
          rw [if_neg (by omega), hv (by omega), List.take_of_length_le (by omega)]
      rw [main, Option.bind_some]
      unfold rename_Sketch.j1
      rw [show arrl? 8 (nums t) = some (nums t) from by unfold arrl?; rw [if_pos (nums_len t)], Option.bind_some]
      exact ⟨_, _, rfl, .inl ⟨rfl, hok, by rw [if_neg h0]⟩⟩
  · rw [if_pos (faultless.2 (fun h => h2 h.1))]
    exact ⟨_, _, rfl, .inr ⟨h2, h3⟩⟩
end Go.Dc
