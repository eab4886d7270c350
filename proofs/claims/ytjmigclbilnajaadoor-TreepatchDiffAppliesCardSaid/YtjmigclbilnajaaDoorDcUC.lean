/- Exchanging two changes of file trees: what it comes to; the laws TreecommuteMatchesSpec and TreecommuteTwice. -/
import Derived.Test.YtjmigclbilnajaaDoorDcUB
set_option linter.unusedSimpArgs false
set_option linter.unusedVariables false
namespace Go.Dc
open Go

abbrev noC : TreeChange := ⟨0, ByteArray.empty, ByteArray.empty, [], ⟨[]⟩⟩
def edF (path : ByteArray) (p : Patch) : TreeChange := ⟨4, path, ByteArray.empty, [], p⟩
abbrev TC := TreeChange × TreeChange × Bool × Fault

/-- behind the checks -/
def exF (a b : TreeChange) : TC :=
  if indB a b = true then (b, a, true, ⟨0, 0⟩)
  else if a.Kind = 4 ∧ b.Kind = 4 ∧ a.Path = b.Path then
    if (commF a.Patch b.Patch).2.2.2.Code ≠ 0 then (noC, noC, false, ⟨(commF a.Patch b.Patch).2.2.2.Code, -1⟩)
    else if (commF a.Patch b.Patch).2.2.1 = false then (noC, noC, false, ⟨0, 0⟩)
    else (edF a.Path (commF a.Patch b.Patch).1, edF a.Path (commF a.Patch b.Patch).2.1, true, ⟨0, 0⟩)
  else if a.Kind = 3 ∧ b.Kind = 4 ∧ b.Path = a.To then (edF a.Path b.Patch, a, true, ⟨0, 0⟩)
  else if a.Kind = 4 ∧ b.Kind = 3 ∧ b.Path = a.Path then (b, edF b.To a.Patch, true, ⟨0, 0⟩)
  else (noC, noC, false, ⟨0, 0⟩)

def tcF (a b : TreeChange) : TC :=
  if chF a ≠ 0 then (noC, noC, false, ⟨chF a, 0⟩) else if chF b ≠ 0 then (noC, noC, false, ⟨chF b, 1⟩) else exF a b

theorem vpatch1_f (c : TreeChange) : treepatch_ValidatePatch ⟨[c]⟩ = some (if chF c ≠ 0 then ⟨chF c, 0⟩ else ⟨0, 0⟩) := by
  unfold treepatch_ValidatePatch
  rw [if_neg (by simp)]
  have e1 : treepatch_ValidatePatch.l1 ⟨[c]⟩ 0 = if chF c ≠ 0 then some (Step.done (Sum.inl ⟨chF c, 0⟩)) else some (Step.next 1) := by
    unfold treepatch_ValidatePatch.l1
    rw [if_pos (by simp), show at? [c] 0 = some c from rfl, Option.bind_some, check_f, Option.bind_some, ite_ndec]
    by_cases h : chF c = 0
    · rw [if_pos h, if_neg (by simpa using h)]; rfl
    · rw [if_neg h, if_pos h]
  by_cases h : chF c ≠ 0
  · rw [if_pos h] at e1
    rw [iter_done e1, if_pos h]; rfl
  · rw [if_neg h] at e1
    have e2 : treepatch_ValidatePatch.l1 ⟨[c]⟩ 1 = some (Step.done (Sum.inr ())) := by
      unfold treepatch_ValidatePatch.l1
      rw [if_neg (by simp)]
    rw [iter_next e1, iter_done e2, if_neg h]; rfl

theorem secondPatch1_f (c : TreeChange) (i : Int) : treepatch_SecondPatch ⟨[c]⟩ i = some (if chF c ≠ 0 then ⟨chF c, i⟩ else ⟨0, 0⟩) := by
  unfold treepatch_SecondPatch
  rw [vpatch1_f, Option.bind_some]
  by_cases h : chF c ≠ 0
  · rw [if_pos h, if_pos h, if_pos (by simp [h])]
  · rw [if_neg h, if_neg h, if_neg (by simp)]

theorem OkCh.sm {c : TreeChange} (h : OkCh c) : Sm 120 c.Patch.Hunks := sm_of h.patch
theorem OkCh.len {c : TreeChange} (h : OkCh c) : c.Lines.length ≤ 120 := textFault_len h.lines

theorem copyChange_f {c : TreeChange} {B : Int} (h1 : c.Lines.length ≤ 1000000) (h2 : Sm B c.Patch.Hunks) : treepatch_CopyChange c = some c := by
  unfold treepatch_CopyChange
  rw [clone_f _ h1, Option.bind_some, copy_f c.Patch h2, Option.bind_some]

theorem edit_f (p : ByteArray) (q : Patch) : treecommute_edit p q = some (edF p q) := rfl

theorem and3 {p q r : Prop} [Decidable p] [Decidable q] [Decidable r] : ((if decide p = true then some (decide q) else some false).bind fun x => if x = true then some (decide r) else some false) = some (decide (p ∧ q ∧ r)) := by
  by_cases h1 : p <;> by_cases h2 : q <;> by_cases h3 : r <;> simp [h1, h2, h3]

theorem and3K {p q r : Prop} [Decidable p] [Decidable q] [Decidable r] {β : Type} (K : Bool → Option β) : ((if decide p = true then some (decide q) else some false).bind fun x => (if x = true then some (decide r) else some false).bind K) = K (decide (p ∧ q ∧ r)) := by
  rw [← Option.bind_assoc, and3, Option.bind_some]

theorem tj1_f {a b : TreeChange} (ha : OkCh a) (hb : OkCh b) : treecommute_Commute.j1 a b = some (exF a b) := by
  unfold treecommute_Commute.j1 exF
  have la := ha.len
  have lb := hb.len
  rw [copyChange_f (by omega) ha.sm, Option.bind_some, copyChange_f (by omega) hb.sm, Option.bind_some, independent_f ha.size hb.size, Option.bind_some]
  cases hi : indB a b with
  | true => rfl
  | false =>
    rw [if_neg Bool.false_ne_true, if_neg Bool.false_ne_true, and3K, ite_dec]
    by_cases h1 : a.Kind = 4 ∧ b.Kind = 4 ∧ a.Path = b.Path
    · rw [if_pos h1, if_pos h1, comm_f, Option.bind_some, fless (commF_ok a.Patch b.Patch), ite_dec]
      by_cases h2 : (commF a.Patch b.Patch).2.2.2.Code ≠ 0
      · rw [if_pos h2, if_pos h2]
      · rw [if_neg h2, if_neg h2]
        cases h3 : (commF a.Patch b.Patch).2.2.1 with
        | false => rfl
        | true =>
          rw [if_neg (by decide), if_neg (by decide), edit_f, Option.bind_some, edit_f, Option.bind_some, h1.2.2]
    · rw [if_neg h1, if_neg h1, and3K, ite_dec]
      by_cases h4 : a.Kind = 3 ∧ b.Kind = 4 ∧ b.Path = a.To
      · rw [if_pos h4, if_pos h4, edit_f, Option.bind_some]
      · rw [if_neg h4, if_neg h4, and3K, ite_dec]
        split
        · rw [edit_f, Option.bind_some]
        · rfl

theorem Commute_f (a b : TreeChange) : treecommute_Commute a b = some (tcF a b) := by
  unfold treecommute_Commute tcF
  have e0 : treecommute_Commute.l1 a b 0 = if chF a ≠ 0 then some (Step.done (Sum.inl (noC, noC, false, ⟨chF a, 0⟩))) else some (Step.next 1) := by
    unfold treecommute_Commute.l1
    rw [if_pos (by simp), show at? [a, b] 0 = some a from rfl, Option.bind_some, secondPatch1_f, Option.bind_some]
    by_cases h : chF a ≠ 0
    · rw [if_pos h, if_pos h, if_pos (by simp [h])]
    · rw [if_neg h, if_neg h, if_neg (by simp)]; rfl
  have e1 : treecommute_Commute.l1 a b 1 = if chF b ≠ 0 then some (Step.done (Sum.inl (noC, noC, false, ⟨chF b, 1⟩))) else some (Step.next 2) := by
    unfold treecommute_Commute.l1
    rw [if_pos (by simp), show at? [a, b] 1 = some b from rfl, Option.bind_some, secondPatch1_f, Option.bind_some]
    by_cases h : chF b ≠ 0
    · rw [if_pos h, if_pos h, if_pos (by simp [h])]
    · rw [if_neg h, if_neg h, if_neg (by simp)]; rfl
  have e2 : treecommute_Commute.l1 a b 2 = some (Step.done (Sum.inr ())) := by
    unfold treecommute_Commute.l1
    rw [if_neg (by simp)]
  by_cases ha : chF a ≠ 0
  · rw [if_pos ha] at e0
    rw [iter_done e0, if_pos ha]; rfl
  · rw [if_neg ha] at e0
    rw [iter_next e0, if_neg ha]
    by_cases hb : chF b ≠ 0
    · rw [if_pos hb] at e1
      rw [iter_done e1, if_pos hb]; rfl
    · rw [if_neg hb] at e1
      rw [iter_next e1, iter_done e2, if_neg hb]
      exact tj1_f (chF_ok.1 (by omega)) (chF_ok.1 (by omega))

theorem orK {b c : Bool} {β : Type} (K : Bool → Option β) : ((if b = true then some c else some false).bind K) = K (b && c) := by cases b <;> rfl

theorem RCommute_f (a b : TreeChange) : changeforgeref2_CommuteChanges a b = some (tcF a b) := by
  unfold changeforgeref2_CommuteChanges tcF
  rw [ChangeCode_f, Option.bind_some, ite_ndec]
  by_cases ha : chF a = 0
  · rw [if_pos ha, if_neg (show ¬ chF a ≠ 0 by simpa using ha), ChangeCode_f, Option.bind_some, ite_ndec]
    by_cases hb : chF b = 0
    · rw [if_pos hb, if_neg (show ¬ chF b ≠ 0 by simpa using hb)]
      have oa := chF_ok.1 ha
      have ob := chF_ok.1 hb
      unfold exF
      rw [Touches_f, Option.bind_some, Touches_f]
      have ei : (if (!touB b.Path a) = true then (if (!decide (b.Kind = 3)) = true then some true else (some (touB b.To a)).bind fun y6 => some !y6).bind fun x2 => some x2 else some false) = some (indB a b) := by
        rw [indB_ref]
        by_cases k : b.Kind = 3 <;> cases touB b.Path a <;> cases touB b.To a <;> simp [k]
      rw [ei, Option.bind_some]
      cases hi : indB a b with
      | true => rfl
      | false =>
        rw [if_neg Bool.false_ne_true, if_neg Bool.false_ne_true, and3K, ite_dec]
        by_cases h1 : a.Kind = 4 ∧ b.Kind = 4 ∧ a.Path = b.Path
        · rw [if_pos h1, if_pos h1, rcomm_f, Option.bind_some, ite_ndec]
          by_cases h2 : (commF a.Patch b.Patch).2.2.2.Code = 0
          · rw [if_pos h2, if_neg (show ¬ (commF a.Patch b.Patch).2.2.2.Code ≠ 0 by simpa using h2)]
            cases h3 : (commF a.Patch b.Patch).2.2.1 with
            | false => rfl
            | true => rfl
          · rw [if_neg h2, if_pos h2]; rfl
        · rw [if_neg h1, if_neg h1, and3K, ite_dec]
          by_cases h4 : a.Kind = 3 ∧ b.Kind = 4 ∧ b.Path = a.To
          · rw [if_pos ⟨h4.1, h4.2.1, h4.2.2.symm⟩, if_pos h4]; rfl
          · rw [if_neg (fun h => h4 ⟨h.1, h.2.1, h.2.2.symm⟩), if_neg h4, and3K, ite_dec]
            by_cases h5 : a.Kind = 4 ∧ b.Kind = 3 ∧ b.Path = a.Path
            · rw [if_pos ⟨h5.1, h5.2.1, h5.2.2.symm⟩, if_pos h5]; rfl
            · rw [if_neg (fun h => h5 ⟨h.1, h.2.1, h.2.2.symm⟩), if_neg h5]
    · rw [if_neg hb, if_pos hb]; rfl
  · rw [if_neg ha, if_pos ha]; rfl

/-! ## equal changes -/
theorem change_refl {c : TreeChange} {B : Int} (h1 : c.Lines.length ≤ 1000000) (h2 : Sm B c.Patch.Hunks) : changeforgeequal_Change c c = some true := by
  unfold changeforgeequal_Change
  rw [strings_eq _ _ h1, patch_refl _ h2]
  simp

theorem refl_ok {c : TreeChange} (h : OkCh c) : changeforgeequal_Change c c = some true := change_refl (by have := h.len; omega) h.sm
theorem refl_no : changeforgeequal_Change noC noC = some true := change_refl (B := 0) (by simp) ⟨by simp, by simp⟩

theorem okCh_ed {path : ByteArray} {p : Patch} (h1 : pathB path = true) (h2 : p.Hunks ≠ []) (h3 : (patchFault p).Code = 0) : OkCh (edF path p) :=
  ⟨⟨(by show (1 : Int) ≤ 4; decide), (by show (4 : Int) ≤ 4; decide)⟩, h1, (fun h => by cases h), fun _ => rfl, fun _ => rfl, fun _ => h2, fun h => absurd rfl h, (by show (textFault []).Code = 0; rfl), h3⟩

theorem okCh_edit {c : TreeChange} (h : OkCh c) (k : c.Kind = 4) : c = edF c.Path c.Patch := by
  have h1 := h.noTo (by omega)
  have h2 := h.noLines (Or.inl k)
  cases c
  simp only at k h1 h2
  subst k h1 h2
  rfl

theorem commF_hunks {p q : Patch} (h1 : (commF p q).2.2.2.Code = 0) (h2 : (commF p q).2.2.1 = true) : (patchFault (commF p q).1).Code = 0 ∧ (patchFault (commF p q).2.1).Code = 0 ∧ (commF p q).1.Hunks.length = q.Hunks.length ∧ (commF p q).2.1.Hunks.length = p.Hunks.length := by
  obtain ⟨a1, a2, a3, a4, a5, a6⟩ := commF_made h1 h2
  rw [a6]
  exact ⟨a4, a5, by simp [qOf, shiftP], by simp [pOf, shiftP]⟩

theorem ne_nil_len {α : Type} {l m : List α} (h : l.length = m.length) (hm : m ≠ []) : l ≠ [] := fun e => hm (by rw [e] at h; exact List.eq_nil_of_length_eq_zero h.symm)

/-- exchanged changes are good changes -/
theorem exF_good {a b : TreeChange} (ha : OkCh a) (hb : OkCh b) (h : (exF a b).2.2.1 = true) : OkCh (exF a b).1 ∧ OkCh (exF a b).2.1 ∧ (exF a b).2.2.2 = ⟨0, 0⟩ := by
  unfold exF at h ⊢
  split
  · exact ⟨hb, ha, rfl⟩
  · rename_i c0
    rw [if_neg c0] at h
    split
    · rename_i c1
      rw [if_pos c1] at h
      split
      · rename_i c2; rw [if_pos c2] at h; cases h
      · rename_i c2
        rw [if_neg c2] at h
        split
        · rename_i c3; rw [if_pos c3] at h; cases h
        · rename_i c3
          obtain ⟨g1, g2, g3, g4⟩ := commF_hunks (p := a.Patch) (q := b.Patch) (by omega) (by simpa using c3)
          exact ⟨okCh_ed ha.path (ne_nil_len g3 (hb.hunks c1.2.1)) g1, okCh_ed ha.path (ne_nil_len g4 (ha.hunks c1.1)) g2, rfl⟩
    · rename_i c1
      rw [if_neg c1] at h
      split
      · rename_i c4
        exact ⟨okCh_ed ha.path (hb.hunks c4.2.1) hb.patch, ha, rfl⟩
      · rename_i c4
        rw [if_neg c4] at h
        split
        · rename_i c5
          exact ⟨hb, okCh_ed (hb.to c5.2.1).1 (ha.hunks c5.1) ha.patch, rfl⟩
        · rename_i c5
          rw [if_neg c5] at h
          cases h

theorem exF_no {a b : TreeChange} (h : (exF a b).2.2.1 = false) : (exF a b).1 = noC ∧ (exF a b).2.1 = noC := by
  unfold exF at h ⊢
  split
  · rename_i c0; rw [if_pos c0] at h; cases h
  · rename_i c0
    rw [if_neg c0] at h
    split
    · rename_i c1
      rw [if_pos c1] at h
      split
      · exact ⟨rfl, rfl⟩
      · rename_i c2
        rw [if_neg c2] at h
        split
        · exact ⟨rfl, rfl⟩
        · rename_i c3
          rw [if_neg c3] at h
          cases h
    · rename_i c1
      rw [if_neg c1] at h
      split
      · rename_i c4; rw [if_pos c4] at h; cases h
      · rename_i c4
        rw [if_neg c4] at h
        split
        · rename_i c5; rw [if_pos c5] at h; cases h
        · exact ⟨rfl, rfl⟩

theorem tcF_refl (a b : TreeChange) : changeforgeequal_Change (tcF a b).1 (tcF a b).1 = some true ∧ changeforgeequal_Change (tcF a b).2.1 (tcF a b).2.1 = some true := by
  unfold tcF
  split
  · exact ⟨refl_no, refl_no⟩
  · split
    · exact ⟨refl_no, refl_no⟩
    · cases h : (exF a b).2.2.1 with
      | true =>
        obtain ⟨h1, h2, _⟩ := exF_good (chF_ok.1 (by omega)) (chF_ok.1 (by omega)) h
        exact ⟨refl_ok h1, refl_ok h2⟩
      | false =>
        obtain ⟨h1, h2⟩ := exF_no h
        rw [h1, h2]
        exact ⟨refl_no, refl_no⟩

/-! ## the standing example -/
abbrev exR : TreeChange := ⟨3, ⟨#[98]⟩, ⟨#[97]⟩, [], ⟨[]⟩⟩
abbrev exE : TreeChange := ⟨4, ⟨#[97]⟩, ByteArray.empty, [], ⟨[⟨0, [], [⟨#[120]⟩]⟩]⟩⟩
theorem exR_ok : chF exR = 0 := by decide +kernel
theorem exE_ok : chF exE = 0 := by decide +kernel
theorem exRE : exF exR exE = (edF ⟨#[98]⟩ ⟨[⟨0, [], [⟨#[120]⟩]⟩]⟩, exR, true, ⟨0, 0⟩) := by
  have hi : indB exR exE = false := by decide +kernel
  unfold exF
  rw [if_neg (by rw [hi]; decide), if_neg (by decide), if_pos ⟨rfl, rfl, rfl⟩]

theorem followed_f : changeforgelaw2_followed = some true := by
  unfold changeforgelaw2_followed
  have h : tcF exR exE = (edF ⟨#[98]⟩ ⟨[⟨0, [], [⟨#[120]⟩]⟩]⟩, exR, true, ⟨0, 0⟩) := by
    unfold tcF
    rw [exR_ok, exE_ok, if_neg (by decide), if_neg (by decide), exRE]
  obtain ⟨r1, r2⟩ := tcF_refl exR exE
  rw [h] at r1 r2
  rw [Commute_f, Option.bind_some, h]
  simp only at r1 r2 ⊢
  have r1' : changeforgeequal_Change (edF ⟨#[98]⟩ ⟨[⟨0, [], [⟨#[120]⟩]⟩]⟩) ⟨4, ⟨#[98]⟩, ByteArray.empty, [], ⟨[⟨0, [], [⟨#[120]⟩]⟩]⟩⟩ = some true := r1
  rw [r1', r2]
  rfl

/-! ## the laws -/
theorem tc_matches (a b : TreeChange) : changeforgelaw2_TreecommuteMatchesSpec a b = some true := by
  unfold changeforgelaw2_TreecommuteMatchesSpec
  obtain ⟨h1, h2⟩ := tcF_refl a b
  rw [Commute_f, Option.bind_some, RCommute_f, Option.bind_some, h1, h2, followed_f]
  simp

theorem ind_edit_self (a b : TreeChange) (h : ∃ p, p ∈ pathsF a ∧ p ∈ pathsF b) : indB a b = false := by
  obtain ⟨p, h1, h2⟩ := h
  unfold indB touB
  rw [Bool.not_eq_false', List.any_eq_true]
  refine ⟨p, h1, ?_⟩
  rw [List.any_eq_true]
  exact ⟨p, h2, relB_self p⟩

theorem path_mem (c : TreeChange) : c.Path ∈ pathsF c := by unfold pathsF; split <;> simp
theorem to_mem {c : TreeChange} (k : c.Kind = 3) : c.To ∈ pathsF c := by unfold pathsF; rw [if_pos k]; simp

theorem exF_edits (P : ByteArray) (p q : Patch) : exF (edF P p) (edF P q) = if (commF p q).2.2.2.Code ≠ 0 then (noC, noC, false, ⟨(commF p q).2.2.2.Code, -1⟩)
    else if (commF p q).2.2.1 = false then (noC, noC, false, ⟨0, 0⟩) else (edF P (commF p q).1, edF P (commF p q).2.1, true, ⟨0, 0⟩) := by
  have hi : indB (edF P p) (edF P q) = false := ind_edit_self _ _ ⟨P, path_mem _, path_mem _⟩
  unfold exF
  rw [hi, if_neg Bool.false_ne_true, if_pos ⟨rfl, rfl, rfl⟩]
  rfl

theorem exF_back {a b : TreeChange} (ha : OkCh a) (hb : OkCh b) (h : (exF a b).2.2.1 = true) : exF (exF a b).1 (exF a b).2.1 = (a, b, true, ⟨0, 0⟩) := by
  unfold exF at h
  split at h
  · rename_i c0
    have e : exF a b = (b, a, true, ⟨0, 0⟩) := by unfold exF; rw [if_pos c0]
    rw [e]
    show exF b a = _
    unfold exF
    rw [if_pos (by rw [indB_comm]; exact c0)]
  · rename_i c0
    split at h
    · rename_i c1
      split at h
      · cases h
      · rename_i c2
        split at h
        · cases h
        · rename_i c3
          have h3 : (commF a.Patch b.Patch).2.2.1 = true := by simpa using c3
          have e : exF a b = (edF a.Path (commF a.Patch b.Patch).1, edF a.Path (commF a.Patch b.Patch).2.1, true, ⟨0, 0⟩) := by
            unfold exF; rw [if_neg c0, if_pos c1, if_neg c2, if_neg c3]
          have hk := commF_back (p := a.Patch) (q := b.Patch) (by omega) h3
          rw [e]
          show exF (edF a.Path (commF a.Patch b.Patch).1) (edF a.Path (commF a.Patch b.Patch).2.1) = _
          rw [exF_edits, hk, if_neg (by simp), if_neg (by simp)]
          have ea := okCh_edit ha c1.1
          have eb := okCh_edit hb c1.2.1
          show (edF a.Path a.Patch, edF a.Path b.Patch, true, (⟨0, 0⟩ : Fault)) = _
          rw [← ea, c1.2.2, ← eb]
    · rename_i c1
      split at h
      · rename_i c4
        have e : exF a b = (edF a.Path b.Patch, a, true, ⟨0, 0⟩) := by unfold exF; rw [if_neg c0, if_neg c1, if_pos c4]
        rw [e]
        show exF (edF a.Path b.Patch) a = _
        have hi : indB (edF a.Path b.Patch) a = false := ind_edit_self _ _ ⟨a.Path, path_mem _, path_mem _⟩
        unfold exF
        have k3 : a.Kind = 3 := c4.1
        rw [hi, if_neg (by decide), if_neg (by rw [k3]; rintro ⟨_, h, _⟩; exact absurd h (by decide)), if_neg (by rintro ⟨h, _⟩; exact absurd h (show ¬ (4 : Int) = 3 by decide)), if_pos ⟨rfl, k3, rfl⟩]
        have eb := okCh_edit hb c4.2.1
        show (a, edF a.To b.Patch, true, (⟨0, 0⟩ : Fault)) = _
        rw [← c4.2.2, ← eb]
      · rename_i c4
        split at h
        · rename_i c5
          have e : exF a b = (b, edF b.To a.Patch, true, ⟨0, 0⟩) := by unfold exF; rw [if_neg c0, if_neg c1, if_neg c4, if_pos c5]
          rw [e]
          show exF b (edF b.To a.Patch) = _
          have k3 : b.Kind = 3 := c5.2.1
          have hi : indB b (edF b.To a.Patch) = false := ind_edit_self _ _ ⟨b.To, to_mem k3, path_mem (edF b.To a.Patch)⟩
          unfold exF
          rw [hi, if_neg (by decide), if_neg (by rw [k3]; rintro ⟨h, _⟩; exact absurd h (by decide)), if_pos ⟨k3, rfl, rfl⟩]
          have ea := okCh_edit ha c5.1
          show (edF b.Path a.Patch, b, true, (⟨0, 0⟩ : Fault)) = _
          rw [c5.2.2, ← ea]
        · cases h

theorem tcF_ok {a b : TreeChange} (h1 : (tcF a b).2.2.2.Code = 0) : OkCh a ∧ OkCh b ∧ tcF a b = exF a b := by
  unfold tcF at h1 ⊢
  split at h1
  · exact absurd h1 ‹_›
  · rename_i ha
    split at h1
    · exact absurd h1 ‹_›
    · rename_i hb
      rw [if_neg ha, if_neg hb]
      exact ⟨chF_ok.1 (by omega), chF_ok.1 (by omega), rfl⟩

theorem tcF_of {a b : TreeChange} (ha : OkCh a) (hb : OkCh b) : tcF a b = exF a b := by
  unfold tcF
  rw [if_neg (by simpa using chF_ok.2 ha), if_neg (by simpa using chF_ok.2 hb)]

theorem tc_twice (a b : TreeChange) : changeforgelaw2_TreecommuteTwice a b = some true := by
  unfold changeforgelaw2_TreecommuteTwice
  rw [Commute_f, Option.bind_some, followed_f, ite_ndec]
  by_cases h1 : (tcF a b).2.2.2.Code = 0
  · rw [if_pos h1, Option.bind_some]
    cases h2 : (tcF a b).2.2.1 with
    | false => rfl
    | true =>
      rw [if_neg (by decide), Commute_f, Option.bind_some]
      obtain ⟨ha, hb, he⟩ := tcF_ok h1
      rw [he] at h2 ⊢
      obtain ⟨g1, g2, g3⟩ := exF_good ha hb h2
      rw [tcF_of g1 g2, exF_back ha hb h2]
      simp only []
      rw [refl_ok ha, refl_ok hb]
      rfl
  · rw [if_neg h1]; rfl
end Go.Dc
