/- The laws TreepatchMatchesSpec, TreepatchStaysValid, TreepatchSequence. -/
import Derived.Test.YtjmigclbilnajaaDoorDcUP
set_option linter.unusedSimpArgs false
set_option linter.unusedVariables false
namespace Go.Dc
open Go

theorem tree_refl {l : List File} (h : ∀ f ∈ l, f.Lines.length ≤ 1000000) (hl : l.length ≤ 1000000) : changeforgeequal_Tree ⟨l⟩ ⟨l⟩ = some true := by
  unfold changeforgeequal_Tree
  simp only
  rw [if_neg (by simp), scan0 l (fun _ _ => (Option.none : Option Bool)) ?_ ?_, Option.bind_some]
  · have : scanO (fun _ _ => (Option.none : Option Bool)) 0 l = Option.none := by rw [scanO_none]; intro j hj; rfl
    rw [this]; rfl
  · intro k hk _
    unfold changeforgeequal_Tree.l1
    simp only
    rw [decide_eq_true (by omega), if_pos rfl, at_nat hk, Option.bind_some, Option.bind_some, decide_eq_true rfl, if_neg (show ¬ ((!true) = true) by decide), Option.bind_some, Option.bind_some, strings_eq _ _ (h _ (List.getElem_mem hk)), Option.bind_some,
      decide_eq_true rfl, Option.bind_some, if_neg (by decide), ck_eq (by omega) (by omega), Option.bind_some]; rfl
  · unfold changeforgeequal_Tree.l1
    rw [decide_eq_false (by simp), if_neg Bool.false_ne_true]

theorem tree_ok {l : List File} (h : TrOk l) : changeforgeequal_Tree ⟨l⟩ ⟨l⟩ = some true := tree_refl (fun f hf => by have := h.text_len hf; omega) (by have := h.len; omega)
theorem tree_nil : changeforgeequal_Tree ⟨[]⟩ ⟨[]⟩ = some true := tree_refl (by simp) (by simp)

theorem applyT_ok {p : List TreeChange} {l : List File} (h : (applyT p l).2.Code = 0) : p.length ≤ 30 ∧ (∀ c ∈ p, OkCh c) ∧ TrOk l ∧ applyT p l = runF 0 p l ∧ TrOk (applyT p l).1 := by
  unfold applyT at h ⊢
  by_cases hp : (pcF p).Code ≠ 0
  · rw [if_pos hp] at h; exact absurd h hp
  rw [if_neg hp] at h ⊢
  have hp0 := (pcF_zero p).1 (by simpa using hp)
  by_cases ht : (treeFault l).Code ≠ 0
  · rw [if_pos ht] at h; exact absurd h ht
  rw [if_neg ht] at h ⊢
  have hT := (treeFault_zero l).1 (by simpa using ht)
  exact ⟨hp0.1, hp0.2, hT, rfl, (run_ok p 0 l hT hp0.2 h).1⟩

theorem applyT_fail {p : List TreeChange} {l : List File} (h : (applyT p l).2.Code ≠ 0) : (applyT p l).1 = [] := by
  unfold applyT at h ⊢
  by_cases hp : (pcF p).Code ≠ 0
  · rw [if_pos hp]
  rw [if_neg hp] at h ⊢
  by_cases ht : (treeFault l).Code ≠ 0
  · rw [if_pos ht]
  rw [if_neg ht] at h ⊢
  exact run_fail _ _ _ h

theorem applyT_of {p : List TreeChange} {l : List File} (h1 : p.length ≤ 30) (h2 : ∀ c ∈ p, OkCh c) (h3 : TrOk l) : applyT p l = runF 0 p l := by
  unfold applyT
  rw [if_neg (by rw [(pcF_zero p).2 ⟨h1, h2⟩]; simp), if_neg (by rw [(treeFault_zero l).2 h3]; simp)]

theorem applyT_refl (p : List TreeChange) (l : List File) : changeforgeequal_Tree ⟨(applyT p l).1⟩ ⟨(applyT p l).1⟩ = some true := by
  by_cases h : (applyT p l).2.Code = 0
  · exact tree_ok (applyT_ok h).2.2.2.2
  · rw [applyT_fail h]; exact tree_nil

/-! ## the standing example -/
abbrev rnC : TreeChange := ⟨3, ⟨#[97]⟩, ⟨#[98]⟩, [], ⟨[]⟩⟩
theorem rnC_ok : OkCh rnC := chF_ok.1 (by decide +kernel)
theorem one_ok {p : ByteArray} {L : List ByteArray} (h1 : pathB p = true) (h2 : OkText L) : TrOk [⟨p, L⟩] :=
  ⟨by simp, List.pairwise_singleton _ _, by simpa using h1, List.pairwise_singleton _ _, by simpa using h2⟩

theorem x_text : OkText [(⟨#[120]⟩ : ByteArray)] := (okText_iff _).2 ((textFault_zero _).2 (by decide +kernel))
theorem one_a : TrOk [⟨⟨#[97]⟩, [⟨#[120]⟩]⟩] := one_ok (by decide +kernel) x_text
theorem one_b : TrOk [⟨⟨#[98]⟩, [⟨#[120]⟩]⟩] := one_ok (by decide +kernel) x_text

theorem rn_make : makeF rnC [⟨⟨#[97]⟩, [⟨#[120]⟩]⟩] = (0, [⟨⟨#[98]⟩, [⟨#[120]⟩]⟩]) := by
  have hp : posF [(⟨⟨#[97]⟩, [⟨#[120]⟩]⟩ : File)] ⟨#[97]⟩ = 0 := by
    unfold posF; rw [List.takeWhile_cons, sLt_irr]; rfl
  have hh : hasF [(⟨⟨#[97]⟩, [⟨#[120]⟩]⟩ : File)] ⟨#[97]⟩ = true := by simp [hasF]
  unfold makeF
  simp only [hp, hh]
  rfl

theorem renamed_f : changeforgelaw2_renamed = some true := by
  unfold changeforgelaw2_renamed
  have h1 : changeforgelaw2_change rnC = some ⟨[rnC]⟩ := rfl
  have h2 : ∀ p L, changeforgelaw2_one p L = some ⟨[⟨p, L⟩]⟩ := fun _ _ => rfl
  have e : applyT [rnC] [⟨⟨#[97]⟩, [⟨#[120]⟩]⟩] = ([⟨⟨#[98]⟩, [⟨#[120]⟩]⟩], ⟨0, 0⟩) := by
    rw [applyT_of (by simp) (by intro c hc; rw [List.mem_singleton] at hc; subst hc; exact rnC_ok) one_a, runF, rn_make]; rfl
  have v1 : pathB (⟨#[97, 47, 98, 46, 103, 111]⟩ : ByteArray) = true := by decide +kernel
  have v2 : pathB (⟨#[47, 97]⟩ : ByteArray) = false := by decide +kernel
  rw [show (⟨3, ⟨#[97]⟩, ⟨#[98]⟩, [], ⟨[]⟩⟩ : TreeChange) = rnC from rfl, h1, Option.bind_some, h2, Option.bind_some, Apply_f, Option.bind_some]
  simp only
  rw [e]
  simp only
  rw [if_pos (by simp), h2, Option.bind_some, tree_ok one_b, Option.bind_some, if_pos rfl, ValidPath_f, v1, Option.bind_some, if_pos rfl, ValidPath_f, v2, Option.bind_some]; rfl

/-! ## the laws -/
theorem tp_matches (p : TreePatch) (t : FileTree) (path : ByteArray) : changeforgelaw2_TreepatchMatchesSpec p t path = some true := by
  unfold changeforgelaw2_TreepatchMatchesSpec
  rw [Apply_f, Option.bind_some, RApply_f, Option.bind_some, ValidPath_f, Option.bind_some, PathValid_f, Option.bind_some, Validate_f, TreeFault_f, VPatch_f, RVPatch_f, applyT_refl, renamed_f]
  simp

theorem tp_valid (p : TreePatch) (t : FileTree) : changeforgelaw2_TreepatchStaysValid p t = some true := by
  unfold changeforgelaw2_TreepatchStaysValid
  rw [Apply_f, Option.bind_some]
  simp only
  by_cases h : (applyT p.Changes t.Files).2.Code = 0
  · have := (treeFault_zero _).2 (applyT_ok h).2.2.2.2
    rw [decide_eq_true h, if_neg (show ¬ ((!true) = true) by decide), Validate_f, Option.bind_some]
    simp only
    rw [decide_eq_true this, Option.bind_some, if_pos rfl, renamed_f]; rfl
  · rw [decide_eq_false h, if_pos (by rfl), Option.bind_some, if_pos rfl, renamed_f]; rfl

theorem run_app : ∀ (a : List TreeChange) (k : Nat) (b : List TreeChange) (l : List File), (runF k a l).2.Code = 0 → runF k (a ++ b) l = runF (k + a.length) b (runF k a l).1
  | [], k, b, l, h => rfl
  | c :: r, k, b, l, h => by
    rw [List.cons_append, runF]
    rw [runF] at h ⊢
    by_cases hm : (makeF c l).1 ≠ 0
    · rw [if_pos hm] at h; exact absurd h hm
    · rw [if_neg hm] at h ⊢
      rw [if_neg hm, run_app r (k + 1) b _ h, List.length_cons]
      congr 1; omega

theorem run_shift : ∀ (a : List TreeChange) (k j : Nat) (l : List File), (runF k a l).2.Code = 0 → runF j a l = runF k a l
  | [], k, j, l, h => rfl
  | c :: r, k, j, l, h => by
    rw [runF] at h ⊢
    rw [runF]
    by_cases hm : (makeF c l).1 ≠ 0
    · rw [if_pos hm] at h; exact absurd h hm
    · rw [if_neg hm] at h ⊢
      rw [if_neg hm]
      exact run_shift r (k + 1) (j + 1) _ h

theorem tp_sequence (p q : TreePatch) (t : FileTree) : changeforgelaw2_TreepatchSequence p q t = some true := by
  obtain ⟨p⟩ := p
  obtain ⟨q⟩ := q
  obtain ⟨l⟩ := t
  unfold changeforgelaw2_TreepatchSequence
  rw [Apply_f, Option.bind_some, Apply_f, Option.bind_some]
  simp only
  by_cases h1 : (applyT p l).2.Code = 0
  · rw [decide_eq_true h1, if_neg (show ¬ ((!true) = true) by decide)]
    by_cases h2 : (applyT q (applyT p l).1).2.Code = 0
    · rw [decide_eq_true h2, show (!true) = false from rfl, Option.bind_some, if_neg Bool.false_ne_true]
      obtain ⟨a1, a2, a3, a4, a5⟩ := applyT_ok h1
      obtain ⟨b1, b2, b3, b4, b5⟩ := applyT_ok h2
      rw [ck_eq (by omega) (by omega), Option.bind_some, Option.bind_some]
      by_cases h30 : ((p.length : Int) + (q.length : Int)) > 30
      · rw [decide_eq_true h30, if_pos rfl, renamed_f]; rfl
      · rw [decide_eq_false h30, if_neg Bool.false_ne_true, app_eq (by simp; omega), Option.bind_some, List.nil_append, app_eq (by omega), Option.bind_some, Apply_f, Option.bind_some]
        have e : applyT (p ++ q) l = applyT q (applyT p l).1 := by
          rw [applyT_of (by simp; omega) (fun c hc => (List.mem_append.1 hc).elim (a2 c) (b2 c)) a3]
          have h1' : (runF 0 p l).2.Code = 0 := by rw [← a4]; exact h1
          rw [run_app p 0 q l h1', ← a4, run_shift q 0 (0 + p.length) _ (by rw [← b4]; exact h2), ← b4]
        simp only
        rw [e]
        unfold changeforgelaw2_TreepatchSequence.j1
        simp only
        rw [decide_eq_true h2, if_pos rfl, tree_ok b5, Option.bind_some, Option.bind_some, if_pos rfl, renamed_f]; rfl
    · rw [decide_eq_false h2, show (!false) = true from rfl, Option.bind_some, if_pos rfl, Option.bind_some, if_pos rfl, renamed_f]; rfl
  · rw [decide_eq_false h1, if_pos (by rfl), Option.bind_some, if_pos rfl, Option.bind_some, if_pos rfl, renamed_f]; rfl
end Go.Dc
