/- The law TreecommuteDistance. -/
import Derived.Test.YtjmigclbilnajaaDoorDcUC
import Derived.Test.YtjmigclbilnajaaDoorDcUJ
import Derived.Test.YtjmigclbilnajaaDoorDcVD
set_option linter.unusedSimpArgs false
set_option linter.unusedVariables false
namespace Go.Dc
open Go

theorem applyF_lines {p : Patch} {t : List ByteArray} (h : (applyF p t).2.Code = 0) : OkText (applyF p t).1 := by
  obtain ⟨h1, h2, h3, h4, h5, h6⟩ := applyF_ok h
  rw [h6]
  exact ⟨h5, rawS_lines _ _ _ h3.2 fun x hx => lines_of (good_at h2 (by omega) x hx).2.2.2.1⟩

theorem distance_self {t : List ByteArray} (h : OkText t) : diff_Distance t t = some (0, ⟨0, 0⟩) := by
  obtain ⟨v, f, h1, h2⟩ := distance_eq t t
  rcases h2 with ⟨rfl, _, _, hv⟩ | ⟨_, h3⟩
  · rw [lcs_self] at hv
    rw [h1, show v = 0 by omega]
  · exact absurd ⟨h, h⟩ h3

/-- what an exchanged pair of patches makes of a text -/
theorem comm_apply {p q : Patch} (h1 : (commF p q).2.2.2.Code = 0) (h2 : (commF p q).2.2.1 = true) {t : List ByteArray} (g : (applyF p t).2.Code = 0) (h : (applyF q (applyF p t).1).2.Code = 0) :
    ((applyF (commF p q).1 t).2.Code = 10) ∨ ((applyF (commF p q).1 t).2.Code = 0 ∧ ((applyF (commF p q).2.1 (applyF (commF p q).1 t).1).2.Code = 10 ∨
      applyF (commF p q).2.1 (applyF (commF p q).1 t).1 = applyF q (applyF p t).1)) := by
  obtain ⟨a1, a2, a3, a4, a5, a6⟩ := applyF_ok g
  have ho := applyF_lines g
  rw [a6] at h ho ⊢
  simp only at h ho ⊢
  obtain ⟨b1, b2, b3, b4, b5, b6⟩ := applyF_ok h
  obtain ⟨c1, c2, c3, c4, c5, c6⟩ := commF_made h1 h2
  obtain ⟨e1, e2, e3⟩ := commF_effect h1 h2 t a4 b4
  have k1 := applyF_of (p := (commF p q).1) (by rw [c6]; exact c4) a3.2 a3.1 e1
  by_cases n1 : (rawS (commF p q).1.Hunks t 0).length > 120
  · rw [if_pos n1] at k1
    left; rw [k1]
  · rw [if_neg n1] at k1
    right
    rw [k1]
    refine ⟨rfl, ?_⟩
    have l1 : Lines (rawS (commF p q).1.Hunks t 0) := raw_lines (p := (commF p q).1) (by rw [c6]; exact c4) a3.2
    have k2 := applyF_of (p := (commF p q).2.1) (by rw [c6]; exact c5) l1 (by omega) e2
    simp only
    rw [k2, e3, b6]
    rw [if_neg (by omega)]
    exact Or.inr rfl

theorem tc_distance (path : ByteArray) (base : List ByteArray) (p q : Patch) : changeforgelaw2_TreecommuteDistance path base p q = some true := by
  unfold changeforgelaw2_TreecommuteDistance
  rw [show (⟨4, path, ByteArray.empty, [], p⟩ : TreeChange) = edF path p from rfl, show (⟨4, path, ByteArray.empty, [], q⟩ : TreeChange) = edF path q from rfl, Commute_f, Option.bind_some, followed_f, ite_ndec]
  by_cases h1 : (tcF (edF path p) (edF path q)).2.2.2.Code = 0
  · rw [if_pos h1, Option.bind_some]
    cases h2 : (tcF (edF path p) (edF path q)).2.2.1 with
    | false => rfl
    | true =>
      obtain ⟨ha, hb, he⟩ := tcF_ok h1
      rw [he, exF_edits] at h1 h2 ⊢
      by_cases c1 : (commF p q).2.2.2.Code ≠ 0
      · rw [if_pos c1] at h2; cases h2
      · rw [if_neg c1] at h1 h2 ⊢
        by_cases c2 : (commF p q).2.2.1 = false
        · rw [if_pos c2] at h2; cases h2
        · rw [if_neg c2] at h1 h2 ⊢
          rw [if_neg (by decide)]
          simp only [edF]
          rw [apply_f, Option.bind_some, apply_f, Option.bind_some, apply_f, Option.bind_some, apply_f, Option.bind_some]
          by_cases g : (applyF p base).2.Code = 0
          · by_cases h : (applyF q (applyF p base).1).2.Code = 0
            · have ho := applyF_lines h
              rcases comm_apply (by omega) (by simpa using c2) g h with k | ⟨k, k' | k'⟩
              · simp [g, h, k]
              · simp [g, h, k, k']
              · rw [k']
                simp [g, h, k, distance_self ho]
            · simp [g, h]
          · simp [g]
  · rw [if_neg h1]; rfl
end Go.Dc
