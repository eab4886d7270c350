import Derived.Test.YtmhjcomgbfonfaaGreatDoorDcJ0
set_option linter.unusedSimpArgs false
set_option linter.unusedVariables false
set_option maxRecDepth 4000
namespace Go.Dc
open Go
theorem N6 : C1 = some true := by
  have ha := chF_ok.1 exR_ok
  have hb := chF_ok.1 exE_ok
  have hc : OkCh (edF ⟨#[98]⟩ ⟨[⟨0, [], [⟨#[120]⟩]⟩]⟩) := chF_ok.1 (by decide +kernel)
  have hi : indB exR exE = false := by decide +kernel
  have h : B1 exR exE = some (edF ⟨#[98]⟩ ⟨[⟨0, [], [⟨#[120]⟩]⟩]⟩, exR, true, ⟨0, 0⟩) := by
    unfold B1
    have e0 : B1.l1 exR exE 0 = some (Step.next 1) := by
      unfold B1.l1
      rw [if_pos (by simp), show at? [exR, exE] 0 = some exR from rfl, Option.bind_some, secondPatch1_f, Option.bind_some, exR_ok, if_neg (by decide)]; rfl
    have e1 : B1.l1 exR exE 1 = some (Step.next 2) := by
      unfold B1.l1
      rw [if_pos (by simp), show at? [exR, exE] 1 = some exE from rfl, Option.bind_some, secondPatch1_f, Option.bind_some, exE_ok, if_neg (by decide)]; rfl
    have e2 : B1.l1 exR exE 2 = some (Step.done (Sum.inr ())) := by
      unfold B1.l1
      rw [if_neg (by simp)]
    rw [B9 e0, B9 e1, Br e2, Option.bind_some]
    simp only
    unfold B1.j1
    have la := ha.len
    have lb := hb.len
    rw [copyChange_f (by omega) ha.sm, Option.bind_some, copyChange_f (by omega) hb.sm, Option.bind_some, independent_f ha.size hb.size, Option.bind_some, hi, if_neg Bool.false_ne_true, and3K, Be, if_neg (by decide), and3K, Be, if_pos ⟨rfl, rfl, rfl⟩, edit_f, Option.bind_some]
  have r2 := refl_ok ha
  have r1 : Dq (edF ⟨#[98]⟩ ⟨[⟨0, [], [⟨#[120]⟩]⟩]⟩) ⟨4, ⟨#[98]⟩, ByteArray.empty, [], ⟨[⟨0, [], [⟨#[120]⟩]⟩]⟩⟩ = some true := refl_ok hc
  unfold C1
  rw [h, Option.bind_some]
  simp only
  rw [r1, r2]
  rfl
end Go.Dc
