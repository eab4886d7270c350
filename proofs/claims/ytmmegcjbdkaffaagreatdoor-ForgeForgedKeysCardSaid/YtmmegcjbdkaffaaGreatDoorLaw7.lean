/- ForgeForgedKeys: on every start that the row takes, the function returns true and leaves its arguments as they were. The statement has no condition beside the row. -/
import Derived.Test.YtmmegcjbdkaffaaGreatDoorRows
import Derived.Test.YtmmegcjbdkaffaaGreatDoorDcI
import Derived.Test.YtmmegcjbdkaffaaGreatDoorTie
import Derived.Test.YtmmegcjbdkaffaaGreatDoorCards
import Derived.Lay
import Derived.LaidMore
import Derived.SevenTiedAt
import Derived.Stop.Joined
import Derived.Test.YtmmegcjbdkaffaaGreatDoorDcRd
import Derived.Test.YtmmegcjbdkaffaaGreatDoorDcW21
import Derived.Test.YtmmegcjbdkaffaaGreatDoorDcFU
import Derived.WalkKit
import Derived.ProofKit
import Derived.OpenShut
import Derived.ShutString
import Derived.ChangeOld
import Derived.Below
namespace Go.Proofs.YtmmegcjbdkaffaaGreatDoor
open Go.ChangeShapes Go.WideShapes Go.ChangeAt Go.RowKit Go.Dc
set_option linter.unusedVariables false

theorem own7 : ownKnob Tryz.prog.godebug = none := by kernel_rfl
theorem laid7 : laidOutB Tryz.prog = true := by kernel_rfl

set_option maxRecDepth 100000 in
theorem lifted7 (os : Os) (started : os.Started) (H : Type) (enc : TypeId × Value → H) :
    ReturnsInHanded {} Tryz.checked os 7 .any (fun w args => (Rows.forgeForgedKeysSpec.pre enc Tryz.prog Tryz.f7 Rows.forgeForgedKeysRow.domain false w args ∧ laidMetH Tryz.prog [("unicode/utf8.acceptRanges", Rows.laid_unicode_utf8_acceptRanges), ("unicode/utf8.first", Rows.laid_unicode_utf8_first)] w) ∧ sizedMet enc Tryz.prog Tryz.f7 (OpenSpec.ofChange Rows.forgeForgedKeysSpec) false w args) (Rows.forgeForgedKeysSpec.post enc Tryz.prog Tryz.f7 false true false false) := by
  refine returnsInHanded_of_change_and (C := Tryz.checked) (X := fun w _ => laidMetH Tryz.prog [("unicode/utf8.acceptRanges", Rows.laid_unicode_utf8_acceptRanges), ("unicode/utf8.first", Rows.laid_unicode_utf8_first)] w) (fun _ _ _ hh h => h.of_heap hh) own7 started (by kernel_rfl) Tryz.func7
    (ChangeSpec.witness_shaped (enc := enc) (C := Tryz.checked) (os := os) (X := fun w _ => laidMetH Tryz.prog [("unicode/utf8.acceptRanges", Rows.laid_unicode_utf8_acceptRanges), ("unicode/utf8.first", Rows.laid_unicode_utf8_first)] w) false (World.laidAll Tryz.prog os [("unicode/utf8.acceptRanges", Rows.laid_unicode_utf8_acceptRanges), ("unicode/utf8.first", Rows.laid_unicode_utf8_first)]) #[.slice none 0 0, .slice none 0 0] 8 (World.laidAll_os _ _ _)
      (World.shaped_of_ZipB (by kernel_rfl) (by kernel_rfl)) (by kernel_rfl) (by kernel_rfl) (by kernel_rfl)
      (by rw [MakeChecks.laidMetH_plain _ _ _ (by kernel_rfl)]; exact laidMet_laidAll _ (by kernel_rfl) (by kernel_rfl))) ?_
  intro W base args ds gs before hval0 hW hcnd _ _ _; have hval : ∀ (j : Nat) t v, Tryz.f7.params[j]? = some t → args[j]? = some v → Value.okWide Tryz.prog W .any base t v := hval0; have hW' := hW; obtain ⟨p, q, hA0, hV, rfl, hfz, hnd⟩ := hW; have hA : DataW.TrodAll enc Tryz.prog W 0 (fun _ => true) true Tryz.f7.params.toList args.toList ds p := hA0; rw [Tryz.params7] at hA hval; obtain ⟨v0, vs0, d0, ds0, p0, q0, hargs, rfl, rfl, h0, r0⟩ := trodAll_cons hA; obtain ⟨v1, vs1, d1, ds1, p1, q1, rfl, rfl, rfl, h1, r1⟩ := trodAll_cons r0; obtain ⟨rfl, rfl, rfl⟩ := trodAll_nil r1; obtain rfl : args = #[v0, v1] := by cases args; simp_all
  obtain ⟨rfl, rfl⟩ := trodVars_none hV; have k0 := h0; have lt0 : ∀ x ∈ p0, x.block < W.heap.size := by obtain ⟨m, hm⟩ := k0; exact DataW.trod_lt m _ _ _ hm
  obtain ⟨a0, len0, cap0, rfl⟩ := okWide_slice Gn (hval 0 22 v0 rfl rfl); obtain ⟨fuel0, hf0⟩ := h0; obtain ⟨x0, ⟨u0, he0, s0⟩, hx0, hm0⟩ := (Gj Gn (by kernel_rfl) (by decide) (Kk tu3)) H enc W fuel0 _ _ hf0
  obtain rfl := (List.cons.inj he0).1; have k1 := h1; have lt1 : ∀ x ∈ p1, x.block < W.heap.size := by obtain ⟨m, hm⟩ := k1; exact DataW.trod_lt m _ _ _ hm
  obtain ⟨a1, len1, cap1, rfl⟩ := okWide_slice Ls (hval 1 23 v1 rfl rfl); obtain ⟨fuel1, hf1⟩ := h1; obtain ⟨x1, ⟨u1, he1, s1⟩, hx1, hm1⟩ := (Gj Ls (by kernel_rfl) (by decide) rd44) H enc W fuel1 _ _ hf1
  obtain rfl := (List.cons.inj he1).1; clear hA0 hval0; refine (N7 (g := Gh.of W) (fr := []) x0 _ s0 x1 _ s1 (St.of W) (forged_keys x0 x1)).mono fun e W' ⟨v, he, g', hle, S', hv⟩ => ?_; subst he; subst hv; have bel := Tz hle S'; exact ⟨_, rfl, _, _, _, [], _, [], hW', trodAll_mk1 (shut_bool tu4 _), (trodAll_cons_mk (Below.trod laid7 (by kernel_rfl) (of_decide_eq_true (by kernel_rfl)) k0 bel lt0) (trodAll_cons_mk (Below.trod laid7 (by kernel_rfl) (of_decide_eq_true (by kernel_rfl)) k1 bel lt1) trodAll_mk0)), rfl, bel.frame _, fun h => by cases h⟩

set_option maxHeartbeats 4000000 in
theorem joined7 : joinedFacts Tryz.pinned.checked.prog 7 Tryz.f7 Rows.forgeForgedKeysSpec Rows.forgeForgedKeysRow = true := by
  unfold joinedFacts; simp only [Bool.and_eq_true]
  and_intros <;> as_aux_lemma => kernel_rfl

theorem ForgeForgedKeys_proved : Rows.ForgeForgedKeysSaid :=
  OpenClaim.holds_of_wide 7 Tryz.f7 rfl rfl rfl rfl rfl rfl rfl ⟨rfl, rfl, rfl, rfl, rfl⟩ rfl rfl rfl rfl rfl (by kernel_rfl) Tryz.func7 joined7
    (of_decide_eq_true (by kernel_rfl)) (by unfold Func.isWrapper; first | (rw [if_pos (by decide +kernel)]; kernel_rfl) | (rw [if_neg (by decide +kernel)]; exact ⟨rfl, rfl⟩))
    (fun os started H enc _ => lifted7 os started H enc)
end Go.Proofs.YtmmegcjbdkaffaaGreatDoor
