/- ForgeDigestMatchesSpec: on every start that the row takes, the function returns true and leaves its arguments as they were. The statement has no condition beside the row. -/
import Derived.Test.YtmaepcbnjkanhaaGreatDoorRows
import Derived.Test.YtmaepcbnjkanhaaGreatDoorDcI
import Derived.Test.YtmaepcbnjkanhaaGreatDoorTie
import Derived.Test.YtmaepcbnjkanhaaGreatDoorCards
import Derived.Lay
import Derived.LaidMore
import Derived.SevenTiedAt
import Derived.Stop.Joined
import Derived.Test.YtmaepcbnjkanhaaGreatDoorDcRd
import Derived.Test.YtmaepcbnjkanhaaGreatDoorDcW18
import Derived.Test.YtmaepcbnjkanhaaGreatDoorDcFK
import Derived.WalkKit
import Derived.ProofKit
import Derived.OpenShut
import Derived.ShutString
import Derived.ChangeOld
import Derived.Below
namespace Go.Proofs.YtmaepcbnjkanhaaGreatDoor
open Go.ChangeShapes Go.WideShapes Go.ChangeAt Go.RowKit Go.Dc
set_option linter.unusedVariables false

theorem own10 : ownKnob Tryz.prog.godebug = none := by kernel_rfl
theorem laid10 : laidOutB Tryz.prog = true := by kernel_rfl

set_option maxRecDepth 100000 in
theorem lifted10 (os : Os) (started : os.Started) (H : Type) (enc : TypeId × Value → H) :
    ReturnsInHanded {} Tryz.checked os 10 .any (fun w args => (Rows.forgeDigestMatchesSpecSpec.pre enc Tryz.prog Tryz.f10 Rows.forgeDigestMatchesSpecRow.domain false w args ∧ laidMetH Tryz.prog [("unicode/utf8.acceptRanges", Rows.laid_unicode_utf8_acceptRanges), ("unicode/utf8.first", Rows.laid_unicode_utf8_first)] w) ∧ sizedMet enc Tryz.prog Tryz.f10 (OpenSpec.ofChange Rows.forgeDigestMatchesSpecSpec) false w args) (Rows.forgeDigestMatchesSpecSpec.post enc Tryz.prog Tryz.f10 false true false false) := by
  refine returnsInHanded_of_change_and (C := Tryz.checked) (X := fun w _ => laidMetH Tryz.prog [("unicode/utf8.acceptRanges", Rows.laid_unicode_utf8_acceptRanges), ("unicode/utf8.first", Rows.laid_unicode_utf8_first)] w) (fun _ _ _ hh h => h.of_heap hh) own10 started (by kernel_rfl) Tryz.func10
    (ChangeSpec.witness_shaped (enc := enc) (C := Tryz.checked) (os := os) (X := fun w _ => laidMetH Tryz.prog [("unicode/utf8.acceptRanges", Rows.laid_unicode_utf8_acceptRanges), ("unicode/utf8.first", Rows.laid_unicode_utf8_first)] w) false (World.laidAll Tryz.prog os [("unicode/utf8.acceptRanges", Rows.laid_unicode_utf8_acceptRanges), ("unicode/utf8.first", Rows.laid_unicode_utf8_first)]) #[.agg #[.slice none 0 0], .agg #[.int .i64 0, .int .i64 0, .slice none 0 0]] 8 (World.laidAll_os _ _ _)
      (World.shaped_of_ZipB (by kernel_rfl) (by kernel_rfl)) (by kernel_rfl) (by kernel_rfl) (by kernel_rfl)
      (by rw [MakeChecks.laidMetH_plain _ _ _ (by kernel_rfl)]; exact laidMet_laidAll _ (by kernel_rfl) (by kernel_rfl))) ?_
  intro W base args ds gs before hval0 hW hcnd _ _ _; have hval : ∀ (j : Nat) t v, Tryz.f10.params[j]? = some t → args[j]? = some v → Value.okWide Tryz.prog W .any base t v := hval0; have hW' := hW; obtain ⟨p, q, hA0, hV, rfl, hfz, hnd⟩ := hW; have hA : DataW.TrodAll enc Tryz.prog W 0 (fun _ => true) true Tryz.f10.params.toList args.toList ds p := hA0; rw [Tryz.params10] at hA hval; obtain ⟨v0, vs0, d0, ds0, p0, q0, hargs, rfl, rfl, h0, r0⟩ := trodAll_cons hA; obtain ⟨v1, vs1, d1, ds1, p1, q1, rfl, rfl, rfl, h1, r1⟩ := trodAll_cons r0; obtain ⟨rfl, rfl, rfl⟩ := trodAll_nil r1; obtain rfl : args = #[v0, v1] := by cases args; simp_all
  obtain ⟨rfl, rfl⟩ := trodVars_none hV; have k0 := h0; have lt0 : ∀ x ∈ p0, x.block < W.heap.size := by obtain ⟨m, hm⟩ := k0; exact DataW.trod_lt m _ _ _ hm
  obtain ⟨a0, rfl, hs0⟩ := okWide_struct (show Tryz.prog.underlying 37 = some (.struct (Tryz.prog.fieldsOf 37)) from by kernel_rfl) (hval 0 37 v0 rfl rfl)
  obtain ⟨fuel0, hf0⟩ := h0; obtain ⟨x0, rp0, hx0, hm0⟩ := rd37 H enc W fuel0 _ _ hf0; obtain ⟨v0_0, he0, s0_0⟩ := Qy rp0; obtain rfl : a0 = #[v0_0] := by cases a0; exact congrArg Array.mk he0
  have k1 := h1; have lt1 : ∀ x ∈ p1, x.block < W.heap.size := by obtain ⟨m, hm⟩ := k1; exact DataW.trod_lt m _ _ _ hm
  obtain ⟨a1, rfl, hs1⟩ := okWide_struct (show Tryz.prog.underlying 39 = some (.struct (Tryz.prog.fieldsOf 39)) from by kernel_rfl) (hval 1 39 v1 rfl rfl)
  obtain ⟨fuel1, hf1⟩ := h1; obtain ⟨x1, rp1, hx1, hm1⟩ := rd39 H enc W fuel1 _ _ hf1; obtain ⟨v1_0, he1, s1_0⟩ := H3 rp1; obtain rfl : a1 = #[.int .i64 x1.User, .int .i64 x1.Number, v1_0] := by cases a1; exact congrArg Array.mk he1
  clear hA0 hval0; refine (Lc (g := Gh.of W) (fr := []) x0 _ s0_0 x1 _ s1_0 (St.of W) (digest_spec x0 x1)).mono fun e W' ⟨v, he, g', hle, S', hv⟩ => ?_; subst he; subst hv; have bel := below_of hle S'; exact ⟨_, rfl, _, _, _, [], _, [], hW', trodAll_mk1 (shut_bool (show Tryz.prog.underlying 4 = some (.bool) from by kernel_rfl) _), (trodAll_cons_mk (Below.trod laid10 (by kernel_rfl) (of_decide_eq_true (by kernel_rfl)) k0 bel lt0) (trodAll_cons_mk (Below.trod laid10 (by kernel_rfl) (of_decide_eq_true (by kernel_rfl)) k1 bel lt1) trodAll_mk0)), rfl, bel.frame _, fun h => by cases h⟩

set_option maxHeartbeats 4000000 in
theorem joined10 : joinedFacts Tryz.pinned.checked.prog 10 Tryz.f10 Rows.forgeDigestMatchesSpecSpec Rows.forgeDigestMatchesSpecRow = true := by
  unfold joinedFacts; simp only [Bool.and_eq_true]
  and_intros <;> as_aux_lemma => kernel_rfl

theorem ForgeDigestMatchesSpec_proved : Rows.ForgeDigestMatchesSpecSaid :=
  OpenClaim.holds_of_wide 10 Tryz.f10 rfl rfl rfl rfl rfl rfl rfl ⟨rfl, rfl, rfl, rfl, rfl⟩ rfl rfl rfl rfl rfl (by kernel_rfl) Tryz.func10 joined10
    (of_decide_eq_true (by kernel_rfl)) (by unfold Func.isWrapper; first | (rw [if_pos (by decide +kernel)]; kernel_rfl) | (rw [if_neg (by decide +kernel)]; exact ⟨rfl, rfl⟩))
    (fun os started H enc _ => lifted10 os started H enc)
end Go.Proofs.YtmaepcbnjkanhaaGreatDoor
