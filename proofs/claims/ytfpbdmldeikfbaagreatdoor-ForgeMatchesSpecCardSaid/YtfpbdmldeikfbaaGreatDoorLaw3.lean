/- ForgeMatchesSpec: on every start that the row takes, the function returns true and leaves its arguments as they were. The statement has no condition beside the row. -/
import Derived.Test.YtfpbdmldeikfbaaGreatDoorRows
import Derived.Test.YtfpbdmldeikfbaaGreatDoorDcK
import Derived.Test.YtfpbdmldeikfbaaGreatDoorTie
import Derived.Test.YtfpbdmldeikfbaaGreatDoorCards
import Derived.Lay
import Derived.LaidMore
import Derived.SevenTiedAt
import Derived.Stop.Joined
import Derived.Test.YtfpbdmldeikfbaaGreatDoorDcRd
import Derived.Test.YtfpbdmldeikfbaaGreatDoorDcW28
import Derived.Test.YtfpbdmldeikfbaaGreatDoorDcHE
import Derived.WalkKit
import Derived.ProofKit
import Derived.OpenShut
import Derived.ShutString
import Derived.ChangeOld
import Derived.Below
namespace Go.Proofs.YtfpbdmldeikfbaaGreatDoor
open Go.ChangeShapes Go.WideShapes Go.ChangeAt Go.RowKit Go.Dc
set_option linter.unusedVariables false

theorem own3 : ownKnob Tryz.prog.godebug = none := by kernel_rfl
theorem laid3 : laidOutB Tryz.prog = true := by kernel_rfl

set_option maxRecDepth 100000 in
theorem lifted3 (os : Os) (started : os.Started) (H : Type) (enc : TypeId × Value → H) :
    ReturnsInHanded {} Tryz.checked os 3 .any (fun w args => (Rows.forgeMatchesSpecSpec.pre enc Tryz.prog Tryz.f3 Rows.forgeMatchesSpecRow.domain false w args ∧ laidMetH Tryz.prog [("unicode/utf8.acceptRanges", Rows.laid_unicode_utf8_acceptRanges), ("unicode/utf8.first", Rows.laid_unicode_utf8_first)] w) ∧ sizedMet enc Tryz.prog Tryz.f3 (OpenSpec.ofChange Rows.forgeMatchesSpecSpec) false w args) (Rows.forgeMatchesSpecSpec.post enc Tryz.prog Tryz.f3 false true false false) := by
  refine returnsInHanded_of_change_and (C := Tryz.checked) (X := fun w _ => laidMetH Tryz.prog [("unicode/utf8.acceptRanges", Rows.laid_unicode_utf8_acceptRanges), ("unicode/utf8.first", Rows.laid_unicode_utf8_first)] w) (fun _ _ _ hh h => h.of_heap hh) own3 started (by kernel_rfl) Tryz.func3
    (ChangeSpec.witness_shaped (enc := enc) (C := Tryz.checked) (os := os) (X := fun w _ => laidMetH Tryz.prog [("unicode/utf8.acceptRanges", Rows.laid_unicode_utf8_acceptRanges), ("unicode/utf8.first", Rows.laid_unicode_utf8_first)] w) false (World.laidAll Tryz.prog os [("unicode/utf8.acceptRanges", Rows.laid_unicode_utf8_acceptRanges), ("unicode/utf8.first", Rows.laid_unicode_utf8_first)]) #[.slice none 0 0, .slice none 0 0, .int .i64 0] 8 (World.laidAll_os _ _ _)
      (World.shaped_of_ZipB (by kernel_rfl) (by kernel_rfl)) (by kernel_rfl) (by kernel_rfl) (by kernel_rfl)
      (by rw [MakeChecks.laidMetH_plain _ _ _ (by kernel_rfl)]; exact laidMet_laidAll _ (by kernel_rfl) (by kernel_rfl))) ?_
  intro W base args ds gs before hval0 hW hcnd _ _ _; have hval : ∀ (j : Nat) t v, Tryz.f3.params[j]? = some t → args[j]? = some v → Value.okWide Tryz.prog W .any base t v := hval0; have hW' := hW; obtain ⟨p, q, hA0, hV, rfl, hfz, hnd⟩ := hW; have hA : DataW.TrodAll enc Tryz.prog W 0 (fun _ => true) true Tryz.f3.params.toList args.toList ds p := hA0; rw [Tryz.params3] at hA hval; obtain ⟨v0, vs0, d0, ds0, p0, q0, hargs, rfl, rfl, h0, r0⟩ := trodAll_cons hA; obtain ⟨v1, vs1, d1, ds1, p1, q1, rfl, rfl, rfl, h1, r1⟩ := trodAll_cons r0; obtain ⟨v2, vs2, d2, ds2, p2, q2, rfl, rfl, rfl, h2, r2⟩ := trodAll_cons r1; obtain ⟨rfl, rfl, rfl⟩ := trodAll_nil r2; obtain rfl : args = #[v0, v1, v2] := by cases args; simp_all
  obtain ⟨rfl, rfl⟩ := trodVars_none hV; have k0 := h0; have lt0 : ∀ x ∈ p0, x.block < W.heap.size := by obtain ⟨m, hm⟩ := k0; exact DataW.trod_lt m _ _ _ hm
  obtain ⟨a0, len0, cap0, rfl⟩ := okWide_slice Q8 (hval 0 22 v0 rfl rfl); obtain ⟨fuel0, hf0⟩ := h0; obtain ⟨x0, ⟨u0, he0, s0⟩, hx0, hm0⟩ := (Wa Q8 (by kernel_rfl) (by decide) (Yc tu3)) H enc W fuel0 _ _ hf0
  obtain rfl := (List.cons.inj he0).1; have k1 := h1; have lt1 : ∀ x ∈ p1, x.block < W.heap.size := by obtain ⟨m, hm⟩ := k1; exact DataW.trod_lt m _ _ _ hm
  obtain ⟨a1, len1, cap1, rfl⟩ := okWide_slice tu23 (hval 1 23 v1 rfl rfl); obtain ⟨fuel1, hf1⟩ := h1; obtain ⟨x1, ⟨u1, he1, s1⟩, hx1, hm1⟩ := (Wa tu23 (by kernel_rfl) (by decide) rd62) H enc W fuel1 _ _ hf1
  obtain rfl := (List.cons.inj he1).1; have k2 := h2; have lt2 : ∀ x ∈ p2, x.block < W.heap.size := by obtain ⟨m, hm⟩ := k2; exact DataW.trod_lt m _ _ _ hm
  obtain ⟨a2, rfl⟩ := okWide_int tu3 (hval 2 3 v2 rfl rfl); obtain ⟨fuel2, hf2⟩ := h2; obtain ⟨x2, he2, hx2, hm2⟩ := (Yc tu3) H enc W fuel2 _ _ hf2; obtain rfl : a2 = x2 := by have := (List.cons.inj (V9 he2)).1; injection this
  clear hA0 hval0; refine (Vq (g := Gh.of W) (fr := []) x0 _ s0 x1 _ s1 a2 (St.of W) (forge_spec x0 x1 a2)).mono fun e W' ⟨v, he, g', hle, S', hv⟩ => ?_; subst he; subst hv; have bel := below_of hle S'; exact ⟨_, rfl, _, _, _, [], _, [], hW', trodAll_mk1 (shut_bool tu4 _), (trodAll_cons_mk (Below.trod laid3 (by kernel_rfl) (of_decide_eq_true (by kernel_rfl)) k0 bel lt0) (trodAll_cons_mk (Below.trod laid3 (by kernel_rfl) (of_decide_eq_true (by kernel_rfl)) k1 bel lt1) (trodAll_cons_mk (Below.trod laid3 (by kernel_rfl) (of_decide_eq_true (by kernel_rfl)) k2 bel lt2) trodAll_mk0))), rfl, bel.frame _, fun h => by cases h⟩

set_option maxHeartbeats 4000000 in
theorem joined3 : joinedFacts Tryz.pinned.checked.prog 3 Tryz.f3 Rows.forgeMatchesSpecSpec Rows.forgeMatchesSpecRow = true := by
  unfold joinedFacts; simp only [Bool.and_eq_true]
  and_intros <;> as_aux_lemma => kernel_rfl

theorem ForgeMatchesSpec_proved : Rows.ForgeMatchesSpecSaid :=
  OpenClaim.holds_of_wide 3 Tryz.f3 rfl rfl rfl rfl rfl rfl rfl ⟨rfl, rfl, rfl, rfl, rfl⟩ rfl rfl rfl rfl rfl (by kernel_rfl) Tryz.func3 joined3
    (of_decide_eq_true (by kernel_rfl)) (by unfold Func.isWrapper; first | (rw [if_pos (by decide +kernel)]; kernel_rfl) | (rw [if_neg (by decide +kernel)]; exact ⟨rfl, rfl⟩))
    (fun os started H enc _ => lifted3 os started H enc)
end Go.Proofs.YtfpbdmldeikfbaaGreatDoor
