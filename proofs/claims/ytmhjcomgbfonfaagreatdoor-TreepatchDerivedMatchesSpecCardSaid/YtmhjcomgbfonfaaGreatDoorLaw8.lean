/- TreepatchDerivedMatchesSpec: on every start that the row takes, the function returns true and leaves its arguments as they were. The statement has no condition beside the row. -/
import Derived.Test.YtmhjcomgbfonfaaGreatDoorRows
import Derived.Test.YtmhjcomgbfonfaaGreatDoorDcI
import Derived.Test.YtmhjcomgbfonfaaGreatDoorTie
import Derived.Test.YtmhjcomgbfonfaaGreatDoorCards
import Derived.Lay
import Derived.LaidMore
import Derived.SevenTiedAt
import Derived.Stop.Joined
import Derived.Test.YtmhjcomgbfonfaaGreatDoorDcRd
import Derived.Test.YtmhjcomgbfonfaaGreatDoorDcW32
import Derived.Test.YtmhjcomgbfonfaaGreatDoorDcJM
import Derived.WalkKit
import Derived.ProofKit
import Derived.OpenShut
import Derived.ShutString
import Derived.ChangeOld
import Derived.Below
namespace Go.Proofs.YtmhjcomgbfonfaaGreatDoor
open Go.ChangeShapes Go.WideShapes Go.ChangeAt Go.RowKit Go.Dc
set_option linter.unusedVariables false

theorem own8 : ownKnob Tryz.prog.godebug = none := by kernel_rfl
theorem laid8 : laidOutB Tryz.prog = true := by kernel_rfl

set_option maxRecDepth 100000 in
theorem lifted8 (os : Os) (started : os.Started) (H : Type) (enc : TypeId × Value → H) :
    ReturnsInHanded {} Tryz.checked os 8 .any (fun w args => (Rows.treepatchDerivedMatchesSpecSpec.pre enc Tryz.prog Tryz.f8 Rows.treepatchDerivedMatchesSpecRow.domain false w args ∧ laidMetH Tryz.prog [("unicode/utf8.acceptRanges", Rows.laid_unicode_utf8_acceptRanges), ("unicode/utf8.first", Rows.laid_unicode_utf8_first)] w) ∧ sizedMet enc Tryz.prog Tryz.f8 (OpenSpec.ofChange Rows.treepatchDerivedMatchesSpecSpec) false w args) (Rows.treepatchDerivedMatchesSpecSpec.post enc Tryz.prog Tryz.f8 false true false false) := by
  refine returnsInHanded_of_change_and (C := Tryz.checked) (X := fun w _ => laidMetH Tryz.prog [("unicode/utf8.acceptRanges", Rows.laid_unicode_utf8_acceptRanges), ("unicode/utf8.first", Rows.laid_unicode_utf8_first)] w) (fun _ _ _ hh h => h.of_heap hh) own8 started (by kernel_rfl) Tryz.func8
    (ChangeSpec.witness_shaped (enc := enc) (C := Tryz.checked) (os := os) (X := fun w _ => laidMetH Tryz.prog [("unicode/utf8.acceptRanges", Rows.laid_unicode_utf8_acceptRanges), ("unicode/utf8.first", Rows.laid_unicode_utf8_first)] w) false (World.laidAll Tryz.prog os [("unicode/utf8.acceptRanges", Rows.laid_unicode_utf8_acceptRanges), ("unicode/utf8.first", Rows.laid_unicode_utf8_first)]) #[.agg #[.slice none 0 0], .agg #[.slice none 0 0], .agg #[.slice none 0 0]] 8 (World.laidAll_os _ _ _)
      (World.shaped_of_ZipB (by kernel_rfl) (by kernel_rfl)) (by kernel_rfl) (by kernel_rfl) (by kernel_rfl)
      (by rw [MakeChecks.laidMetH_plain _ _ _ (by kernel_rfl)]; exact laidMet_laidAll _ (by kernel_rfl) (by kernel_rfl))) ?_
  intro W base args ds gs before hval0 hW hcnd _ _ _; have hval : ∀ (j : Nat) t v, Tryz.f8.params[j]? = some t → args[j]? = some v → Value.okWide Tryz.prog W .any base t v := hval0; have hW' := hW; obtain ⟨p, q, hA0, hV, rfl, hfz, hnd⟩ := hW; have hA : DataW.TrodAll enc Tryz.prog W 0 (fun _ => true) true Tryz.f8.params.toList args.toList ds p := hA0; rw [Tryz.params8] at hA hval; obtain ⟨v0, vs0, d0, ds0, p0, q0, hargs, rfl, rfl, h0, r0⟩ := trodAll_cons hA; obtain ⟨v1, vs1, d1, ds1, p1, q1, rfl, rfl, rfl, h1, r1⟩ := trodAll_cons r0; obtain ⟨v2, vs2, d2, ds2, p2, q2, rfl, rfl, rfl, h2, r2⟩ := trodAll_cons r1; obtain ⟨rfl, rfl, rfl⟩ := trodAll_nil r2; obtain rfl : args = #[v0, v1, v2] := by cases args; simp_all
  obtain ⟨rfl, rfl⟩ := trodVars_none hV; have k0 := h0; have lt0 : ∀ x ∈ p0, x.block < W.heap.size := by obtain ⟨m, hm⟩ := k0; exact DataW.trod_lt m _ _ _ hm
  obtain ⟨a0, rfl, hs0⟩ := okWide_struct (show Tryz.prog.underlying 27 = some (.struct (Tryz.prog.fieldsOf 27)) from by kernel_rfl) (hval 0 27 v0 rfl rfl)
  obtain ⟨fuel0, hf0⟩ := h0; obtain ⟨x0, rp0, hx0, hm0⟩ := rd27 H enc W fuel0 _ _ hf0; obtain ⟨v0_0, he0, s0_0⟩ := rep_TreePatch rp0; obtain rfl : a0 = #[v0_0] := by cases a0; exact congrArg Array.mk he0
  have k1 := h1; have lt1 : ∀ x ∈ p1, x.block < W.heap.size := by obtain ⟨m, hm⟩ := k1; exact DataW.trod_lt m _ _ _ hm
  obtain ⟨a1, rfl, hs1⟩ := okWide_struct (show Tryz.prog.underlying 24 = some (.struct (Tryz.prog.fieldsOf 24)) from by kernel_rfl) (hval 1 24 v1 rfl rfl)
  obtain ⟨fuel1, hf1⟩ := h1; obtain ⟨x1, rp1, hx1, hm1⟩ := rd24 H enc W fuel1 _ _ hf1; obtain ⟨v1_0, he1, s1_0⟩ := rep_FileTree rp1; obtain rfl : a1 = #[v1_0] := by cases a1; exact congrArg Array.mk he1
  have k2 := h2; have lt2 : ∀ x ∈ p2, x.block < W.heap.size := by obtain ⟨m, hm⟩ := k2; exact DataW.trod_lt m _ _ _ hm
  obtain ⟨a2, rfl, hs2⟩ := okWide_struct (show Tryz.prog.underlying 24 = some (.struct (Tryz.prog.fieldsOf 24)) from by kernel_rfl) (hval 2 24 v2 rfl rfl)
  obtain ⟨fuel2, hf2⟩ := h2; obtain ⟨x2, rp2, hx2, hm2⟩ := rd24 H enc W fuel2 _ _ hf2; obtain ⟨v2_0, he2, s2_0⟩ := rep_FileTree rp2; obtain rfl : a2 = #[v2_0] := by cases a2; exact congrArg Array.mk he2
  clear hA0 hval0; refine (H5 (g := Gh.of W) (fr := []) x0 _ s0_0 x1 _ s1_0 x2 _ s2_0 (St.of W) (derived_matches x0 x1 x2)).mono fun e W' ⟨v, he, g', hle, S', hv⟩ => ?_; subst he; subst hv; have bel := below_of hle S'; exact ⟨_, rfl, _, _, _, [], _, [], hW', trodAll_mk1 (shut_bool (show Tryz.prog.underlying 4 = some (.bool) from by kernel_rfl) _), (trodAll_cons_mk (Below.trod laid8 (by kernel_rfl) (of_decide_eq_true (by kernel_rfl)) k0 bel lt0) (trodAll_cons_mk (Below.trod laid8 (by kernel_rfl) (of_decide_eq_true (by kernel_rfl)) k1 bel lt1) (trodAll_cons_mk (Below.trod laid8 (by kernel_rfl) (of_decide_eq_true (by kernel_rfl)) k2 bel lt2) trodAll_mk0))), rfl, bel.frame _, fun h => by cases h⟩

set_option maxHeartbeats 4000000 in
theorem joined8 : joinedFacts Tryz.pinned.checked.prog 8 Tryz.f8 Rows.treepatchDerivedMatchesSpecSpec Rows.treepatchDerivedMatchesSpecRow = true := by
  unfold joinedFacts; simp only [Bool.and_eq_true]
  and_intros <;> as_aux_lemma => kernel_rfl

theorem TreepatchDerivedMatchesSpec_proved : Rows.TreepatchDerivedMatchesSpecSaid :=
  OpenClaim.holds_of_wide 8 Tryz.f8 rfl rfl rfl rfl rfl rfl rfl ⟨rfl, rfl, rfl, rfl, rfl⟩ rfl rfl rfl rfl rfl (by kernel_rfl) Tryz.func8 joined8
    (of_decide_eq_true (by kernel_rfl)) (by unfold Func.isWrapper; first | (rw [if_pos (by decide +kernel)]; kernel_rfl) | (rw [if_neg (by decide +kernel)]; exact ⟨rfl, rfl⟩))
    (fun os started H enc _ => lifted8 os started H enc)
theorem TreepatchDerivedMatchesSpecCard_proved : Rows.TreepatchDerivedMatchesSpecCardSaid :=
  Claim7.holds_tied_plain_at .later [] [.data, .pinned] true (true, "e4eb94824ea46fed70c37aa0159fdc1a90141f17cf58d6900e3f301eb52d3376") false TreepatchDerivedMatchesSpec_proved (fun _ h => by cases h) (by kernel_rfl) (fun _ h => by cases h) treepatchDerivedMatchesSpec_row_tie rfl ⟨rfl, rfl⟩ (by kernel_rfl) rfl
    (fun f fn hf hfn => by
      obtain rfl : f = 8 := Option.some.inj ((show Tryz.prog.funcNamed "changeforge/changeforgelaw2.TreepatchDerivedMatchesSpec" = some 8 by kernel_rfl).symm.trans hf) |>.symm
      obtain rfl : fn = Tryz.f8 := (Option.some.inj (Tryz.func8.symm.trans hfn)).symm
      exact ⟨by kernel_rfl, fun j t ht => by
        rw [Tryz.params8] at ht; have hm : t ∈ [27, 24, 24] := by simpa using Array.mem_of_getElem? ht
        have hall : ([27, 24, 24].all fun u => !Tryz.prog.wantsStandIn u) = true := by kernel_rfl
        have h2 := List.all_eq_true.1 hall t hm; exact (show Tryz.prog.wantsStandIn t = false by simpa using h2)⟩)
    (by kernel_rfl)

end Go.Proofs.YtmhjcomgbfonfaaGreatDoor
