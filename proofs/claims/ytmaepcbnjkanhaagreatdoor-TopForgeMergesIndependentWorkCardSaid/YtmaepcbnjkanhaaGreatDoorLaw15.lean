/- TopForgeMergesIndependentWork: on every start that the row takes, the function returns true and leaves its arguments as they were. The statement has no condition beside the row. -/
import Derived.Test.YtmaepcbnjkanhaaGreatDoorRows
import Derived.Test.YtmaepcbnjkanhaaGreatDoorDcI
import Derived.Test.YtmaepcbnjkanhaaGreatDoorTie
import Derived.Test.YtmaepcbnjkanhaaGreatDoorCards
import Derived.Lay
import Derived.LaidMore
import Derived.SevenTiedAt
import Derived.Stop.Joined
import Derived.Test.YtmaepcbnjkanhaaGreatDoorDcW42
import Derived.Test.YtmaepcbnjkanhaaGreatDoorDcFL
import Derived.WalkKit
import Derived.ProofKit
import Derived.OpenShut
import Derived.ShutString
import Derived.ChangeOld
import Derived.Below
namespace Go.Proofs.YtmaepcbnjkanhaaGreatDoor
open Go.ChangeShapes Go.WideShapes Go.ChangeAt Go.RowKit Go.Dc
set_option linter.unusedVariables false

theorem own15 : ownKnob Tryz.prog.godebug = none := by kernel_rfl
theorem laid15 : laidOutB Tryz.prog = true := by kernel_rfl

set_option maxRecDepth 100000 in
theorem lifted15 (os : Os) (started : os.Started) (H : Type) (enc : TypeId × Value → H) :
    ReturnsInHanded {} Tryz.checked os 15 .any (fun w args => (Rows.topForgeMergesIndependentWorkSpec.pre enc Tryz.prog Tryz.f15 Rows.topForgeMergesIndependentWorkRow.domain false w args ∧ laidMetH Tryz.prog [("unicode/utf8.acceptRanges", Rows.laid_unicode_utf8_acceptRanges), ("unicode/utf8.first", Rows.laid_unicode_utf8_first)] w) ∧ sizedMet enc Tryz.prog Tryz.f15 (OpenSpec.ofChange Rows.topForgeMergesIndependentWorkSpec) false w args) (Rows.topForgeMergesIndependentWorkSpec.post enc Tryz.prog Tryz.f15 false true false false) := by
  refine returnsInHanded_of_change_and (C := Tryz.checked) (X := fun w _ => laidMetH Tryz.prog [("unicode/utf8.acceptRanges", Rows.laid_unicode_utf8_acceptRanges), ("unicode/utf8.first", Rows.laid_unicode_utf8_first)] w) (fun _ _ _ hh h => h.of_heap hh) own15 started (by kernel_rfl) Tryz.func15
    (ChangeSpec.witness_shaped (enc := enc) (C := Tryz.checked) (os := os) (X := fun w _ => laidMetH Tryz.prog [("unicode/utf8.acceptRanges", Rows.laid_unicode_utf8_acceptRanges), ("unicode/utf8.first", Rows.laid_unicode_utf8_first)] w) false (World.laidAll Tryz.prog os [("unicode/utf8.acceptRanges", Rows.laid_unicode_utf8_acceptRanges), ("unicode/utf8.first", Rows.laid_unicode_utf8_first)]) #[.string ByteArray.empty, .string ByteArray.empty, .slice none 0 0, .slice none 0 0, .int .i64 0] 8 (World.laidAll_os _ _ _)
      (World.shaped_of_ZipB (by kernel_rfl) (by kernel_rfl)) (by kernel_rfl) (by kernel_rfl) (by kernel_rfl)
      (by rw [MakeChecks.laidMetH_plain _ _ _ (by kernel_rfl)]; exact laidMet_laidAll _ (by kernel_rfl) (by kernel_rfl))) ?_
  intro W base args ds gs before hval0 hW hcnd _ _ _; have hval : ∀ (j : Nat) t v, Tryz.f15.params[j]? = some t → args[j]? = some v → Value.okWide Tryz.prog W .any base t v := hval0; have hW' := hW; obtain ⟨p, q, hA0, hV, rfl, hfz, hnd⟩ := hW; have hA : DataW.TrodAll enc Tryz.prog W 0 (fun _ => true) true Tryz.f15.params.toList args.toList ds p := hA0; rw [Tryz.params15] at hA hval; obtain ⟨v0, vs0, d0, ds0, p0, q0, hargs, rfl, rfl, h0, r0⟩ := trodAll_cons hA; obtain ⟨v1, vs1, d1, ds1, p1, q1, rfl, rfl, rfl, h1, r1⟩ := trodAll_cons r0; obtain ⟨v2, vs2, d2, ds2, p2, q2, rfl, rfl, rfl, h2, r2⟩ := trodAll_cons r1; obtain ⟨v3, vs3, d3, ds3, p3, q3, rfl, rfl, rfl, h3, r3⟩ := trodAll_cons r2; obtain ⟨v4, vs4, d4, ds4, p4, q4, rfl, rfl, rfl, h4, r4⟩ := trodAll_cons r3; obtain ⟨rfl, rfl, rfl⟩ := trodAll_nil r4; obtain rfl : args = #[v0, v1, v2, v3, v4] := by cases args; simp_all
  obtain ⟨rfl, rfl⟩ := trodVars_none hV; have k0 := h0; have lt0 : ∀ x ∈ p0, x.block < W.heap.size := by obtain ⟨m, hm⟩ := k0; exact DataW.trod_lt m _ _ _ hm
  obtain ⟨a0, rfl⟩ := okWide_string (show Tryz.prog.underlying 9 = some (.string) from by kernel_rfl) (hval 0 9 v0 rfl rfl)
  obtain ⟨fuel0, hf0⟩ := h0; obtain ⟨x0, he0, hx0, hm0⟩ := (read_str (show Tryz.prog.underlying 9 = some (.string) from by kernel_rfl)) H enc W fuel0 _ _ hf0
  obtain rfl : a0 = x0 := by have := (List.cons.inj (Gu he0)).1; injection this
  have k1 := h1; have lt1 : ∀ x ∈ p1, x.block < W.heap.size := by obtain ⟨m, hm⟩ := k1; exact DataW.trod_lt m _ _ _ hm
  obtain ⟨a1, rfl⟩ := okWide_string (show Tryz.prog.underlying 9 = some (.string) from by kernel_rfl) (hval 1 9 v1 rfl rfl)
  obtain ⟨fuel1, hf1⟩ := h1; obtain ⟨x1, he1, hx1, hm1⟩ := (read_str (show Tryz.prog.underlying 9 = some (.string) from by kernel_rfl)) H enc W fuel1 _ _ hf1
  obtain rfl : a1 = x1 := by have := (List.cons.inj (Gu he1)).1; injection this
  have k2 := h2; have lt2 : ∀ x ∈ p2, x.block < W.heap.size := by obtain ⟨m, hm⟩ := k2; exact DataW.trod_lt m _ _ _ hm
  obtain ⟨a2, len2, cap2, rfl⟩ := okWide_slice (show Tryz.prog.underlying 76 = some (.slice 9) from by kernel_rfl) (hval 2 76 v2 rfl rfl)
  obtain ⟨fuel2, hf2⟩ := h2; obtain ⟨x2, ⟨u2, he2, s2⟩, hx2, hm2⟩ := (read_slice (show Tryz.prog.underlying 76 = some (.slice 9) from by kernel_rfl) (by kernel_rfl) (by decide) (read_str (show Tryz.prog.underlying 9 = some (.string) from by kernel_rfl))) H enc W fuel2 _ _ hf2
  obtain rfl := (List.cons.inj he2).1; have k3 := h3; have lt3 : ∀ x ∈ p3, x.block < W.heap.size := by obtain ⟨m, hm⟩ := k3; exact DataW.trod_lt m _ _ _ hm
  obtain ⟨a3, len3, cap3, rfl⟩ := okWide_slice (show Tryz.prog.underlying 76 = some (.slice 9) from by kernel_rfl) (hval 3 76 v3 rfl rfl)
  obtain ⟨fuel3, hf3⟩ := h3; obtain ⟨x3, ⟨u3, he3, s3⟩, hx3, hm3⟩ := (read_slice (show Tryz.prog.underlying 76 = some (.slice 9) from by kernel_rfl) (by kernel_rfl) (by decide) (read_str (show Tryz.prog.underlying 9 = some (.string) from by kernel_rfl))) H enc W fuel3 _ _ hf3
  obtain rfl := (List.cons.inj he3).1; have k4 := h4; have lt4 : ∀ x ∈ p4, x.block < W.heap.size := by obtain ⟨m, hm⟩ := k4; exact DataW.trod_lt m _ _ _ hm
  obtain ⟨a4, rfl⟩ := okWide_int (show Tryz.prog.underlying 3 = some (.int .i64) from by kernel_rfl) (hval 4 3 v4 rfl rfl)
  obtain ⟨fuel4, hf4⟩ := h4; obtain ⟨x4, he4, hx4, hm4⟩ := (read_int (show Tryz.prog.underlying 3 = some (.int .i64) from by kernel_rfl)) H enc W fuel4 _ _ hf4
  obtain rfl : a4 = x4 := by have := (List.cons.inj (Oi he4)).1; injection this
  clear hA0 hval0; refine (H9 (g := Gh.of W) (fr := []) a0 a1 x2 _ s2 x3 _ s3 a4 (St.of W) (top_forge a0 a1 x2 x3 a4)).mono fun e W' ⟨v, he, g', hle, S', hv⟩ => ?_; subst he; subst hv; have bel := below_of hle S'; exact ⟨_, rfl, _, _, _, [], _, [], hW', trodAll_mk1 (shut_bool (show Tryz.prog.underlying 4 = some (.bool) from by kernel_rfl) _), (trodAll_cons_mk (Below.trod laid15 (by kernel_rfl) (of_decide_eq_true (by kernel_rfl)) k0 bel lt0) (trodAll_cons_mk (Below.trod laid15 (by kernel_rfl) (of_decide_eq_true (by kernel_rfl)) k1 bel lt1) (trodAll_cons_mk (Below.trod laid15 (by kernel_rfl) (of_decide_eq_true (by kernel_rfl)) k2 bel lt2) (trodAll_cons_mk (Below.trod laid15 (by kernel_rfl) (of_decide_eq_true (by kernel_rfl)) k3 bel lt3) (trodAll_cons_mk (Below.trod laid15 (by kernel_rfl) (of_decide_eq_true (by kernel_rfl)) k4 bel lt4) trodAll_mk0))))), rfl, bel.frame _, fun h => by cases h⟩

set_option maxHeartbeats 4000000 in
theorem joined15 : joinedFacts Tryz.pinned.checked.prog 15 Tryz.f15 Rows.topForgeMergesIndependentWorkSpec Rows.topForgeMergesIndependentWorkRow = true := by
  unfold joinedFacts; simp only [Bool.and_eq_true]
  and_intros <;> as_aux_lemma => kernel_rfl

theorem TopForgeMergesIndependentWork_proved : Rows.TopForgeMergesIndependentWorkSaid :=
  OpenClaim.holds_of_wide 15 Tryz.f15 rfl rfl rfl rfl rfl rfl rfl ⟨rfl, rfl, rfl, rfl, rfl⟩ rfl rfl rfl rfl rfl (by kernel_rfl) Tryz.func15 joined15
    (of_decide_eq_true (by kernel_rfl)) (by unfold Func.isWrapper; first | (rw [if_pos (by decide +kernel)]; kernel_rfl) | (rw [if_neg (by decide +kernel)]; exact ⟨rfl, rfl⟩))
    (fun os started H enc _ => lifted15 os started H enc)
end Go.Proofs.YtmaepcbnjkanhaaGreatDoor
