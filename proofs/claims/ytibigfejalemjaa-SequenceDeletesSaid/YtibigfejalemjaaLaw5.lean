/- SequenceDeletes: on every start that the row takes, the function returns true and leaves its arguments as they were. The statement has no condition beside the row. -/
import Derived.Test.YtibigfejalemjaaRows
import Derived.Test.YtibigfejalemjaaDcI
import Derived.Test.YtibigfejalemjaaDcRd
import Derived.Test.YtibigfejalemjaaDcW8
import Derived.Test.YtibigfejalemjaaDcGG
import Derived.Test.YtibigfejalemjaaDcIS
import Derived.WalkKit
import Derived.ProofKit
import Derived.OpenShut
import Derived.ShutString
import Derived.ChangeOld
import Derived.Below
namespace Go.Proofs.Ytibigfejalemjaa
open Go.ChangeShapes Go.WideShapes Go.ChangeAt Go.RowKit Go.Dc
set_option linter.unusedVariables false

theorem own5 : ownKnob Try.prog.godebug = none := by kernel_rfl
theorem laid5 : laidOutB Try.prog = true := by kernel_rfl

set_option maxRecDepth 100000 in
theorem lifted5 (os : Os) (started : os.Started) (H : Type) (enc : TypeId × Value → H) :
    ReturnsInHanded {} Try.checked os 5 .any (Rows.sequenceDeletesSpec.pre6 enc Try.prog Try.f5 Rows.sequenceDeletesRow.domain false) (Rows.sequenceDeletesSpec.post enc Try.prog Try.f5 false true false false) := by
  refine returnsInHanded_of_change_sized (C := Try.checked) own5 started (by kernel_rfl) Try.func5
    (ChangeSpec.witness6 (enc := enc) (C := Try.checked) false ⟨#[], #[.slice none 0 0, .agg #[.bool false, .int .i64 0, .int .i64 0, .int .i64 0, .int .i64 0, .string ByteArray.empty]], []⟩ 8 (by kernel_rfl) (by kernel_rfl) (by kernel_rfl) (by kernel_rfl)) ?_
  intro W base args ds gs before hval0 hW hcnd hwt _
  have hval : ∀ (j : Nat) t v, Try.f5.params[j]? = some t → args[j]? = some v → Value.okWide Try.prog W .any base t v := hval0
  have hW' := hW
  obtain ⟨p, q, hA0, hV, rfl, hfz, hnd⟩ := hW
  have hA : DataW.TrodAll enc Try.prog W 0 (fun _ => true) true Try.f5.params.toList args.toList ds p := hA0
  rw [Try.params5] at hA hval hwt
  obtain ⟨v0, vs0, d0, ds0, p0, q0, hargs, rfl, rfl, h0, r0⟩ := trodAll_cons hA
  obtain ⟨v1, vs1, d1, ds1, p1, q1, rfl, rfl, rfl, h1, r1⟩ := trodAll_cons r0
  obtain ⟨rfl, rfl, rfl⟩ := trodAll_nil r1
  obtain rfl : args = #[v0, v1] := by cases args; simp_all
  obtain ⟨rfl, rfl⟩ := trodVars_none hV
  have k0 := h0
  have lt0 : ∀ x ∈ p0, x.block < W.heap.size := by obtain ⟨m, hm⟩ := k0; exact DataW.trod_lt m _ _ _ hm
  obtain ⟨a0, len0, cap0, rfl⟩ := okWide_slice (show Try.prog.underlying 22 = some (.slice 33) from by kernel_rfl) (hval 0 22 v0 rfl rfl)
  obtain ⟨fuel0, hf0⟩ := h0
  obtain ⟨x0, ⟨u0, he0, s0⟩, hx0, hm0⟩ := (read_slice (show Try.prog.underlying 22 = some (.slice 33) from by kernel_rfl) (by kernel_rfl) (by decide) rd33) H enc W fuel0 _ _ hf0
  obtain rfl := (List.cons.inj he0).1
  have k1 := h1
  have lt1 : ∀ x ∈ p1, x.block < W.heap.size := by obtain ⟨m, hm⟩ := k1; exact DataW.trod_lt m _ _ _ hm
  obtain ⟨a1, rfl, hs1⟩ := okWide_struct (show Try.prog.underlying 33 = some (.struct (Try.prog.fieldsOf 33)) from by kernel_rfl) (hval 1 33 v1 rfl rfl)
  obtain ⟨fuel1, hf1⟩ := h1
  obtain ⟨x1, rp1, hx1, hm1⟩ := rd33 H enc W fuel1 _ _ hf1
  obtain he1 := rep_SeqOp rp1
  obtain rfl : a1 = #[.bool x1.Delete, .int .i64 x1.Replica, .int .i64 x1.Counter, .int .i64 x1.AfterReplica, .int .i64 x1.AfterCounter, .string x1.Line] := by cases a1; exact congrArg Array.mk he1
  clear hA0 hval0
  have hs0 := sized_arg (show Try.prog.underlying 22 = some (.slice 33) from by kernel_rfl) hf0 s0 hwt (j := 0) rfl rfl (m := 56) (by kernel_rfl)
  refine (changeforgelaw2_SequenceDeletes_ok (g := Gh.of W) (fr := []) x0 _ s0 x1  (St.of W) (deletes_f x0 x1 hs0)).mono fun e W' ⟨v, he, g', hle, S', hv⟩ => ?_
  subst he; subst hv
  have bel := below_of hle S'
  exact ⟨_, rfl, _, _, _, [], _, [], hW', trodAll_mk1 (shut_bool (show Try.prog.underlying 4 = some (.bool) from by kernel_rfl) _), (trodAll_cons_mk (Below.trod laid5 (by kernel_rfl) (of_decide_eq_true (by kernel_rfl)) k0 bel lt0) (trodAll_cons_mk (Below.trod laid5 (by kernel_rfl) (of_decide_eq_true (by kernel_rfl)) k1 bel lt1) trodAll_mk0)), rfl, bel.frame _, fun h => by cases h⟩

set_option maxHeartbeats 4000000 in
theorem joined5 : joinedFacts Try.pinned.checked.prog 5 Try.f5 Rows.sequenceDeletesSpec Rows.sequenceDeletesRow = true := by
  unfold joinedFacts
  simp only [Bool.and_eq_true]
  and_intros <;> as_aux_lemma => kernel_rfl

theorem SequenceDeletes_proved : Rows.SequenceDeletesSaid :=
  OpenClaim.holds_of_wide 5 Try.f5 rfl rfl rfl rfl rfl rfl rfl ⟨rfl, rfl, rfl, rfl, rfl⟩ rfl rfl rfl rfl rfl (by kernel_rfl) Try.func5 joined5
    (of_decide_eq_true (by kernel_rfl)) (by unfold Func.isWrapper; first | (rw [if_pos (by decide +kernel)]; kernel_rfl) | (rw [if_neg (by decide +kernel)]; exact ⟨rfl, rfl⟩))
    (fun os started H enc _ => lifted5 os started H enc)

end Go.Proofs.Ytibigfejalemjaa
