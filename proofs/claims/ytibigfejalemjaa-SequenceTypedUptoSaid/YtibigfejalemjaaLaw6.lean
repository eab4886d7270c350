/- SequenceTyped: on every start that the row takes (the arguments hold together at most as much as the row says), the function returns true and leaves its arguments as they were. The statement has no condition beside the row. -/
import Derived.Test.YtibigfejalemjaaRows
import Derived.Test.YtibigfejalemjaaDcI
import Derived.Test.YtibigfejalemjaaDcW9
import Derived.Test.YtibigfejalemjaaDcGH
import Derived.JoinedCond
import Derived.WalkKit
import Derived.ProofKit
import Derived.OpenShut
import Derived.ShutString
import Derived.ChangeOld
import Derived.Below
namespace Go.Proofs.Ytibigfejalemjaa
open Go.ChangeShapes Go.WideShapes Go.ChangeAt Go.RowKit Go.Dc
set_option linter.unusedVariables false

theorem own6 : ownKnob Try.prog.godebug = none := by kernel_rfl
theorem laid6 : laidOutB Try.prog = true := by kernel_rfl

theorem blk6 {H : Type} : Blk (H := H) Rows.uptoBulk Rows.uptoBulkAll where
  one := fun d => by cases d with
    | lit l => cases l <;> simp [Rows.uptoBulk]
    | _ => simp [Rows.uptoBulk]
  str := fun b => by simp [Rows.uptoBulk]
  slice := fun l r => by simp only [Rows.uptoBulk]; omega
  agg := fun l => by simp [Rows.uptoBulk]
  cons := fun d r => by simp [Rows.uptoBulkAll]

set_option maxRecDepth 100000 in
theorem lifted6 (os : Os) (started : os.Started) (H : Type) (enc : TypeId × Value → H) (F : Stop.Interp) :
    ReturnsInHanded {} Try.checked os 6 .any ((Rows.OpenSpec.upto Rows.sequenceTypedSpec).pre6 enc Try.prog Try.f6 Rows.sequenceTypedUptoRow.domain false) (((Rows.OpenSpec.upto Rows.sequenceTypedSpec).at F).post enc Try.prog Try.f6 false true false false) := by
  refine returnsInHanded_of_cond (C := Try.checked) (s := Rows.OpenSpec.upto Rows.sequenceTypedSpec) (k := Rows.uptoSmall) rfl own6 started (by kernel_rfl) Try.func6
    (OpenSpec.witness (enc := enc) (C := Try.checked) (s := Rows.OpenSpec.upto Rows.sequenceTypedSpec) (k := Rows.uptoSmall) rfl false ⟨#[], #[.slice none 0 0, .int .i64 0], []⟩ 8 (by kernel_rfl) (by kernel_rfl) (by kernel_rfl)
      (x := ([.nil, .lit (.int .i64 0)], [], [])) (by kernel_rfl) rfl (by kernel_rfl)) ?_
  intro W base args ds gs before hval0 hW hcnd hk0 _
  have hval : ∀ (j : Nat) t v, Try.f6.params[j]? = some t → args[j]? = some v → Value.okWide Try.prog W .any base t v := hval0
  have hW' := hW
  obtain ⟨p, q, hA0, hV, rfl, hfz, hnd⟩ := hW
  have hA : DataW.TrodAll enc Try.prog W 0 (fun _ => true) true Try.f6.params.toList args.toList ds p := hA0
  rw [Try.params6] at hA hval
  obtain ⟨v0, vs0, d0, ds0, p0, q0, hargs, rfl, rfl, h0, r0⟩ := trodAll_cons hA
  obtain ⟨v1, vs1, d1, ds1, p1, q1, rfl, rfl, rfl, h1, r1⟩ := trodAll_cons r0
  obtain ⟨rfl, rfl, rfl⟩ := trodAll_nil r1
  obtain rfl : args = #[v0, v1] := by cases args; simp_all
  obtain ⟨rfl, rfl⟩ := trodVars_none hV
  have k0 := h0
  have lt0 : ∀ x ∈ p0, x.block < W.heap.size := by obtain ⟨m, hm⟩ := k0; exact DataW.trod_lt m _ _ _ hm
  obtain ⟨a0, len0, cap0, rfl⟩ := okWide_slice (show Try.prog.underlying 23 = some (.slice 9) from by kernel_rfl) (hval 0 23 v0 rfl rfl)
  obtain ⟨fuel0, hf0⟩ := h0
  obtain ⟨x0, ⟨u0, he0, s0⟩, hx0, hm0⟩ := (read_slice (show Try.prog.underlying 23 = some (.slice 9) from by kernel_rfl) (by kernel_rfl) (by decide) (read_str (show Try.prog.underlying 9 = some (.string) from by kernel_rfl))) H enc W fuel0 _ _ hf0
  obtain rfl := (List.cons.inj he0).1
  have k1 := h1
  have lt1 : ∀ x ∈ p1, x.block < W.heap.size := by obtain ⟨m, hm⟩ := k1; exact DataW.trod_lt m _ _ _ hm
  obtain ⟨a1, rfl⟩ := okWide_int (show Try.prog.underlying 3 = some (.int .i64) from by kernel_rfl) (hval 1 3 v1 rfl rfl)
  obtain ⟨fuel1, hf1⟩ := h1
  obtain ⟨x1, he1, hx1, hm1⟩ := (read_int (show Try.prog.underlying 3 = some (.int .i64) from by kernel_rfl)) H enc W fuel1 _ _ hf1
  obtain rfl : a1 = x1 := by have := (List.cons.inj (rep_int he1)).1; injection this
  clear hA0 hval0
  have hk1 : Rows.uptoBulkAll (H := H) ([d0, d1] ++ []) ≤ 1048576 := of_decide_eq_true hk0
  simp only [List.append_nil, Rows.uptoBulkAll] at hk1
  have hb0 : Msr.m x0 ≤ Rows.uptoBulk d0 := hm0 _ _ blk6
  have hb1 : Msr.m a1 ≤ Rows.uptoBulk d1 := hm1 _ _ blk6
  have hbound : Msr.m x0 + Msr.m a1 ≤ 1048576 := by omega
  refine (changeforgelaw2_SequenceTyped_ok (g := Gh.of W) (fr := []) x0 _ s0 a1 (St.of W) (typed_f x0 a1 hbound)).mono fun e W' ⟨v, he, g', hle, S', hv⟩ => ?_
  subst he; subst hv
  have bel := below_of hle S'
  exact ⟨_, rfl, _, _, _, [], _, [], hW', trodAll_mk1 (shut_bool (show Try.prog.underlying 4 = some (.bool) from by kernel_rfl) _), (trodAll_cons_mk (Below.trod laid6 (by kernel_rfl) (of_decide_eq_true (by kernel_rfl)) k0 bel lt0) (trodAll_cons_mk (Below.trod laid6 (by kernel_rfl) (of_decide_eq_true (by kernel_rfl)) k1 bel lt1) trodAll_mk0)), rfl, bel.frame _, fun h => by cases h⟩

theorem SequenceTypedUpto_proved : Rows.SequenceTypedUptoSaid :=
  OpenClaim.holds_of_cond 6 Try.f6 rfl rfl rfl rfl rfl rfl rfl ⟨rfl, rfl, rfl, rfl, rfl⟩ rfl rfl rfl rfl rfl (by kernel_rfl) Try.func6 (by kernel_rfl)
    (of_decide_eq_true (by kernel_rfl)) (by unfold Func.isWrapper; first | (rw [if_pos (by decide +kernel)]; kernel_rfl) | (rw [if_neg (by decide +kernel)]; exact ⟨rfl, rfl⟩))
    (fun os started H enc _ F => lifted6 os started H enc F)

end Go.Proofs.Ytibigfejalemjaa
