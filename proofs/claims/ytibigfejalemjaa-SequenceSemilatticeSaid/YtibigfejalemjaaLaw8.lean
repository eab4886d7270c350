/- SequenceSemilattice: on every start that the row takes, the function returns true and leaves its arguments as they were. The statement has no condition beside the row. -/
import Derived.Test.YtibigfejalemjaaRows
import Derived.Test.YtibigfejalemjaaDcI
import Derived.Test.YtibigfejalemjaaDcRd
import Derived.Test.YtibigfejalemjaaDcW14
import Derived.Test.YtibigfejalemjaaDcGG
import Derived.WalkKit
import Derived.ProofKit
import Derived.OpenShut
import Derived.ShutString
import Derived.ChangeOld
import Derived.Below
namespace Go.Proofs.Ytibigfejalemjaa
open Go.ChangeShapes Go.WideShapes Go.ChangeAt Go.RowKit Go.Dc
set_option linter.unusedVariables false

theorem own8 : ownKnob Try.prog.godebug = none := by kernel_rfl
theorem laid8 : laidOutB Try.prog = true := by kernel_rfl

set_option maxRecDepth 100000 in
theorem lifted8 (os : Os) (started : os.Started) (H : Type) (enc : TypeId × Value → H) :
    ReturnsInHanded {} Try.checked os 8 .any (Rows.sequenceSemilatticeSpec.pre6 enc Try.prog Try.f8 Rows.sequenceSemilatticeRow.domain false) (Rows.sequenceSemilatticeSpec.post enc Try.prog Try.f8 false true false false) := by
  refine returnsInHanded_of_change (C := Try.checked) own8 started (by kernel_rfl) Try.func8
    (ChangeSpec.witness6 (enc := enc) (C := Try.checked) false ⟨#[], #[.slice none 0 0, .slice none 0 0, .slice none 0 0], []⟩ 8 (by kernel_rfl) (by kernel_rfl) (by kernel_rfl) (by kernel_rfl)) ?_
  intro W base args ds gs before hval0 hW hcnd _
  have hval : ∀ (j : Nat) t v, Try.f8.params[j]? = some t → args[j]? = some v → Value.okWide Try.prog W .any base t v := hval0
  have hW' := hW
  obtain ⟨p, q, hA0, hV, rfl, hfz, hnd⟩ := hW
  have hA : DataW.TrodAll enc Try.prog W 0 (fun _ => true) true Try.f8.params.toList args.toList ds p := hA0
  rw [Try.params8] at hA hval
  obtain ⟨v0, vs0, d0, ds0, p0, q0, hargs, rfl, rfl, h0, r0⟩ := trodAll_cons hA
  obtain ⟨v1, vs1, d1, ds1, p1, q1, rfl, rfl, rfl, h1, r1⟩ := trodAll_cons r0
  obtain ⟨v2, vs2, d2, ds2, p2, q2, rfl, rfl, rfl, h2, r2⟩ := trodAll_cons r1
  obtain ⟨rfl, rfl, rfl⟩ := trodAll_nil r2
  obtain rfl : args = #[v0, v1, v2] := by cases args; simp_all
  obtain ⟨rfl, rfl⟩ := trodVars_none hV
  have k0 := h0
  have lt0 : ∀ x ∈ p0, x.block < W.heap.size := by obtain ⟨m, hm⟩ := k0; exact DataW.trod_lt m _ _ _ hm
  obtain ⟨a0, len0, cap0, rfl⟩ := okWide_slice (show Try.prog.underlying 22 = some (.slice 33) from by kernel_rfl) (hval 0 22 v0 rfl rfl)
  obtain ⟨fuel0, hf0⟩ := h0
  obtain ⟨x0, ⟨u0, he0, s0⟩, hx0, hm0⟩ := (read_slice (show Try.prog.underlying 22 = some (.slice 33) from by kernel_rfl) (by kernel_rfl) (by decide) rd33) H enc W fuel0 _ _ hf0
  obtain rfl := (List.cons.inj he0).1
  have k1 := h1
  have lt1 : ∀ x ∈ p1, x.block < W.heap.size := by obtain ⟨m, hm⟩ := k1; exact DataW.trod_lt m _ _ _ hm
  obtain ⟨a1, len1, cap1, rfl⟩ := okWide_slice (show Try.prog.underlying 22 = some (.slice 33) from by kernel_rfl) (hval 1 22 v1 rfl rfl)
  obtain ⟨fuel1, hf1⟩ := h1
  obtain ⟨x1, ⟨u1, he1, s1⟩, hx1, hm1⟩ := (read_slice (show Try.prog.underlying 22 = some (.slice 33) from by kernel_rfl) (by kernel_rfl) (by decide) rd33) H enc W fuel1 _ _ hf1
  obtain rfl := (List.cons.inj he1).1
  have k2 := h2
  have lt2 : ∀ x ∈ p2, x.block < W.heap.size := by obtain ⟨m, hm⟩ := k2; exact DataW.trod_lt m _ _ _ hm
  obtain ⟨a2, len2, cap2, rfl⟩ := okWide_slice (show Try.prog.underlying 22 = some (.slice 33) from by kernel_rfl) (hval 2 22 v2 rfl rfl)
  obtain ⟨fuel2, hf2⟩ := h2
  obtain ⟨x2, ⟨u2, he2, s2⟩, hx2, hm2⟩ := (read_slice (show Try.prog.underlying 22 = some (.slice 33) from by kernel_rfl) (by kernel_rfl) (by decide) rd33) H enc W fuel2 _ _ hf2
  obtain rfl := (List.cons.inj he2).1
  clear hA0 hval0
  refine (changeforgelaw2_SequenceSemilattice_ok (g := Gh.of W) (fr := []) x0 _ s0 x1 _ s1 x2 _ s2 (St.of W) (semilattice x0 x1 x2)).mono fun e W' ⟨v, he, g', hle, S', hv⟩ => ?_
  subst he; subst hv
  have bel := below_of hle S'
  exact ⟨_, rfl, _, _, _, [], _, [], hW', trodAll_mk1 (shut_bool (show Try.prog.underlying 4 = some (.bool) from by kernel_rfl) _), (trodAll_cons_mk (Below.trod laid8 (by kernel_rfl) (of_decide_eq_true (by kernel_rfl)) k0 bel lt0) (trodAll_cons_mk (Below.trod laid8 (by kernel_rfl) (of_decide_eq_true (by kernel_rfl)) k1 bel lt1) (trodAll_cons_mk (Below.trod laid8 (by kernel_rfl) (of_decide_eq_true (by kernel_rfl)) k2 bel lt2) trodAll_mk0))), rfl, bel.frame _, fun h => by cases h⟩

set_option maxHeartbeats 4000000 in
theorem joined8 : joinedFacts Try.pinned.checked.prog 8 Try.f8 Rows.sequenceSemilatticeSpec Rows.sequenceSemilatticeRow = true := by
  unfold joinedFacts
  simp only [Bool.and_eq_true]
  and_intros <;> as_aux_lemma => kernel_rfl

theorem SequenceSemilattice_proved : Rows.SequenceSemilatticeSaid :=
  OpenClaim.holds_of_wide 8 Try.f8 rfl rfl rfl rfl rfl rfl rfl ⟨rfl, rfl, rfl, rfl, rfl⟩ rfl rfl rfl rfl rfl (by kernel_rfl) Try.func8 joined8
    (of_decide_eq_true (by kernel_rfl)) (by unfold Func.isWrapper; first | (rw [if_pos (by decide +kernel)]; kernel_rfl) | (rw [if_neg (by decide +kernel)]; exact ⟨rfl, rfl⟩))
    (fun os started H enc _ => lifted8 os started H enc)

end Go.Proofs.Ytibigfejalemjaa
