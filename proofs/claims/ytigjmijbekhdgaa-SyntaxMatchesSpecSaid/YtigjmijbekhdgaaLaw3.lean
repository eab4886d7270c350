/- SyntaxMatchesSpec: on every start that the row takes, the function returns true and leaves its arguments as they were. The statement has no condition beside the row. -/
import Derived.Test.YtigjmijbekhdgaaRows
import Derived.Test.YtigjmijbekhdgaaDcI
import Derived.Test.YtigjmijbekhdgaaDcRd
import Derived.Test.YtigjmijbekhdgaaDcW4
import Derived.Test.YtigjmijbekhdgaaDcSM
import Derived.WalkKit
import Derived.ProofKit
import Derived.OpenShut
import Derived.ShutString
import Derived.ChangeOld
import Derived.Below
namespace Go.Proofs.Ytigjmijbekhdgaa
open Go.ChangeShapes Go.WideShapes Go.ChangeAt Go.RowKit Go.Dc
set_option linter.unusedVariables false

theorem own3 : ownKnob Try.prog.godebug = none := by kernel_rfl
theorem laid3 : laidOutB Try.prog = true := by kernel_rfl

set_option maxRecDepth 100000 in
theorem lifted3 (os : Os) (started : os.Started) (H : Type) (enc : TypeId × Value → H) :
    ReturnsInHanded {} Try.checked os 3 .any (Rows.syntaxMatchesSpecSpec.pre6 enc Try.prog Try.f3 Rows.syntaxMatchesSpecRow.domain false) (Rows.syntaxMatchesSpecSpec.post enc Try.prog Try.f3 false true false false) := by
  refine returnsInHanded_of_change (C := Try.checked) own3 started (by kernel_rfl) Try.func3
    (ChangeSpec.witness6 (enc := enc) (C := Try.checked) false ⟨#[], #[.agg #[.slice none 0 0], .string ByteArray.empty], []⟩ 8 (by kernel_rfl) (by kernel_rfl) (by kernel_rfl) (by kernel_rfl)) ?_
  intro W base args ds gs before hval0 hW hcnd _
  have hval : ∀ (j : Nat) t v, Try.f3.params[j]? = some t → args[j]? = some v → Value.okWide Try.prog W .any base t v := hval0
  have hW' := hW
  obtain ⟨p, q, hA0, hV, rfl, hfz, hnd⟩ := hW
  have hA : DataW.TrodAll enc Try.prog W 0 (fun _ => true) true Try.f3.params.toList args.toList ds p := hA0
  rw [Try.params3] at hA hval
  obtain ⟨v0, vs0, d0, ds0, p0, q0, hargs, rfl, rfl, h0, r0⟩ := trodAll_cons hA
  obtain ⟨v1, vs1, d1, ds1, p1, q1, rfl, rfl, rfl, h1, r1⟩ := trodAll_cons r0
  obtain ⟨rfl, rfl, rfl⟩ := trodAll_nil r1
  obtain rfl : args = #[v0, v1] := by cases args; simp_all
  obtain ⟨rfl, rfl⟩ := trodVars_none hV
  have k0 := h0
  have lt0 : ∀ x ∈ p0, x.block < W.heap.size := by obtain ⟨m, hm⟩ := k0; exact DataW.trod_lt m _ _ _ hm
  obtain ⟨a0, rfl, hs0⟩ := okWide_struct (show Try.prog.underlying 24 = some (.struct (Try.prog.fieldsOf 24)) from by kernel_rfl) (hval 0 24 v0 rfl rfl)
  obtain ⟨fuel0, hf0⟩ := h0
  obtain ⟨x0, rp0, hx0, hm0⟩ := rd24 H enc W fuel0 _ _ hf0
  obtain ⟨v0_0, he0, s0_0⟩ := rep_SyntaxTree rp0
  obtain rfl : a0 = #[v0_0] := by cases a0; exact congrArg Array.mk he0
  have k1 := h1
  have lt1 : ∀ x ∈ p1, x.block < W.heap.size := by obtain ⟨m, hm⟩ := k1; exact DataW.trod_lt m _ _ _ hm
  obtain ⟨a1, rfl⟩ := okWide_string (show Try.prog.underlying 9 = some (.string) from by kernel_rfl) (hval 1 9 v1 rfl rfl)
  obtain ⟨fuel1, hf1⟩ := h1
  obtain ⟨x1, he1, hx1, hm1⟩ := (read_str (show Try.prog.underlying 9 = some (.string) from by kernel_rfl)) H enc W fuel1 _ _ hf1
  obtain rfl : a1 = x1 := by have := (List.cons.inj (rep_str he1)).1; injection this
  clear hA0 hval0
  refine (changeforgelaw2_SyntaxMatchesSpec_ok (g := Gh.of W) (fr := []) x0 _ s0_0 a1 (St.of W) (syntax_matches x0 a1 (fun n hn => ⟨(hx0.2 n hn).1, (hx0.2 n hn).2.1⟩))).mono fun e W' ⟨v, he, g', hle, S', hv⟩ => ?_
  subst he; subst hv
  have bel := below_of hle S'
  exact ⟨_, rfl, _, _, _, [], _, [], hW', trodAll_mk1 (shut_bool (show Try.prog.underlying 4 = some (.bool) from by kernel_rfl) _), (trodAll_cons_mk (Below.trod laid3 (by kernel_rfl) (of_decide_eq_true (by kernel_rfl)) k0 bel lt0) (trodAll_cons_mk (Below.trod laid3 (by kernel_rfl) (of_decide_eq_true (by kernel_rfl)) k1 bel lt1) trodAll_mk0)), rfl, bel.frame _, fun h => by cases h⟩

theorem SyntaxMatchesSpec_proved : Rows.SyntaxMatchesSpecSaid :=
  OpenClaim.holds_of_wide 3 Try.f3 rfl rfl rfl rfl rfl rfl rfl ⟨rfl, rfl, rfl, rfl, rfl⟩ rfl rfl rfl rfl rfl (by kernel_rfl) Try.func3 (by kernel_rfl)
    (of_decide_eq_true (by kernel_rfl)) (by unfold Func.isWrapper; first | (rw [if_pos (by decide +kernel)]; kernel_rfl) | (rw [if_neg (by decide +kernel)]; exact ⟨rfl, rfl⟩))
    (fun os started H enc _ => lifted3 os started H enc)

end Go.Proofs.Ytigjmijbekhdgaa
