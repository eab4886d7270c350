/- The card: what the row promises of its tests and files. -/
import Derived.Test.YtfpbdmldeikfbaaGreatDoorRows
import Derived.Test.YtfpbdmldeikfbaaGreatDoorDcK
import Derived.Test.YtfpbdmldeikfbaaGreatDoorTie
import Derived.Test.YtfpbdmldeikfbaaGreatDoorCards
import Derived.Lay
import Derived.LaidMore
import Derived.SevenTiedAt
import Derived.Stop.Joined
import Derived.Test.YtfpbdmldeikfbaaGreatDoorDcRd
import Derived.Test.YtfpbdmldeikfbaaGreatDoorDcW28
import Derived.Test.YtfpbdmldeikfbaaGreatDoorDcHE
import Derived.WalkKit
import Derived.ProofKit
import Derived.OpenShut
import Derived.ShutString
import Derived.ChangeOld
import Derived.Below
import Derived.Test.YtfpbdmldeikfbaaGreatDoorLaw3
namespace Go.Proofs.YtfpbdmldeikfbaaGreatDoor
open Go.ChangeShapes Go.WideShapes Go.ChangeAt Go.RowKit Go.Dc
set_option linter.unusedVariables false
set_option maxHeartbeats 4000000 in
theorem ForgeMatchesSpecCard_proved : Rows.ForgeMatchesSpecCardSaid :=
  Claim7.holds_tied_plain_at .later [] [.data, .pinned] true (true, "ac3471b455bb2e9c13453f0a88431bf22c26955c0e6833f3a70f7b43d010996b") false ForgeMatchesSpec_proved (fun _ h => by cases h) (by as_aux_lemma => kernel_rfl) (fun _ h => by cases h) forgeMatchesSpec_row_tie rfl ⟨rfl, rfl⟩ (by as_aux_lemma => kernel_rfl) rfl
    (fun f fn hf hfn => by
      obtain rfl : f = 3 := Option.some.inj ((show Tryz.prog.funcNamed "changeforge/changeforgelaw2.ForgeMatchesSpec" = some 3 by as_aux_lemma => kernel_rfl).symm.trans hf) |>.symm
      obtain rfl : fn = Tryz.f3 := (Option.some.inj (Tryz.func3.symm.trans hfn)).symm
      exact ⟨by as_aux_lemma => kernel_rfl, fun j t ht => by
        rw [Tryz.params3] at ht; have hm : t ∈ [22, 23, 3] := by simpa using Array.mem_of_getElem? ht
        have hall : ([22, 23, 3].all fun u => !Tryz.prog.wantsStandIn u) = true := by as_aux_lemma => kernel_rfl
        have h2 := List.all_eq_true.1 hall t hm; exact (show Tryz.prog.wantsStandIn t = false by simpa using h2)⟩)
    (by as_aux_lemma => kernel_rfl)

end Go.Proofs.YtfpbdmldeikfbaaGreatDoor
