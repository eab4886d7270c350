/- The card: what the row promises of its tests and files. -/
import Derived.Test.YtecoobgddnhjfaaGreatDoorRows
import Derived.Test.YtecoobgddnhjfaaGreatDoorDcI
import Derived.Test.YtecoobgddnhjfaaGreatDoorTie
import Derived.Test.YtecoobgddnhjfaaGreatDoorCards
import Derived.Lay
import Derived.LaidMore
import Derived.SevenTiedAt
import Derived.Stop.Joined
import Derived.Test.YtecoobgddnhjfaaGreatDoorDcRd
import Derived.Test.YtecoobgddnhjfaaGreatDoorDcW18
import Derived.Test.YtecoobgddnhjfaaGreatDoorDcJO
import Derived.WalkKit
import Derived.ProofKit
import Derived.OpenShut
import Derived.ShutString
import Derived.ChangeOld
import Derived.Below
import Derived.Test.YtecoobgddnhjfaaGreatDoorLaw3
namespace Go.Proofs.YtecoobgddnhjfaaGreatDoor
open Go.ChangeShapes Go.WideShapes Go.ChangeAt Go.RowKit Go.Dc
set_option linter.unusedVariables false
set_option maxHeartbeats 4000000 in
theorem TreecommuteMergeMatchesSpecCard_proved : Rows.TreecommuteMergeMatchesSpecCardSaid :=
  Claim7.holds_tied_plain_at .later [] [.data, .pinned] true (true, "9f220d9fd7612607f31f88db835b29dea1faeaeae1d670865fe43cc1f618dca1") false TreecommuteMergeMatchesSpec_proved (fun _ h => by cases h) (by as_aux_lemma => kernel_rfl) (fun _ h => by cases h) treecommuteMergeMatchesSpec_row_tie rfl ⟨rfl, rfl⟩ (by as_aux_lemma => kernel_rfl) rfl
    (fun f fn hf hfn => by
      obtain rfl : f = 3 := Option.some.inj ((show Tryz.prog.funcNamed "changeforge/changeforgelaw2.TreecommuteMergeMatchesSpec" = some 3 by as_aux_lemma => kernel_rfl).symm.trans hf) |>.symm
      obtain rfl : fn = Tryz.f3 := (Option.some.inj (Tryz.func3.symm.trans hfn)).symm
      exact ⟨by as_aux_lemma => kernel_rfl, fun j t ht => by
        rw [Tryz.params3] at ht; have hm : t ∈ [24, 27, 27] := by simpa using Array.mem_of_getElem? ht
        have hall : ([24, 27, 27].all fun u => !Tryz.prog.wantsStandIn u) = true := by as_aux_lemma => kernel_rfl
        have h2 := List.all_eq_true.1 hall t hm; exact (show Tryz.prog.wantsStandIn t = false by simpa using h2)⟩)
    (by as_aux_lemma => kernel_rfl)

end Go.Proofs.YtecoobgddnhjfaaGreatDoor
