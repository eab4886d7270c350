/- The card: what the row promises of its tests and files. -/
import Derived.Test.YtmaepcbnjkanhaaGreatDoorRows
import Derived.Test.YtmaepcbnjkanhaaGreatDoorDcI
import Derived.Test.YtmaepcbnjkanhaaGreatDoorTie
import Derived.Test.YtmaepcbnjkanhaaGreatDoorCards
import Derived.Lay
import Derived.LaidMore
import Derived.SevenTiedAt
import Derived.Stop.Joined
import Derived.Test.YtmaepcbnjkanhaaGreatDoorDcW42
import Derived.Test.YtmaepcbnjkanhaaGreatDoorDcFL
import Derived.WalkKit
import Derived.ProofKit
import Derived.OpenShut
import Derived.ShutString
import Derived.ChangeOld
import Derived.Below
import Derived.Test.YtmaepcbnjkanhaaGreatDoorLaw15
namespace Go.Proofs.YtmaepcbnjkanhaaGreatDoor
open Go.ChangeShapes Go.WideShapes Go.ChangeAt Go.RowKit Go.Dc
set_option linter.unusedVariables false
set_option maxHeartbeats 4000000 in
theorem TopForgeMergesIndependentWorkCard_proved : Rows.TopForgeMergesIndependentWorkCardSaid :=
  Claim7.holds_tied_plain_at .later [] [.data, .pinned] true (true, "01057c5356d7ff44a91385de3cc093ef7d860d3caf26eac9e5ed96ab2f4ac9d7") false TopForgeMergesIndependentWork_proved (fun _ h => by cases h) (by as_aux_lemma => kernel_rfl) (fun _ h => by cases h) topForgeMergesIndependentWork_row_tie rfl ⟨rfl, rfl⟩ (by as_aux_lemma => kernel_rfl) rfl
    (fun f fn hf hfn => by
      obtain rfl : f = 15 := Option.some.inj ((show Tryz.prog.funcNamed "changeforge/changeforgetop.TopForgeMergesIndependentWork" = some 15 by as_aux_lemma => kernel_rfl).symm.trans hf) |>.symm
      obtain rfl : fn = Tryz.f15 := (Option.some.inj (Tryz.func15.symm.trans hfn)).symm
      exact ⟨by as_aux_lemma => kernel_rfl, fun j t ht => by
        rw [Tryz.params15] at ht; have hm : t ∈ [9, 9, 76, 76, 3] := by simpa using Array.mem_of_getElem? ht
        have hall : ([9, 9, 76, 76, 3].all fun u => !Tryz.prog.wantsStandIn u) = true := by as_aux_lemma => kernel_rfl
        have h2 := List.all_eq_true.1 hall t hm; exact (show Tryz.prog.wantsStandIn t = false by simpa using h2)⟩)
    (by as_aux_lemma => kernel_rfl)

end Go.Proofs.YtmaepcbnjkanhaaGreatDoor
