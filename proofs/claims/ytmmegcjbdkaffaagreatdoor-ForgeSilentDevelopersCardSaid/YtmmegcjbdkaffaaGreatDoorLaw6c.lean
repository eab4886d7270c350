/- The card: what the row promises of its tests and files. -/
import Derived.Test.YtmmegcjbdkaffaaGreatDoorRows
import Derived.Test.YtmmegcjbdkaffaaGreatDoorDcI
import Derived.Test.YtmmegcjbdkaffaaGreatDoorTie
import Derived.Test.YtmmegcjbdkaffaaGreatDoorCards
import Derived.Lay
import Derived.LaidMore
import Derived.SevenTiedAt
import Derived.Stop.Joined
import Derived.Test.YtmmegcjbdkaffaaGreatDoorDcRd
import Derived.Test.YtmmegcjbdkaffaaGreatDoorDcW20
import Derived.Test.YtmmegcjbdkaffaaGreatDoorDcFX
import Derived.Test.YtmmegcjbdkaffaaGreatDoorDcIS
import Derived.WalkKit
import Derived.ProofKit
import Derived.OpenShut
import Derived.ShutString
import Derived.ChangeOld
import Derived.Below
import Derived.Test.YtmmegcjbdkaffaaGreatDoorLaw6
namespace Go.Proofs.YtmmegcjbdkaffaaGreatDoor
open Go.ChangeShapes Go.WideShapes Go.ChangeAt Go.RowKit Go.Dc
set_option linter.unusedVariables false
set_option maxHeartbeats 4000000 in
theorem ForgeSilentDevelopersCard_proved : Rows.ForgeSilentDevelopersCardSaid :=
  Claim7.holds_tied_plain_at .later [] [.data, .pinned] true (true, "4dffdedd27c2a0f65eaf99732fc99d1775fef1da359f3d0f134205558afa270d") false ForgeSilentDevelopers_proved (fun _ h => by cases h) (by as_aux_lemma => kernel_rfl) (fun _ h => by cases h) forgeSilentDevelopers_row_tie rfl ⟨rfl, rfl⟩ (by as_aux_lemma => kernel_rfl) rfl
    (fun f fn hf hfn => by
      obtain rfl : f = 6 := Option.some.inj ((show Tryz.prog.funcNamed "changeforge/changeforgelaw2.ForgeSilentDevelopers" = some 6 by as_aux_lemma => kernel_rfl).symm.trans hf) |>.symm
      obtain rfl : fn = Tryz.f6 := (Option.some.inj (Tryz.func6.symm.trans hfn)).symm
      exact ⟨by as_aux_lemma => kernel_rfl, fun j t ht => by
        rw [Tryz.params6] at ht; have hm : t ∈ [22, 23, 3] := by simpa using Array.mem_of_getElem? ht
        have hall : ([22, 23, 3].all fun u => !Tryz.prog.wantsStandIn u) = true := by as_aux_lemma => kernel_rfl
        have h2 := List.all_eq_true.1 hall t hm; exact (show Tryz.prog.wantsStandIn t = false by simpa using h2)⟩)
    (by as_aux_lemma => kernel_rfl)

end Go.Proofs.YtmmegcjbdkaffaaGreatDoor
