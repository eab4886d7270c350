/- The card: what the row promises of its tests and files. -/
import Derived.Test.YtkcnbopeghkdlaaGreatDoorRows
import Derived.Test.YtkcnbopeghkdlaaGreatDoorDcI
import Derived.Test.YtkcnbopeghkdlaaGreatDoorTie
import Derived.Test.YtkcnbopeghkdlaaGreatDoorCards
import Derived.Lay
import Derived.LaidMore
import Derived.SevenTiedAt
import Derived.Stop.Joined
import Derived.Test.YtkcnbopeghkdlaaGreatDoorDcRd
import Derived.Test.YtkcnbopeghkdlaaGreatDoorDcW19
import Derived.Test.YtkcnbopeghkdlaaGreatDoorDcFZ
import Derived.WalkKit
import Derived.ProofKit
import Derived.OpenShut
import Derived.ShutString
import Derived.ChangeOld
import Derived.Below
import Derived.Test.YtkcnbopeghkdlaaGreatDoorLaw4
namespace Go.Proofs.YtkcnbopeghkdlaaGreatDoor
open Go.ChangeShapes Go.WideShapes Go.ChangeAt Go.RowKit Go.Dc
set_option linter.unusedVariables false
set_option maxHeartbeats 4000000 in
theorem ForgeAppendOnlyCard_proved : Rows.ForgeAppendOnlyCardSaid :=
  Claim7.holds_tied_plain_at .later [] [.data, .pinned] true (true, "927d46c26750175162ba5799144d8259f1bd054279d7fdceff9b30f42df163c1") false ForgeAppendOnly_proved (fun _ h => by cases h) (by as_aux_lemma => kernel_rfl) (fun _ h => by cases h) forgeAppendOnly_row_tie rfl ⟨rfl, rfl⟩ (by as_aux_lemma => kernel_rfl) rfl
    (fun f fn hf hfn => by
      obtain rfl : f = 4 := Option.some.inj ((show Tryz.prog.funcNamed "changeforge/changeforgelaw2.ForgeAppendOnly" = some 4 by as_aux_lemma => kernel_rfl).symm.trans hf) |>.symm
      obtain rfl : fn = Tryz.f4 := (Option.some.inj (Tryz.func4.symm.trans hfn)).symm
      exact ⟨by as_aux_lemma => kernel_rfl, fun j t ht => by
        rw [Tryz.params4] at ht; have hm : t ∈ [22, 23, 3] := by simpa using Array.mem_of_getElem? ht
        have hall : ([22, 23, 3].all fun u => !Tryz.prog.wantsStandIn u) = true := by as_aux_lemma => kernel_rfl
        have h2 := List.all_eq_true.1 hall t hm; exact (show Tryz.prog.wantsStandIn t = false by simpa using h2)⟩)
    (by as_aux_lemma => kernel_rfl)

end Go.Proofs.YtkcnbopeghkdlaaGreatDoor
