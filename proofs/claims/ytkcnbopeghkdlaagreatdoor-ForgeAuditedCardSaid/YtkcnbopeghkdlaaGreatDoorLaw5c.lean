/- The card: what the row promises of its tests and files. -/
import Derived.Test.YtkcnbopeghkdlaaGreatDoorRows
import Derived.Test.YtkcnbopeghkdlaaGreatDoorDcI
import Derived.Test.YtkcnbopeghkdlaaGreatDoorTie
import Derived.Test.YtkcnbopeghkdlaaGreatDoorCards
import Derived.Lay
import Derived.LaidMore
import Derived.SevenTiedAt
import Derived.Stop.Joined
import Derived.Test.YtkcnbopeghkdlaaGreatDoorDcRd
import Derived.Test.YtkcnbopeghkdlaaGreatDoorDcW20
import Derived.Test.YtkcnbopeghkdlaaGreatDoorDcFZ
import Derived.WalkKit
import Derived.ProofKit
import Derived.OpenShut
import Derived.ShutString
import Derived.ChangeOld
import Derived.Below
import Derived.Test.YtkcnbopeghkdlaaGreatDoorLaw5
namespace Go.Proofs.YtkcnbopeghkdlaaGreatDoor
open Go.ChangeShapes Go.WideShapes Go.ChangeAt Go.RowKit Go.Dc
set_option linter.unusedVariables false
set_option maxHeartbeats 4000000 in
theorem ForgeAuditedCard_proved : Rows.ForgeAuditedCardSaid :=
  Claim7.holds_tied_plain_at .later [] [.data, .pinned] true (true, "927d46c26750175162ba5799144d8259f1bd054279d7fdceff9b30f42df163c1") false ForgeAudited_proved (fun _ h => by cases h) (by as_aux_lemma => kernel_rfl) (fun _ h => by cases h) forgeAudited_row_tie rfl ⟨rfl, rfl⟩ (by as_aux_lemma => kernel_rfl) rfl
    (fun f fn hf hfn => by
      obtain rfl : f = 5 := Option.some.inj ((show Tryz.prog.funcNamed "changeforge/changeforgelaw2.ForgeAudited" = some 5 by as_aux_lemma => kernel_rfl).symm.trans hf) |>.symm
      obtain rfl : fn = Tryz.f5 := (Option.some.inj (Tryz.func5.symm.trans hfn)).symm
      exact ⟨by as_aux_lemma => kernel_rfl, fun j t ht => by
        rw [Tryz.params5] at ht; have hm : t ∈ [22, 23, 3] := by simpa using Array.mem_of_getElem? ht
        have hall : ([22, 23, 3].all fun u => !Tryz.prog.wantsStandIn u) = true := by as_aux_lemma => kernel_rfl
        have h2 := List.all_eq_true.1 hall t hm; exact (show Tryz.prog.wantsStandIn t = false by simpa using h2)⟩)
    (by as_aux_lemma => kernel_rfl)

end Go.Proofs.YtkcnbopeghkdlaaGreatDoor
