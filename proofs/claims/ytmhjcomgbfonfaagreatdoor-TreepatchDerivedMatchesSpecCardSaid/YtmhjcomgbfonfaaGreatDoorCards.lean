/-
  DERIVED. GIVEN WITH THE SEED: THE CARDS: each row of YtmhjcomgbfonfaaGreatDoorRows.lean that lists a variable, with what it lists TIED to the program's text (the seventh form; the later family's looks); each row that meets fmt, with fmt's text TOLD by the authors' own Lean function (tested against real Go, not proved from fmt's source: count such statements apart). THE CARD IS WHAT COUNTS. Prove the row's statement (the work); the ties are given (YtmhjcomgbfonfaaGreatDoorTie.lean); close each card by the builder's one call (the guide's Derived/Test/ToyasCard.lean, 'card_holds'). Laid BY PROGRAM, IN A SANDBOX (cutbox-door.mjs). By AI agents, Wed Nov 11 2026. No macro, syntax, notation, axiom, sorry.
-/
import Derived.Test.YtmhjcomgbfonfaaGreatDoorRows
import GoSem.ClaimSeven
namespace Go.Proofs.YtmhjcomgbfonfaaGreatDoor
namespace Rows

/-- THE TIED CARD OF 'changeforgelaw2.TreecommuteMergeMatchesSpec'. -/
def treecommuteMergeMatchesSpecCard : Claim7 := { stood := { row := treecommuteMergeMatchesSpecRow, standIns := [], harness := (true, "e4eb94824ea46fed70c37aa0159fdc1a90141f17cf58d6900e3f301eb52d3376"), looks := false }, kinds := [], alts := [], laidByText := true, laidKinds := [.data, .pinned], laidTests := true, laidLooks := .later }
def TreecommuteMergeMatchesSpecCardSaid : Prop := Claim7.holds Tryz.pinned (.plain (OpenSpec.ofChange treecommuteMergeMatchesSpecSpec)) treecommuteMergeMatchesSpecCard

/-- THE TIED CARD OF 'changeforgelaw2.TreecommuteMergeSymmetric'. -/
def treecommuteMergeSymmetricCard : Claim7 := { stood := { row := treecommuteMergeSymmetricRow, standIns := [], harness := (true, "e4eb94824ea46fed70c37aa0159fdc1a90141f17cf58d6900e3f301eb52d3376"), looks := false }, kinds := [], alts := [], laidByText := true, laidKinds := [.data, .pinned], laidTests := true, laidLooks := .later }
def TreecommuteMergeSymmetricCardSaid : Prop := Claim7.holds Tryz.pinned (.plain (OpenSpec.ofChange treecommuteMergeSymmetricSpec)) treecommuteMergeSymmetricCard

/-- THE TIED CARD OF 'changeforgelaw2.TreecommuteMergeOneSided'. -/
def treecommuteMergeOneSidedCard : Claim7 := { stood := { row := treecommuteMergeOneSidedRow, standIns := [], harness := (true, "e4eb94824ea46fed70c37aa0159fdc1a90141f17cf58d6900e3f301eb52d3376"), looks := false }, kinds := [], alts := [], laidByText := true, laidKinds := [.data, .pinned], laidTests := true, laidLooks := .later }
def TreecommuteMergeOneSidedCardSaid : Prop := Claim7.holds Tryz.pinned (.plain (OpenSpec.ofChange treecommuteMergeOneSidedSpec)) treecommuteMergeOneSidedCard

/-- THE TIED CARD OF 'changeforgelaw2.TreecommuteMergeValid'. -/
def treecommuteMergeValidCard : Claim7 := { stood := { row := treecommuteMergeValidRow, standIns := [], harness := (true, "e4eb94824ea46fed70c37aa0159fdc1a90141f17cf58d6900e3f301eb52d3376"), looks := false }, kinds := [], alts := [], laidByText := true, laidKinds := [.data, .pinned], laidTests := true, laidLooks := .later }
def TreecommuteMergeValidCardSaid : Prop := Claim7.holds Tryz.pinned (.plain (OpenSpec.ofChange treecommuteMergeValidSpec)) treecommuteMergeValidCard

/-- THE TIED CARD OF 'changeforgelaw2.TreecommuteMergeTexts'. -/
def treecommuteMergeTextsCard : Claim7 := { stood := { row := treecommuteMergeTextsRow, standIns := [], harness := (true, "e4eb94824ea46fed70c37aa0159fdc1a90141f17cf58d6900e3f301eb52d3376"), looks := false }, kinds := [], alts := [], laidByText := true, laidKinds := [.data, .pinned], laidTests := true, laidLooks := .later }
def TreecommuteMergeTextsCardSaid : Prop := Claim7.holds Tryz.pinned (.plain (OpenSpec.ofChange treecommuteMergeTextsSpec)) treecommuteMergeTextsCard

/-- THE TIED CARD OF 'changeforgelaw2.TreepatchDerivedMatchesSpec'. -/
def treepatchDerivedMatchesSpecCard : Claim7 := { stood := { row := treepatchDerivedMatchesSpecRow, standIns := [], harness := (true, "e4eb94824ea46fed70c37aa0159fdc1a90141f17cf58d6900e3f301eb52d3376"), looks := false }, kinds := [], alts := [], laidByText := true, laidKinds := [.data, .pinned], laidTests := true, laidLooks := .later }
def TreepatchDerivedMatchesSpecCardSaid : Prop := Claim7.holds Tryz.pinned (.plain (OpenSpec.ofChange treepatchDerivedMatchesSpecSpec)) treepatchDerivedMatchesSpecCard

/-- THE TIED CARD OF 'changeforgelaw2.TreepatchRenameDetected'. -/
def treepatchRenameDetectedCard : Claim7 := { stood := { row := treepatchRenameDetectedRow, standIns := [], harness := (true, "e4eb94824ea46fed70c37aa0159fdc1a90141f17cf58d6900e3f301eb52d3376"), looks := false }, kinds := [], alts := [], laidByText := true, laidKinds := [.data, .pinned], laidTests := true, laidLooks := .later }
def TreepatchRenameDetectedCardSaid : Prop := Claim7.holds Tryz.pinned (.plain (OpenSpec.ofChange treepatchRenameDetectedSpec)) treepatchRenameDetectedCard

/-- THE SECOND FORM's CARD OF 'changeforgelaw2.TreecommuteMergeMatchesSpec'. -/
def treecommuteMergeMatchesSpecUptoCard : Claim7 := { stood := { row := treecommuteMergeMatchesSpecUptoRow, standIns := [], harness := (true, "e4eb94824ea46fed70c37aa0159fdc1a90141f17cf58d6900e3f301eb52d3376"), looks := false }, kinds := [], alts := [], laidByText := true, laidKinds := [.data, .pinned], laidTests := true, laidLooks := .later }
def TreecommuteMergeMatchesSpecUptoCardSaid : Prop := Claim7.holds Tryz.pinned (.plain (OpenSpec.upto treecommuteMergeMatchesSpecSpec)) treecommuteMergeMatchesSpecUptoCard

/-- THE SECOND FORM's CARD OF 'changeforgelaw2.TreecommuteMergeSymmetric'. -/
def treecommuteMergeSymmetricUptoCard : Claim7 := { stood := { row := treecommuteMergeSymmetricUptoRow, standIns := [], harness := (true, "e4eb94824ea46fed70c37aa0159fdc1a90141f17cf58d6900e3f301eb52d3376"), looks := false }, kinds := [], alts := [], laidByText := true, laidKinds := [.data, .pinned], laidTests := true, laidLooks := .later }
def TreecommuteMergeSymmetricUptoCardSaid : Prop := Claim7.holds Tryz.pinned (.plain (OpenSpec.upto treecommuteMergeSymmetricSpec)) treecommuteMergeSymmetricUptoCard

/-- THE SECOND FORM's CARD OF 'changeforgelaw2.TreecommuteMergeOneSided'. -/
def treecommuteMergeOneSidedUptoCard : Claim7 := { stood := { row := treecommuteMergeOneSidedUptoRow, standIns := [], harness := (true, "e4eb94824ea46fed70c37aa0159fdc1a90141f17cf58d6900e3f301eb52d3376"), looks := false }, kinds := [], alts := [], laidByText := true, laidKinds := [.data, .pinned], laidTests := true, laidLooks := .later }
def TreecommuteMergeOneSidedUptoCardSaid : Prop := Claim7.holds Tryz.pinned (.plain (OpenSpec.upto treecommuteMergeOneSidedSpec)) treecommuteMergeOneSidedUptoCard

/-- THE SECOND FORM's CARD OF 'changeforgelaw2.TreecommuteMergeValid'. -/
def treecommuteMergeValidUptoCard : Claim7 := { stood := { row := treecommuteMergeValidUptoRow, standIns := [], harness := (true, "e4eb94824ea46fed70c37aa0159fdc1a90141f17cf58d6900e3f301eb52d3376"), looks := false }, kinds := [], alts := [], laidByText := true, laidKinds := [.data, .pinned], laidTests := true, laidLooks := .later }
def TreecommuteMergeValidUptoCardSaid : Prop := Claim7.holds Tryz.pinned (.plain (OpenSpec.upto treecommuteMergeValidSpec)) treecommuteMergeValidUptoCard

/-- THE SECOND FORM's CARD OF 'changeforgelaw2.TreecommuteMergeTexts'. -/
def treecommuteMergeTextsUptoCard : Claim7 := { stood := { row := treecommuteMergeTextsUptoRow, standIns := [], harness := (true, "e4eb94824ea46fed70c37aa0159fdc1a90141f17cf58d6900e3f301eb52d3376"), looks := false }, kinds := [], alts := [], laidByText := true, laidKinds := [.data, .pinned], laidTests := true, laidLooks := .later }
def TreecommuteMergeTextsUptoCardSaid : Prop := Claim7.holds Tryz.pinned (.plain (OpenSpec.upto treecommuteMergeTextsSpec)) treecommuteMergeTextsUptoCard

/-- THE SECOND FORM's CARD OF 'changeforgelaw2.TreepatchDerivedMatchesSpec'. -/
def treepatchDerivedMatchesSpecUptoCard : Claim7 := { stood := { row := treepatchDerivedMatchesSpecUptoRow, standIns := [], harness := (true, "e4eb94824ea46fed70c37aa0159fdc1a90141f17cf58d6900e3f301eb52d3376"), looks := false }, kinds := [], alts := [], laidByText := true, laidKinds := [.data, .pinned], laidTests := true, laidLooks := .later }
def TreepatchDerivedMatchesSpecUptoCardSaid : Prop := Claim7.holds Tryz.pinned (.plain (OpenSpec.upto treepatchDerivedMatchesSpecSpec)) treepatchDerivedMatchesSpecUptoCard

/-- THE SECOND FORM's CARD OF 'changeforgelaw2.TreepatchRenameDetected'. -/
def treepatchRenameDetectedUptoCard : Claim7 := { stood := { row := treepatchRenameDetectedUptoRow, standIns := [], harness := (true, "e4eb94824ea46fed70c37aa0159fdc1a90141f17cf58d6900e3f301eb52d3376"), looks := false }, kinds := [], alts := [], laidByText := true, laidKinds := [.data, .pinned], laidTests := true, laidLooks := .later }
def TreepatchRenameDetectedUptoCardSaid : Prop := Claim7.holds Tryz.pinned (.plain (OpenSpec.upto treepatchRenameDetectedSpec)) treepatchRenameDetectedUptoCard
end Rows
end Go.Proofs.YtmhjcomgbfonfaaGreatDoor
