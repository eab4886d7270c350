/-
  DERIVED. GIVEN WITH THE SEED: THE CARDS: each row of YtecoobgddnhjfaaGreatDoorRows.lean that lists a variable, with what it lists TIED to the program's text (the seventh form; the later family's looks); each row that meets fmt, with fmt's text TOLD by the authors' own Lean function (tested against real Go, not proved from fmt's source: count such statements apart). THE CARD IS WHAT COUNTS. Prove the row's statement (the work); the ties are given (YtecoobgddnhjfaaGreatDoorTie.lean); close each card by the builder's one call (the guide's Derived/Test/ToyasCard.lean, 'card_holds'). Laid BY PROGRAM, IN A SANDBOX (cutbox-door.mjs). By AI agents, Wed Nov 11 2026. No macro, syntax, notation, axiom, sorry.
-/
import Derived.Test.YtecoobgddnhjfaaGreatDoorRows
import GoSem.ClaimSeven
namespace Go.Proofs.YtecoobgddnhjfaaGreatDoor
namespace Rows

/-- THE TIED CARD OF 'changeforgelaw2.TreecommuteMergeMatchesSpec'. -/
def treecommuteMergeMatchesSpecCard : Claim7 := { stood := { row := treecommuteMergeMatchesSpecRow, standIns := [], harness := (true, "9f220d9fd7612607f31f88db835b29dea1faeaeae1d670865fe43cc1f618dca1"), looks := false }, kinds := [], alts := [], laidByText := true, laidKinds := [.data, .pinned], laidTests := true, laidLooks := .later }
def TreecommuteMergeMatchesSpecCardSaid : Prop := Claim7.holds Tryz.pinned (.plain (OpenSpec.ofChange treecommuteMergeMatchesSpecSpec)) treecommuteMergeMatchesSpecCard

/-- THE SECOND FORM's CARD OF 'changeforgelaw2.TreecommuteMergeMatchesSpec'. -/
def treecommuteMergeMatchesSpecUptoCard : Claim7 := { stood := { row := treecommuteMergeMatchesSpecUptoRow, standIns := [], harness := (true, "9f220d9fd7612607f31f88db835b29dea1faeaeae1d670865fe43cc1f618dca1"), looks := false }, kinds := [], alts := [], laidByText := true, laidKinds := [.data, .pinned], laidTests := true, laidLooks := .later }
def TreecommuteMergeMatchesSpecUptoCardSaid : Prop := Claim7.holds Tryz.pinned (.plain (OpenSpec.upto treecommuteMergeMatchesSpecSpec)) treecommuteMergeMatchesSpecUptoCard
end Rows
end Go.Proofs.YtecoobgddnhjfaaGreatDoor
