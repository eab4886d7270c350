/-
  DERIVED. GIVEN WITH THE SEED: THE CARDS: each row of YthpkobkngplbbaaGreatDoorRows.lean that lists a variable, with what it lists TIED to the program's text (the seventh form; the later family's looks); each row that meets fmt, with fmt's text TOLD by the authors' own Lean function (tested against real Go, not proved from fmt's source: count such statements apart). THE CARD IS WHAT COUNTS. Prove the row's statement (the work); the ties are given (YthpkobkngplbbaaGreatDoorTie.lean); close each card by the builder's one call (the guide's Derived/Test/ToyasCard.lean, 'card_holds'). Laid BY PROGRAM, IN A SANDBOX (cutbox-door.mjs). By AI agents, Wed Nov 11 2026. No macro, syntax, notation, axiom, sorry.
-/
import Derived.Test.YthpkobkngplbbaaGreatDoorRows
import GoSem.ClaimSeven
namespace Go.Proofs.YthpkobkngplbbaaGreatDoor
namespace Rows

/-- THE TIED CARD OF 'changeforgetop.TopRenamesAreFollowed'. -/
def topRenamesAreFollowedCard : Claim7 := { stood := { row := topRenamesAreFollowedRow, standIns := [], harness := (true, "d2d9f1c8581d8c751f68d6fc1edff9f847bde0393b76f8ece7d85419d0993773"), looks := false }, kinds := [], alts := [], laidByText := true, laidKinds := [.data, .pinned], laidTests := true, laidLooks := .later }
def TopRenamesAreFollowedCardSaid : Prop := Claim7.holds Tryz.pinned (.plain (OpenSpec.ofChange topRenamesAreFollowedSpec)) topRenamesAreFollowedCard

/-- THE TIED CARD OF 'changeforgelaw2.RenameMatchesSpec'. -/
def renameMatchesSpecCard : Claim7 := { stood := { row := renameMatchesSpecRow, standIns := [], harness := (true, "d2d9f1c8581d8c751f68d6fc1edff9f847bde0393b76f8ece7d85419d0993773"), looks := false }, kinds := [], alts := [], laidByText := true, laidKinds := [.data, .pinned], laidTests := true, laidLooks := .later }
def RenameMatchesSpecCardSaid : Prop := Claim7.holds Tryz.pinned (.plain (OpenSpec.ofChange renameMatchesSpecSpec)) renameMatchesSpecCard

/-- THE SECOND FORM's CARD OF 'changeforgetop.TopRenamesAreFollowed'. -/
def topRenamesAreFollowedUptoCard : Claim7 := { stood := { row := topRenamesAreFollowedUptoRow, standIns := [], harness := (true, "d2d9f1c8581d8c751f68d6fc1edff9f847bde0393b76f8ece7d85419d0993773"), looks := false }, kinds := [], alts := [], laidByText := true, laidKinds := [.data, .pinned], laidTests := true, laidLooks := .later }
def TopRenamesAreFollowedUptoCardSaid : Prop := Claim7.holds Tryz.pinned (.plain (OpenSpec.upto topRenamesAreFollowedSpec)) topRenamesAreFollowedUptoCard

/-- THE SECOND FORM's CARD OF 'changeforgelaw2.RenameMatchesSpec'. -/
def renameMatchesSpecUptoCard : Claim7 := { stood := { row := renameMatchesSpecUptoRow, standIns := [], harness := (true, "d2d9f1c8581d8c751f68d6fc1edff9f847bde0393b76f8ece7d85419d0993773"), looks := false }, kinds := [], alts := [], laidByText := true, laidKinds := [.data, .pinned], laidTests := true, laidLooks := .later }
def RenameMatchesSpecUptoCardSaid : Prop := Claim7.holds Tryz.pinned (.plain (OpenSpec.upto renameMatchesSpecSpec)) renameMatchesSpecUptoCard
end Rows
end Go.Proofs.YthpkobkngplbbaaGreatDoor
