/-
  DERIVED. GIVEN WITH THE SEED: THE CARDS: each row of YtfpbdmldeikfbaaGreatDoorRows.lean that lists a variable, with what it lists TIED to the program's text (the seventh form; the later family's looks); each row that meets fmt, with fmt's text TOLD by the authors' own Lean function (tested against real Go, not proved from fmt's source: count such statements apart). THE CARD IS WHAT COUNTS. Prove the row's statement (the work); the ties are given (YtfpbdmldeikfbaaGreatDoorTie.lean); close each card by the builder's one call (the guide's Derived/Test/ToyasCard.lean, 'card_holds'). Laid BY PROGRAM, IN A SANDBOX (cutbox-door.mjs). By AI agents, Wed Nov 11 2026. No macro, syntax, notation, axiom, sorry.
-/
import Derived.Test.YtfpbdmldeikfbaaGreatDoorRows
import GoSem.ClaimSeven
namespace Go.Proofs.YtfpbdmldeikfbaaGreatDoor
namespace Rows

/-- THE TIED CARD OF 'changeforgelaw2.ForgeMatchesSpec'. -/
def forgeMatchesSpecCard : Claim7 := { stood := { row := forgeMatchesSpecRow, standIns := [], harness := (true, "ac3471b455bb2e9c13453f0a88431bf22c26955c0e6833f3a70f7b43d010996b"), looks := false }, kinds := [], alts := [], laidByText := true, laidKinds := [.data, .pinned], laidTests := true, laidLooks := .later }
def ForgeMatchesSpecCardSaid : Prop := Claim7.holds Tryz.pinned (.plain (OpenSpec.ofChange forgeMatchesSpecSpec)) forgeMatchesSpecCard

/-- THE SECOND FORM's CARD OF 'changeforgelaw2.ForgeMatchesSpec'. -/
def forgeMatchesSpecUptoCard : Claim7 := { stood := { row := forgeMatchesSpecUptoRow, standIns := [], harness := (true, "ac3471b455bb2e9c13453f0a88431bf22c26955c0e6833f3a70f7b43d010996b"), looks := false }, kinds := [], alts := [], laidByText := true, laidKinds := [.data, .pinned], laidTests := true, laidLooks := .later }
def ForgeMatchesSpecUptoCardSaid : Prop := Claim7.holds Tryz.pinned (.plain (OpenSpec.upto forgeMatchesSpecSpec)) forgeMatchesSpecUptoCard
end Rows
end Go.Proofs.YtfpbdmldeikfbaaGreatDoor
