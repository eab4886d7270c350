/-
  DERIVED. GIVEN WITH THE SEED: THE CARDS: each row of YtibigfejalemjaaDoorRows.lean that lists a variable, with what it lists TIED to the program's text (the seventh form; the later family's looks); each row that meets fmt, with fmt's text TOLD by the authors' own Lean function (tested against real Go, not proved from fmt's source: count such statements apart). THE CARD IS WHAT COUNTS. Prove the row's statement (the work); the ties are given (YtibigfejalemjaaDoorTie.lean); close each card by the builder's one call (the guide's Derived/Test/ToyasCard.lean, 'card_holds'). Laid BY PROGRAM, IN A SANDBOX (cutbox-door.mjs). By AI agents, Wed Nov 11 2026. No macro, syntax, notation, axiom, sorry.
-/
import Derived.Test.YtibigfejalemjaaDoorRows
import GoSem.ClaimSeven
namespace Go.Proofs.YtibigfejalemjaaDoor
namespace Rows

/-- THE TIED CARD OF 'changeforgetop.TopReplicatedTyping'. -/
def topReplicatedTypingCard : Claim7 := { stood := { row := topReplicatedTypingRow, standIns := [], harness := (true, "8020048f453b6da852fe72b9f3fae680164500b753f61bce5c48f57a1af50a75"), looks := false }, kinds := [], alts := [], laidByText := true, laidKinds := [.data, .pinned], laidTests := true, laidLooks := .later }
def TopReplicatedTypingCardSaid : Prop := Claim7.holds Tryd.pinned (.plain (OpenSpec.ofChange topReplicatedTypingSpec)) topReplicatedTypingCard

/-- THE SECOND FORM's CARD OF 'changeforgetop.TopReplicatedTyping'. -/
def topReplicatedTypingUptoCard : Claim7 := { stood := { row := topReplicatedTypingUptoRow, standIns := [], harness := (true, "8020048f453b6da852fe72b9f3fae680164500b753f61bce5c48f57a1af50a75"), looks := false }, kinds := [], alts := [], laidByText := true, laidKinds := [.data, .pinned], laidTests := true, laidLooks := .later }
def TopReplicatedTypingUptoCardSaid : Prop := Claim7.holds Tryd.pinned (.plain (OpenSpec.upto topReplicatedTypingSpec)) topReplicatedTypingUptoCard
end Rows
end Go.Proofs.YtibigfejalemjaaDoor
