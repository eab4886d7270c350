/-
  DERIVED. GIVEN WITH THE SEED: THE CARDS: each row of YthpkobkngplbbaaDoorRows.lean that lists a variable, with what it lists TIED to the program's text (the seventh form; the later family's looks); each row that meets fmt, with fmt's text TOLD by the authors' own Lean function (tested against real Go, not proved from fmt's source: count such statements apart). THE CARD IS WHAT COUNTS. Prove the row's statement (the work); the ties are given (YthpkobkngplbbaaDoorTie.lean); close each card by the builder's one call (the guide's Derived/Test/ToyasCard.lean, 'card_holds'). Laid BY PROGRAM, IN A SANDBOX (cutbox-door.mjs). By AI agents, Wed Nov 11 2026. No macro, syntax, notation, axiom, sorry.
-/
import Derived.Test.YthpkobkngplbbaaDoorRows
import GoSem.ClaimSeven
namespace Go.Proofs.YthpkobkngplbbaaDoor
namespace Rows

/-- THE TIED CARD OF 'changeforgetop.TopMergedTextsAreBlamed'. -/
def topMergedTextsAreBlamedCard : Claim7 := { stood := { row := topMergedTextsAreBlamedRow, standIns := [], harness := (true, "1fbe8f5a54291e4eca6dcdfceaf22640031168529bdb048b743ccf6f274d1851"), looks := false }, kinds := [], alts := [], laidByText := true, laidKinds := [.data, .pinned], laidTests := true, laidLooks := .later }
def TopMergedTextsAreBlamedCardSaid : Prop := Claim7.holds Tryd.pinned (.plain (OpenSpec.ofChange topMergedTextsAreBlamedSpec)) topMergedTextsAreBlamedCard

/-- THE TIED CARD OF 'changeforgelaw2.RenameMatching'. -/
def renameMatchingCard : Claim7 := { stood := { row := renameMatchingRow, standIns := [], harness := (true, "1fbe8f5a54291e4eca6dcdfceaf22640031168529bdb048b743ccf6f274d1851"), looks := false }, kinds := [], alts := [], laidByText := true, laidKinds := [.data, .pinned], laidTests := true, laidLooks := .later }
def RenameMatchingCardSaid : Prop := Claim7.holds Tryd.pinned (.plain (OpenSpec.ofChange renameMatchingSpec)) renameMatchingCard

/-- THE TIED CARD OF 'changeforgelaw2.RenameMaximal'. -/
def renameMaximalCard : Claim7 := { stood := { row := renameMaximalRow, standIns := [], harness := (true, "1fbe8f5a54291e4eca6dcdfceaf22640031168529bdb048b743ccf6f274d1851"), looks := false }, kinds := [], alts := [], laidByText := true, laidKinds := [.data, .pinned], laidTests := true, laidLooks := .later }
def RenameMaximalCardSaid : Prop := Claim7.holds Tryd.pinned (.plain (OpenSpec.ofChange renameMaximalSpec)) renameMaximalCard

/-- THE SECOND FORM's CARD OF 'changeforgetop.TopMergedTextsAreBlamed'. -/
def topMergedTextsAreBlamedUptoCard : Claim7 := { stood := { row := topMergedTextsAreBlamedUptoRow, standIns := [], harness := (true, "1fbe8f5a54291e4eca6dcdfceaf22640031168529bdb048b743ccf6f274d1851"), looks := false }, kinds := [], alts := [], laidByText := true, laidKinds := [.data, .pinned], laidTests := true, laidLooks := .later }
def TopMergedTextsAreBlamedUptoCardSaid : Prop := Claim7.holds Tryd.pinned (.plain (OpenSpec.upto topMergedTextsAreBlamedSpec)) topMergedTextsAreBlamedUptoCard

/-- THE SECOND FORM's CARD OF 'changeforgelaw2.RenameMatching'. -/
def renameMatchingUptoCard : Claim7 := { stood := { row := renameMatchingUptoRow, standIns := [], harness := (true, "1fbe8f5a54291e4eca6dcdfceaf22640031168529bdb048b743ccf6f274d1851"), looks := false }, kinds := [], alts := [], laidByText := true, laidKinds := [.data, .pinned], laidTests := true, laidLooks := .later }
def RenameMatchingUptoCardSaid : Prop := Claim7.holds Tryd.pinned (.plain (OpenSpec.upto renameMatchingSpec)) renameMatchingUptoCard

/-- THE SECOND FORM's CARD OF 'changeforgelaw2.RenameMaximal'. -/
def renameMaximalUptoCard : Claim7 := { stood := { row := renameMaximalUptoRow, standIns := [], harness := (true, "1fbe8f5a54291e4eca6dcdfceaf22640031168529bdb048b743ccf6f274d1851"), looks := false }, kinds := [], alts := [], laidByText := true, laidKinds := [.data, .pinned], laidTests := true, laidLooks := .later }
def RenameMaximalUptoCardSaid : Prop := Claim7.holds Tryd.pinned (.plain (OpenSpec.upto renameMaximalSpec)) renameMaximalUptoCard
end Rows
end Go.Proofs.YthpkobkngplbbaaDoor
