/-
  DERIVED. GIVEN WITH THE SEED: THE CARDS: each row of YtkcnbopeghkdlaaGreatDoorRows.lean that lists a variable, with what it lists TIED to the program's text (the seventh form; the later family's looks); each row that meets fmt, with fmt's text TOLD by the authors' own Lean function (tested against real Go, not proved from fmt's source: count such statements apart). THE CARD IS WHAT COUNTS. Prove the row's statement (the work); the ties are given (YtkcnbopeghkdlaaGreatDoorTie.lean); close each card by the builder's one call (the guide's Derived/Test/ToyasCard.lean, 'card_holds'). Laid BY PROGRAM, IN A SANDBOX (cutbox-door.mjs). By AI agents, Wed Nov 11 2026. No macro, syntax, notation, axiom, sorry.
-/
import Derived.Test.YtkcnbopeghkdlaaGreatDoorRows
import GoSem.ClaimSeven
namespace Go.Proofs.YtkcnbopeghkdlaaGreatDoor
namespace Rows

/-- THE TIED CARD OF 'changeforgelaw2.ForgeRootMatchesSpec'. -/
def forgeRootMatchesSpecCard : Claim7 := { stood := { row := forgeRootMatchesSpecRow, standIns := [], harness := (true, "927d46c26750175162ba5799144d8259f1bd054279d7fdceff9b30f42df163c1"), looks := false }, kinds := [], alts := [], laidByText := true, laidKinds := [.data, .pinned], laidTests := true, laidLooks := .later }
def ForgeRootMatchesSpecCardSaid : Prop := Claim7.holds Tryz.pinned (.plain (OpenSpec.ofChange forgeRootMatchesSpecSpec)) forgeRootMatchesSpecCard

/-- THE TIED CARD OF 'changeforgelaw2.ForgeAppendOnly'. -/
def forgeAppendOnlyCard : Claim7 := { stood := { row := forgeAppendOnlyRow, standIns := [], harness := (true, "927d46c26750175162ba5799144d8259f1bd054279d7fdceff9b30f42df163c1"), looks := false }, kinds := [], alts := [], laidByText := true, laidKinds := [.data, .pinned], laidTests := true, laidLooks := .later }
def ForgeAppendOnlyCardSaid : Prop := Claim7.holds Tryz.pinned (.plain (OpenSpec.ofChange forgeAppendOnlySpec)) forgeAppendOnlyCard

/-- THE TIED CARD OF 'changeforgelaw2.ForgeAudited'. -/
def forgeAuditedCard : Claim7 := { stood := { row := forgeAuditedRow, standIns := [], harness := (true, "927d46c26750175162ba5799144d8259f1bd054279d7fdceff9b30f42df163c1"), looks := false }, kinds := [], alts := [], laidByText := true, laidKinds := [.data, .pinned], laidTests := true, laidLooks := .later }
def ForgeAuditedCardSaid : Prop := Claim7.holds Tryz.pinned (.plain (OpenSpec.ofChange forgeAuditedSpec)) forgeAuditedCard

/-- THE SECOND FORM's CARD OF 'changeforgelaw2.ForgeRootMatchesSpec'. -/
def forgeRootMatchesSpecUptoCard : Claim7 := { stood := { row := forgeRootMatchesSpecUptoRow, standIns := [], harness := (true, "927d46c26750175162ba5799144d8259f1bd054279d7fdceff9b30f42df163c1"), looks := false }, kinds := [], alts := [], laidByText := true, laidKinds := [.data, .pinned], laidTests := true, laidLooks := .later }
def ForgeRootMatchesSpecUptoCardSaid : Prop := Claim7.holds Tryz.pinned (.plain (OpenSpec.upto forgeRootMatchesSpecSpec)) forgeRootMatchesSpecUptoCard

/-- THE SECOND FORM's CARD OF 'changeforgelaw2.ForgeAppendOnly'. -/
def forgeAppendOnlyUptoCard : Claim7 := { stood := { row := forgeAppendOnlyUptoRow, standIns := [], harness := (true, "927d46c26750175162ba5799144d8259f1bd054279d7fdceff9b30f42df163c1"), looks := false }, kinds := [], alts := [], laidByText := true, laidKinds := [.data, .pinned], laidTests := true, laidLooks := .later }
def ForgeAppendOnlyUptoCardSaid : Prop := Claim7.holds Tryz.pinned (.plain (OpenSpec.upto forgeAppendOnlySpec)) forgeAppendOnlyUptoCard

/-- THE SECOND FORM's CARD OF 'changeforgelaw2.ForgeAudited'. -/
def forgeAuditedUptoCard : Claim7 := { stood := { row := forgeAuditedUptoRow, standIns := [], harness := (true, "927d46c26750175162ba5799144d8259f1bd054279d7fdceff9b30f42df163c1"), looks := false }, kinds := [], alts := [], laidByText := true, laidKinds := [.data, .pinned], laidTests := true, laidLooks := .later }
def ForgeAuditedUptoCardSaid : Prop := Claim7.holds Tryz.pinned (.plain (OpenSpec.upto forgeAuditedSpec)) forgeAuditedUptoCard
end Rows
end Go.Proofs.YtkcnbopeghkdlaaGreatDoor
