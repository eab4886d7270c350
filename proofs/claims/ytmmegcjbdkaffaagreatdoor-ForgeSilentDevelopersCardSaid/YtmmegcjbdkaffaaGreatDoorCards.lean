/-
  DERIVED. GIVEN WITH THE SEED: THE CARDS: each row of YtmmegcjbdkaffaaGreatDoorRows.lean that lists a variable, with what it lists TIED to the program's text (the seventh form; the later family's looks); each row that meets fmt, with fmt's text TOLD by the authors' own Lean function (tested against real Go, not proved from fmt's source: count such statements apart). THE CARD IS WHAT COUNTS. Prove the row's statement (the work); the ties are given (YtmmegcjbdkaffaaGreatDoorTie.lean); close each card by the builder's one call (the guide's Derived/Test/ToyasCard.lean, 'card_holds'). Laid BY PROGRAM, IN A SANDBOX (cutbox-door.mjs). By AI agents, Wed Nov 11 2026. No macro, syntax, notation, axiom, sorry.
-/
import Derived.Test.YtmmegcjbdkaffaaGreatDoorRows
import GoSem.ClaimSeven
namespace Go.Proofs.YtmmegcjbdkaffaaGreatDoor
namespace Rows

/-- THE TIED CARD OF 'changeforgelaw2.ForgeLogReplays'. -/
def forgeLogReplaysCard : Claim7 := { stood := { row := forgeLogReplaysRow, standIns := [], harness := (true, "4dffdedd27c2a0f65eaf99732fc99d1775fef1da359f3d0f134205558afa270d"), looks := false }, kinds := [], alts := [], laidByText := true, laidKinds := [.data, .pinned], laidTests := true, laidLooks := .later }
def ForgeLogReplaysCardSaid : Prop := Claim7.holds Tryz.pinned (.plain (OpenSpec.ofChange forgeLogReplaysSpec)) forgeLogReplaysCard

/-- THE TIED CARD OF 'changeforgelaw2.ForgeTamperingDetected'. -/
def forgeTamperingDetectedCard : Claim7 := { stood := { row := forgeTamperingDetectedRow, standIns := [], harness := (true, "4dffdedd27c2a0f65eaf99732fc99d1775fef1da359f3d0f134205558afa270d"), looks := false }, kinds := [], alts := [], laidByText := true, laidKinds := [.data, .pinned], laidTests := true, laidLooks := .later }
def ForgeTamperingDetectedCardSaid : Prop := Claim7.holds Tryz.pinned (.plain (OpenSpec.ofChange forgeTamperingDetectedSpec)) forgeTamperingDetectedCard

/-- THE TIED CARD OF 'changeforgelaw2.ForgeDuplicatesRefused'. -/
def forgeDuplicatesRefusedCard : Claim7 := { stood := { row := forgeDuplicatesRefusedRow, standIns := [], harness := (true, "4dffdedd27c2a0f65eaf99732fc99d1775fef1da359f3d0f134205558afa270d"), looks := false }, kinds := [], alts := [], laidByText := true, laidKinds := [.data, .pinned], laidTests := true, laidLooks := .later }
def ForgeDuplicatesRefusedCardSaid : Prop := Claim7.holds Tryz.pinned (.plain (OpenSpec.ofChange forgeDuplicatesRefusedSpec)) forgeDuplicatesRefusedCard

/-- THE TIED CARD OF 'changeforgelaw2.ForgeSilentDevelopers'. -/
def forgeSilentDevelopersCard : Claim7 := { stood := { row := forgeSilentDevelopersRow, standIns := [], harness := (true, "4dffdedd27c2a0f65eaf99732fc99d1775fef1da359f3d0f134205558afa270d"), looks := false }, kinds := [], alts := [], laidByText := true, laidKinds := [.data, .pinned], laidTests := true, laidLooks := .later }
def ForgeSilentDevelopersCardSaid : Prop := Claim7.holds Tryz.pinned (.plain (OpenSpec.ofChange forgeSilentDevelopersSpec)) forgeSilentDevelopersCard

/-- THE TIED CARD OF 'changeforgelaw2.ForgeForgedKeys'. -/
def forgeForgedKeysCard : Claim7 := { stood := { row := forgeForgedKeysRow, standIns := [], harness := (true, "4dffdedd27c2a0f65eaf99732fc99d1775fef1da359f3d0f134205558afa270d"), looks := false }, kinds := [], alts := [], laidByText := true, laidKinds := [.data, .pinned], laidTests := true, laidLooks := .later }
def ForgeForgedKeysCardSaid : Prop := Claim7.holds Tryz.pinned (.plain (OpenSpec.ofChange forgeForgedKeysSpec)) forgeForgedKeysCard

/-- THE TIED CARD OF 'changeforgelaw2.ForgePulled'. -/
def forgePulledCard : Claim7 := { stood := { row := forgePulledRow, standIns := [], harness := (true, "4dffdedd27c2a0f65eaf99732fc99d1775fef1da359f3d0f134205558afa270d"), looks := false }, kinds := [], alts := [], laidByText := true, laidKinds := [.data, .pinned], laidTests := true, laidLooks := .later }
def ForgePulledCardSaid : Prop := Claim7.holds Tryz.pinned (.plain (OpenSpec.ofChange forgePulledSpec)) forgePulledCard

/-- THE SECOND FORM's CARD OF 'changeforgelaw2.ForgeLogReplays'. -/
def forgeLogReplaysUptoCard : Claim7 := { stood := { row := forgeLogReplaysUptoRow, standIns := [], harness := (true, "4dffdedd27c2a0f65eaf99732fc99d1775fef1da359f3d0f134205558afa270d"), looks := false }, kinds := [], alts := [], laidByText := true, laidKinds := [.data, .pinned], laidTests := true, laidLooks := .later }
def ForgeLogReplaysUptoCardSaid : Prop := Claim7.holds Tryz.pinned (.plain (OpenSpec.upto forgeLogReplaysSpec)) forgeLogReplaysUptoCard

/-- THE SECOND FORM's CARD OF 'changeforgelaw2.ForgeTamperingDetected'. -/
def forgeTamperingDetectedUptoCard : Claim7 := { stood := { row := forgeTamperingDetectedUptoRow, standIns := [], harness := (true, "4dffdedd27c2a0f65eaf99732fc99d1775fef1da359f3d0f134205558afa270d"), looks := false }, kinds := [], alts := [], laidByText := true, laidKinds := [.data, .pinned], laidTests := true, laidLooks := .later }
def ForgeTamperingDetectedUptoCardSaid : Prop := Claim7.holds Tryz.pinned (.plain (OpenSpec.upto forgeTamperingDetectedSpec)) forgeTamperingDetectedUptoCard

/-- THE SECOND FORM's CARD OF 'changeforgelaw2.ForgeDuplicatesRefused'. -/
def forgeDuplicatesRefusedUptoCard : Claim7 := { stood := { row := forgeDuplicatesRefusedUptoRow, standIns := [], harness := (true, "4dffdedd27c2a0f65eaf99732fc99d1775fef1da359f3d0f134205558afa270d"), looks := false }, kinds := [], alts := [], laidByText := true, laidKinds := [.data, .pinned], laidTests := true, laidLooks := .later }
def ForgeDuplicatesRefusedUptoCardSaid : Prop := Claim7.holds Tryz.pinned (.plain (OpenSpec.upto forgeDuplicatesRefusedSpec)) forgeDuplicatesRefusedUptoCard

/-- THE SECOND FORM's CARD OF 'changeforgelaw2.ForgeSilentDevelopers'. -/
def forgeSilentDevelopersUptoCard : Claim7 := { stood := { row := forgeSilentDevelopersUptoRow, standIns := [], harness := (true, "4dffdedd27c2a0f65eaf99732fc99d1775fef1da359f3d0f134205558afa270d"), looks := false }, kinds := [], alts := [], laidByText := true, laidKinds := [.data, .pinned], laidTests := true, laidLooks := .later }
def ForgeSilentDevelopersUptoCardSaid : Prop := Claim7.holds Tryz.pinned (.plain (OpenSpec.upto forgeSilentDevelopersSpec)) forgeSilentDevelopersUptoCard

/-- THE SECOND FORM's CARD OF 'changeforgelaw2.ForgeForgedKeys'. -/
def forgeForgedKeysUptoCard : Claim7 := { stood := { row := forgeForgedKeysUptoRow, standIns := [], harness := (true, "4dffdedd27c2a0f65eaf99732fc99d1775fef1da359f3d0f134205558afa270d"), looks := false }, kinds := [], alts := [], laidByText := true, laidKinds := [.data, .pinned], laidTests := true, laidLooks := .later }
def ForgeForgedKeysUptoCardSaid : Prop := Claim7.holds Tryz.pinned (.plain (OpenSpec.upto forgeForgedKeysSpec)) forgeForgedKeysUptoCard

/-- THE SECOND FORM's CARD OF 'changeforgelaw2.ForgePulled'. -/
def forgePulledUptoCard : Claim7 := { stood := { row := forgePulledUptoRow, standIns := [], harness := (true, "4dffdedd27c2a0f65eaf99732fc99d1775fef1da359f3d0f134205558afa270d"), looks := false }, kinds := [], alts := [], laidByText := true, laidKinds := [.data, .pinned], laidTests := true, laidLooks := .later }
def ForgePulledUptoCardSaid : Prop := Claim7.holds Tryz.pinned (.plain (OpenSpec.upto forgePulledSpec)) forgePulledUptoCard
end Rows
end Go.Proofs.YtmmegcjbdkaffaaGreatDoor
