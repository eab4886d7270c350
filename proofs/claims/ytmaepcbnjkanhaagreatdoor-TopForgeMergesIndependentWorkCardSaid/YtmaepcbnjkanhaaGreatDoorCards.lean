/-
  DERIVED. GIVEN WITH THE SEED: THE CARDS: each row of YtmaepcbnjkanhaaGreatDoorRows.lean that lists a variable, with what it lists TIED to the program's text (the seventh form; the later family's looks); each row that meets fmt, with fmt's text TOLD by the authors' own Lean function (tested against real Go, not proved from fmt's source: count such statements apart). THE CARD IS WHAT COUNTS. Prove the row's statement (the work); the ties are given (YtmaepcbnjkanhaaGreatDoorTie.lean); close each card by the builder's one call (the guide's Derived/Test/ToyasCard.lean, 'card_holds'). Laid BY PROGRAM, IN A SANDBOX (cutbox-door.mjs). By AI agents, Wed Nov 11 2026. No macro, syntax, notation, axiom, sorry.
-/
import Derived.Test.YtmaepcbnjkanhaaGreatDoorRows
import GoSem.ClaimSeven
namespace Go.Proofs.YtmaepcbnjkanhaaGreatDoor
namespace Rows

/-- THE TIED CARD OF 'changeforgelaw2.ForgeLogReplays'. -/
def forgeLogReplaysCard : Claim7 := { stood := { row := forgeLogReplaysRow, standIns := [], harness := (true, "01057c5356d7ff44a91385de3cc093ef7d860d3caf26eac9e5ed96ab2f4ac9d7"), looks := false }, kinds := [], alts := [], laidByText := true, laidKinds := [.data, .pinned], laidTests := true, laidLooks := .later }
def ForgeLogReplaysCardSaid : Prop := Claim7.holds Tryz.pinned (.plain (OpenSpec.ofChange forgeLogReplaysSpec)) forgeLogReplaysCard

/-- THE TIED CARD OF 'changeforgelaw2.ForgeTamperingDetected'. -/
def forgeTamperingDetectedCard : Claim7 := { stood := { row := forgeTamperingDetectedRow, standIns := [], harness := (true, "01057c5356d7ff44a91385de3cc093ef7d860d3caf26eac9e5ed96ab2f4ac9d7"), looks := false }, kinds := [], alts := [], laidByText := true, laidKinds := [.data, .pinned], laidTests := true, laidLooks := .later }
def ForgeTamperingDetectedCardSaid : Prop := Claim7.holds Tryz.pinned (.plain (OpenSpec.ofChange forgeTamperingDetectedSpec)) forgeTamperingDetectedCard

/-- THE TIED CARD OF 'changeforgelaw2.ForgeDuplicatesRefused'. -/
def forgeDuplicatesRefusedCard : Claim7 := { stood := { row := forgeDuplicatesRefusedRow, standIns := [], harness := (true, "01057c5356d7ff44a91385de3cc093ef7d860d3caf26eac9e5ed96ab2f4ac9d7"), looks := false }, kinds := [], alts := [], laidByText := true, laidKinds := [.data, .pinned], laidTests := true, laidLooks := .later }
def ForgeDuplicatesRefusedCardSaid : Prop := Claim7.holds Tryz.pinned (.plain (OpenSpec.ofChange forgeDuplicatesRefusedSpec)) forgeDuplicatesRefusedCard

/-- THE TIED CARD OF 'changeforgelaw2.ForgeSilentDevelopers'. -/
def forgeSilentDevelopersCard : Claim7 := { stood := { row := forgeSilentDevelopersRow, standIns := [], harness := (true, "01057c5356d7ff44a91385de3cc093ef7d860d3caf26eac9e5ed96ab2f4ac9d7"), looks := false }, kinds := [], alts := [], laidByText := true, laidKinds := [.data, .pinned], laidTests := true, laidLooks := .later }
def ForgeSilentDevelopersCardSaid : Prop := Claim7.holds Tryz.pinned (.plain (OpenSpec.ofChange forgeSilentDevelopersSpec)) forgeSilentDevelopersCard

/-- THE TIED CARD OF 'changeforgelaw2.ForgeFirstChange'. -/
def forgeFirstChangeCard : Claim7 := { stood := { row := forgeFirstChangeRow, standIns := [], harness := (true, "01057c5356d7ff44a91385de3cc093ef7d860d3caf26eac9e5ed96ab2f4ac9d7"), looks := false }, kinds := [], alts := [], laidByText := true, laidKinds := [.data, .pinned], laidTests := true, laidLooks := .later }
def ForgeFirstChangeCardSaid : Prop := Claim7.holds Tryz.pinned (.plain (OpenSpec.ofChange forgeFirstChangeSpec)) forgeFirstChangeCard

/-- THE TIED CARD OF 'changeforgelaw2.ForgeForgedKeys'. -/
def forgeForgedKeysCard : Claim7 := { stood := { row := forgeForgedKeysRow, standIns := [], harness := (true, "01057c5356d7ff44a91385de3cc093ef7d860d3caf26eac9e5ed96ab2f4ac9d7"), looks := false }, kinds := [], alts := [], laidByText := true, laidKinds := [.data, .pinned], laidTests := true, laidLooks := .later }
def ForgeForgedKeysCardSaid : Prop := Claim7.holds Tryz.pinned (.plain (OpenSpec.ofChange forgeForgedKeysSpec)) forgeForgedKeysCard

/-- THE TIED CARD OF 'changeforgelaw2.ForgeMatchesSpec'. -/
def forgeMatchesSpecCard : Claim7 := { stood := { row := forgeMatchesSpecRow, standIns := [], harness := (true, "01057c5356d7ff44a91385de3cc093ef7d860d3caf26eac9e5ed96ab2f4ac9d7"), looks := false }, kinds := [], alts := [], laidByText := true, laidKinds := [.data, .pinned], laidTests := true, laidLooks := .later }
def ForgeMatchesSpecCardSaid : Prop := Claim7.holds Tryz.pinned (.plain (OpenSpec.ofChange forgeMatchesSpecSpec)) forgeMatchesSpecCard

/-- THE TIED CARD OF 'changeforgelaw2.ForgeDigestMatchesSpec'. -/
def forgeDigestMatchesSpecCard : Claim7 := { stood := { row := forgeDigestMatchesSpecRow, standIns := [], harness := (true, "01057c5356d7ff44a91385de3cc093ef7d860d3caf26eac9e5ed96ab2f4ac9d7"), looks := false }, kinds := [], alts := [], laidByText := true, laidKinds := [.data, .pinned], laidTests := true, laidLooks := .later }
def ForgeDigestMatchesSpecCardSaid : Prop := Claim7.holds Tryz.pinned (.plain (OpenSpec.ofChange forgeDigestMatchesSpecSpec)) forgeDigestMatchesSpecCard

/-- THE TIED CARD OF 'changeforgelaw2.ForgePulled'. -/
def forgePulledCard : Claim7 := { stood := { row := forgePulledRow, standIns := [], harness := (true, "01057c5356d7ff44a91385de3cc093ef7d860d3caf26eac9e5ed96ab2f4ac9d7"), looks := false }, kinds := [], alts := [], laidByText := true, laidKinds := [.data, .pinned], laidTests := true, laidLooks := .later }
def ForgePulledCardSaid : Prop := Claim7.holds Tryz.pinned (.plain (OpenSpec.ofChange forgePulledSpec)) forgePulledCard

/-- THE TIED CARD OF 'changeforgelaw2.ForgeRootMatchesSpec'. -/
def forgeRootMatchesSpecCard : Claim7 := { stood := { row := forgeRootMatchesSpecRow, standIns := [], harness := (true, "01057c5356d7ff44a91385de3cc093ef7d860d3caf26eac9e5ed96ab2f4ac9d7"), looks := false }, kinds := [], alts := [], laidByText := true, laidKinds := [.data, .pinned], laidTests := true, laidLooks := .later }
def ForgeRootMatchesSpecCardSaid : Prop := Claim7.holds Tryz.pinned (.plain (OpenSpec.ofChange forgeRootMatchesSpecSpec)) forgeRootMatchesSpecCard

/-- THE TIED CARD OF 'changeforgelaw2.ForgeAppendOnly'. -/
def forgeAppendOnlyCard : Claim7 := { stood := { row := forgeAppendOnlyRow, standIns := [], harness := (true, "01057c5356d7ff44a91385de3cc093ef7d860d3caf26eac9e5ed96ab2f4ac9d7"), looks := false }, kinds := [], alts := [], laidByText := true, laidKinds := [.data, .pinned], laidTests := true, laidLooks := .later }
def ForgeAppendOnlyCardSaid : Prop := Claim7.holds Tryz.pinned (.plain (OpenSpec.ofChange forgeAppendOnlySpec)) forgeAppendOnlyCard

/-- THE TIED CARD OF 'changeforgelaw2.ForgeAudited'. -/
def forgeAuditedCard : Claim7 := { stood := { row := forgeAuditedRow, standIns := [], harness := (true, "01057c5356d7ff44a91385de3cc093ef7d860d3caf26eac9e5ed96ab2f4ac9d7"), looks := false }, kinds := [], alts := [], laidByText := true, laidKinds := [.data, .pinned], laidTests := true, laidLooks := .later }
def ForgeAuditedCardSaid : Prop := Claim7.holds Tryz.pinned (.plain (OpenSpec.ofChange forgeAuditedSpec)) forgeAuditedCard

/-- THE TIED CARD OF 'changeforgetop.TopForgeMergesIndependentWork'. -/
def topForgeMergesIndependentWorkCard : Claim7 := { stood := { row := topForgeMergesIndependentWorkRow, standIns := [], harness := (true, "01057c5356d7ff44a91385de3cc093ef7d860d3caf26eac9e5ed96ab2f4ac9d7"), looks := false }, kinds := [], alts := [], laidByText := true, laidKinds := [.data, .pinned], laidTests := true, laidLooks := .later }
def TopForgeMergesIndependentWorkCardSaid : Prop := Claim7.holds Tryz.pinned (.plain (OpenSpec.ofChange topForgeMergesIndependentWorkSpec)) topForgeMergesIndependentWorkCard

/-- THE SECOND FORM's CARD OF 'changeforgelaw2.ForgeLogReplays'. -/
def forgeLogReplaysUptoCard : Claim7 := { stood := { row := forgeLogReplaysUptoRow, standIns := [], harness := (true, "01057c5356d7ff44a91385de3cc093ef7d860d3caf26eac9e5ed96ab2f4ac9d7"), looks := false }, kinds := [], alts := [], laidByText := true, laidKinds := [.data, .pinned], laidTests := true, laidLooks := .later }
def ForgeLogReplaysUptoCardSaid : Prop := Claim7.holds Tryz.pinned (.plain (OpenSpec.upto forgeLogReplaysSpec)) forgeLogReplaysUptoCard

/-- THE SECOND FORM's CARD OF 'changeforgelaw2.ForgeTamperingDetected'. -/
def forgeTamperingDetectedUptoCard : Claim7 := { stood := { row := forgeTamperingDetectedUptoRow, standIns := [], harness := (true, "01057c5356d7ff44a91385de3cc093ef7d860d3caf26eac9e5ed96ab2f4ac9d7"), looks := false }, kinds := [], alts := [], laidByText := true, laidKinds := [.data, .pinned], laidTests := true, laidLooks := .later }
def ForgeTamperingDetectedUptoCardSaid : Prop := Claim7.holds Tryz.pinned (.plain (OpenSpec.upto forgeTamperingDetectedSpec)) forgeTamperingDetectedUptoCard

/-- THE SECOND FORM's CARD OF 'changeforgelaw2.ForgeDuplicatesRefused'. -/
def forgeDuplicatesRefusedUptoCard : Claim7 := { stood := { row := forgeDuplicatesRefusedUptoRow, standIns := [], harness := (true, "01057c5356d7ff44a91385de3cc093ef7d860d3caf26eac9e5ed96ab2f4ac9d7"), looks := false }, kinds := [], alts := [], laidByText := true, laidKinds := [.data, .pinned], laidTests := true, laidLooks := .later }
def ForgeDuplicatesRefusedUptoCardSaid : Prop := Claim7.holds Tryz.pinned (.plain (OpenSpec.upto forgeDuplicatesRefusedSpec)) forgeDuplicatesRefusedUptoCard

/-- THE SECOND FORM's CARD OF 'changeforgelaw2.ForgeSilentDevelopers'. -/
def forgeSilentDevelopersUptoCard : Claim7 := { stood := { row := forgeSilentDevelopersUptoRow, standIns := [], harness := (true, "01057c5356d7ff44a91385de3cc093ef7d860d3caf26eac9e5ed96ab2f4ac9d7"), looks := false }, kinds := [], alts := [], laidByText := true, laidKinds := [.data, .pinned], laidTests := true, laidLooks := .later }
def ForgeSilentDevelopersUptoCardSaid : Prop := Claim7.holds Tryz.pinned (.plain (OpenSpec.upto forgeSilentDevelopersSpec)) forgeSilentDevelopersUptoCard

/-- THE SECOND FORM's CARD OF 'changeforgelaw2.ForgeFirstChange'. -/
def forgeFirstChangeUptoCard : Claim7 := { stood := { row := forgeFirstChangeUptoRow, standIns := [], harness := (true, "01057c5356d7ff44a91385de3cc093ef7d860d3caf26eac9e5ed96ab2f4ac9d7"), looks := false }, kinds := [], alts := [], laidByText := true, laidKinds := [.data, .pinned], laidTests := true, laidLooks := .later }
def ForgeFirstChangeUptoCardSaid : Prop := Claim7.holds Tryz.pinned (.plain (OpenSpec.upto forgeFirstChangeSpec)) forgeFirstChangeUptoCard

/-- THE SECOND FORM's CARD OF 'changeforgelaw2.ForgeForgedKeys'. -/
def forgeForgedKeysUptoCard : Claim7 := { stood := { row := forgeForgedKeysUptoRow, standIns := [], harness := (true, "01057c5356d7ff44a91385de3cc093ef7d860d3caf26eac9e5ed96ab2f4ac9d7"), looks := false }, kinds := [], alts := [], laidByText := true, laidKinds := [.data, .pinned], laidTests := true, laidLooks := .later }
def ForgeForgedKeysUptoCardSaid : Prop := Claim7.holds Tryz.pinned (.plain (OpenSpec.upto forgeForgedKeysSpec)) forgeForgedKeysUptoCard

/-- THE SECOND FORM's CARD OF 'changeforgelaw2.ForgeMatchesSpec'. -/
def forgeMatchesSpecUptoCard : Claim7 := { stood := { row := forgeMatchesSpecUptoRow, standIns := [], harness := (true, "01057c5356d7ff44a91385de3cc093ef7d860d3caf26eac9e5ed96ab2f4ac9d7"), looks := false }, kinds := [], alts := [], laidByText := true, laidKinds := [.data, .pinned], laidTests := true, laidLooks := .later }
def ForgeMatchesSpecUptoCardSaid : Prop := Claim7.holds Tryz.pinned (.plain (OpenSpec.upto forgeMatchesSpecSpec)) forgeMatchesSpecUptoCard

/-- THE SECOND FORM's CARD OF 'changeforgelaw2.ForgeDigestMatchesSpec'. -/
def forgeDigestMatchesSpecUptoCard : Claim7 := { stood := { row := forgeDigestMatchesSpecUptoRow, standIns := [], harness := (true, "01057c5356d7ff44a91385de3cc093ef7d860d3caf26eac9e5ed96ab2f4ac9d7"), looks := false }, kinds := [], alts := [], laidByText := true, laidKinds := [.data, .pinned], laidTests := true, laidLooks := .later }
def ForgeDigestMatchesSpecUptoCardSaid : Prop := Claim7.holds Tryz.pinned (.plain (OpenSpec.upto forgeDigestMatchesSpecSpec)) forgeDigestMatchesSpecUptoCard

/-- THE SECOND FORM's CARD OF 'changeforgelaw2.ForgePulled'. -/
def forgePulledUptoCard : Claim7 := { stood := { row := forgePulledUptoRow, standIns := [], harness := (true, "01057c5356d7ff44a91385de3cc093ef7d860d3caf26eac9e5ed96ab2f4ac9d7"), looks := false }, kinds := [], alts := [], laidByText := true, laidKinds := [.data, .pinned], laidTests := true, laidLooks := .later }
def ForgePulledUptoCardSaid : Prop := Claim7.holds Tryz.pinned (.plain (OpenSpec.upto forgePulledSpec)) forgePulledUptoCard

/-- THE SECOND FORM's CARD OF 'changeforgelaw2.ForgeRootMatchesSpec'. -/
def forgeRootMatchesSpecUptoCard : Claim7 := { stood := { row := forgeRootMatchesSpecUptoRow, standIns := [], harness := (true, "01057c5356d7ff44a91385de3cc093ef7d860d3caf26eac9e5ed96ab2f4ac9d7"), looks := false }, kinds := [], alts := [], laidByText := true, laidKinds := [.data, .pinned], laidTests := true, laidLooks := .later }
def ForgeRootMatchesSpecUptoCardSaid : Prop := Claim7.holds Tryz.pinned (.plain (OpenSpec.upto forgeRootMatchesSpecSpec)) forgeRootMatchesSpecUptoCard

/-- THE SECOND FORM's CARD OF 'changeforgelaw2.ForgeAppendOnly'. -/
def forgeAppendOnlyUptoCard : Claim7 := { stood := { row := forgeAppendOnlyUptoRow, standIns := [], harness := (true, "01057c5356d7ff44a91385de3cc093ef7d860d3caf26eac9e5ed96ab2f4ac9d7"), looks := false }, kinds := [], alts := [], laidByText := true, laidKinds := [.data, .pinned], laidTests := true, laidLooks := .later }
def ForgeAppendOnlyUptoCardSaid : Prop := Claim7.holds Tryz.pinned (.plain (OpenSpec.upto forgeAppendOnlySpec)) forgeAppendOnlyUptoCard

/-- THE SECOND FORM's CARD OF 'changeforgelaw2.ForgeAudited'. -/
def forgeAuditedUptoCard : Claim7 := { stood := { row := forgeAuditedUptoRow, standIns := [], harness := (true, "01057c5356d7ff44a91385de3cc093ef7d860d3caf26eac9e5ed96ab2f4ac9d7"), looks := false }, kinds := [], alts := [], laidByText := true, laidKinds := [.data, .pinned], laidTests := true, laidLooks := .later }
def ForgeAuditedUptoCardSaid : Prop := Claim7.holds Tryz.pinned (.plain (OpenSpec.upto forgeAuditedSpec)) forgeAuditedUptoCard

/-- THE SECOND FORM's CARD OF 'changeforgetop.TopForgeMergesIndependentWork'. -/
def topForgeMergesIndependentWorkUptoCard : Claim7 := { stood := { row := topForgeMergesIndependentWorkUptoRow, standIns := [], harness := (true, "01057c5356d7ff44a91385de3cc093ef7d860d3caf26eac9e5ed96ab2f4ac9d7"), looks := false }, kinds := [], alts := [], laidByText := true, laidKinds := [.data, .pinned], laidTests := true, laidLooks := .later }
def TopForgeMergesIndependentWorkUptoCardSaid : Prop := Claim7.holds Tryz.pinned (.plain (OpenSpec.upto topForgeMergesIndependentWorkSpec)) topForgeMergesIndependentWorkUptoCard
end Rows
end Go.Proofs.YtmaepcbnjkanhaaGreatDoor
