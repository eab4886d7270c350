/-
  NARROWER THAN 'FOR EVERY INPUT', by the rows' own cells (each row's printed sentence says how): ForgeLogReplays: laid · ForgeTamperingDetected: laid · ForgeDuplicatesRefused: laid · ForgeSilentDevelopers: laid · ForgeForgedKeys: laid · ForgePulled: laid.
  DERIVED. THE GIVEN ROWS OF THIS SEAT. 6 by the template 'for every input the law returns true; each argument reads behind the call as it read before'; 0 by the template 'total and deterministic' (their statements: YtmmegcjbdkaffaaGreatDoorTotals.lean).
  GIVEN WITH THE SEED: the statements are not yours to turn. If you find one false, say at which input.
  Laid BY PROGRAM, IN A SANDBOX (cutbox-rows.mjs): the forced cells as the released guide's own fill.sh prints them over the translation 1f74b7e87799a883… (all of the seat's roots in one cut). By AI agents, Wed Nov 11 2026. No macro, syntax, notation, axiom, sorry.
-/
import Derived.Test.YtmmegcjbdkaffaaGreatDoorChecked
import GoSem.PinnedTables
import GoSem.Claim
import GoSem.ClaimJoined
import GoSem.ClaimMapViews
import Derived.JoinedTies
import Derived.KernelRfl
namespace Go.Proofs.YtmmegcjbdkaffaaGreatDoor
/- THE CELL 'sum', in the pinned program and in every row, IS THE sha256 OF THE DUMP (.gsa) THAT YtmmegcjbdkaffaaGreatDoorProg.lean LOADS. Nothing in Lean hashes anything: it is a label: what it is worth is what the hold of that sum in a sandbox is worth. -/
noncomputable def Tryz.pinned : Pinned := { name := "ytmmegcjbdkaffaagreatdoor", sum := "1f74b7e87799a88391b8176d58d68978ade2b02b559c1ca45d7984cd28b6c723", checked := Tryz.checked }
namespace Rows
def none {H : Type} : Left H := { results := [], args := [] }

/- WHAT THE LISTED PACKAGE-LEVEL VARIABLES READ AS WHEN THE CALL BEGINS. Each datum BY PROGRAM (the guide's laid-datum.mjs) off the statement by which the dump's own 'gosem.cut.vars' lays the variable. In a bare row this is a premise. The card (YtmmegcjbdkaffaaGreatDoorCards.lean) ties it to the program's text. -/
def laid_unicode_utf8_acceptRanges {H : Type} : DataW H := .agg [.agg [.lit (.int .u8 128), .lit (.int .u8 191)], .agg [.lit (.int .u8 160), .lit (.int .u8 191)], .agg [.lit (.int .u8 128), .lit (.int .u8 159)], .agg [.lit (.int .u8 144), .lit (.int .u8 191)], .agg [.lit (.int .u8 128), .lit (.int .u8 143)], .agg [.lit (.int .u8 0), .lit (.int .u8 0)], .agg [.lit (.int .u8 0), .lit (.int .u8 0)], .agg [.lit (.int .u8 0), .lit (.int .u8 0)], .agg [.lit (.int .u8 0), .lit (.int .u8 0)], .agg [.lit (.int .u8 0), .lit (.int .u8 0)], .agg [.lit (.int .u8 0), .lit (.int .u8 0)], .agg [.lit (.int .u8 0), .lit (.int .u8 0)], .agg [.lit (.int .u8 0), .lit (.int .u8 0)], .agg [.lit (.int .u8 0), .lit (.int .u8 0)], .agg [.lit (.int .u8 0), .lit (.int .u8 0)], .agg [.lit (.int .u8 0), .lit (.int .u8 0)]]
/-- One of Go's own tables, pinned by name: the form's constant. -/
def laid_unicode_utf8_first : DataW Unit := Go.Pinned.utf8First

/-- 'changeforgelaw2.ForgeLogReplays': WHATEVER THE INPUT: true; the input reads as it did. -/
def forgeLogReplaysSpec : ChangeSpec := { name := "forgeLogReplays", fn := fun _ => fun
  | [d1, d2] => { results := [.lit (.bool true)], args := [d1, d2] }
  | _ => none }
def forgeLogReplaysRow : OpenClaim := { program := "ytmmegcjbdkaffaagreatdoor", sum := "1f74b7e87799a88391b8176d58d68978ade2b02b559c1ca45d7984cd28b6c723", func := "changeforge/changeforgelaw2.ForgeLogReplays", spec := "forgeLogReplays", inPlace := ["internal/bytealg.IndexByteString", "internal/bytealg.IndexString", "internal/bytealg.abigen_runtime_cmpstring", "slices.overlaps[changeforge/api.File]", "slices.overlaps[changeforge/forge.message]"], unfollowed := true, recurses := true, named := ["unicode/utf8.first", "unicode/utf8.acceptRanges", "internal/bytealg.MaxLen"], apart := false, laid := [("unicode/utf8.acceptRanges", laid_unicode_utf8_acceptRanges), ("unicode/utf8.first", laid_unicode_utf8_first)] }
def ForgeLogReplaysSaid : Prop := forgeLogReplaysRow.holds Tryz.pinned (OpenSpec.ofChange forgeLogReplaysSpec)

/-- ITS FALSE NEIGHBOUR: 'it returns false'. Refute it at one input. -/
def forgeLogReplaysWrong : ChangeSpec := { name := "forgeLogReplays", fn := fun _ => fun
  | [d1, d2] => { results := [.lit (.bool false)], args := [d1, d2] }
  | _ => none }
def ForgeLogReplaysWrongFalsely : Prop := forgeLogReplaysRow.holds Tryz.pinned (OpenSpec.ofChange forgeLogReplaysWrong)

/-- 'changeforgelaw2.ForgeTamperingDetected': WHATEVER THE INPUT: true; the input reads as it did. -/
def forgeTamperingDetectedSpec : ChangeSpec := { name := "forgeTamperingDetected", fn := fun _ => fun
  | [d1, d2, d3] => { results := [.lit (.bool true)], args := [d1, d2, d3] }
  | _ => none }
def forgeTamperingDetectedRow : OpenClaim := { program := "ytmmegcjbdkaffaagreatdoor", sum := "1f74b7e87799a88391b8176d58d68978ade2b02b559c1ca45d7984cd28b6c723", func := "changeforge/changeforgelaw2.ForgeTamperingDetected", spec := "forgeTamperingDetected", inPlace := ["internal/bytealg.IndexByteString", "internal/bytealg.IndexString", "internal/bytealg.abigen_runtime_cmpstring", "slices.overlaps[changeforge/api.File]", "slices.overlaps[changeforge/forge.message]"], unfollowed := true, recurses := true, named := ["unicode/utf8.first", "unicode/utf8.acceptRanges", "internal/bytealg.MaxLen"], apart := false, laid := [("unicode/utf8.acceptRanges", laid_unicode_utf8_acceptRanges), ("unicode/utf8.first", laid_unicode_utf8_first)] }
def ForgeTamperingDetectedSaid : Prop := forgeTamperingDetectedRow.holds Tryz.pinned (OpenSpec.ofChange forgeTamperingDetectedSpec)

/-- ITS FALSE NEIGHBOUR: 'it returns false'. Refute it at one input. -/
def forgeTamperingDetectedWrong : ChangeSpec := { name := "forgeTamperingDetected", fn := fun _ => fun
  | [d1, d2, d3] => { results := [.lit (.bool false)], args := [d1, d2, d3] }
  | _ => none }
def ForgeTamperingDetectedWrongFalsely : Prop := forgeTamperingDetectedRow.holds Tryz.pinned (OpenSpec.ofChange forgeTamperingDetectedWrong)

/-- 'changeforgelaw2.ForgeDuplicatesRefused': WHATEVER THE INPUT: true; the input reads as it did. -/
def forgeDuplicatesRefusedSpec : ChangeSpec := { name := "forgeDuplicatesRefused", fn := fun _ => fun
  | [d1, d2, d3] => { results := [.lit (.bool true)], args := [d1, d2, d3] }
  | _ => none }
def forgeDuplicatesRefusedRow : OpenClaim := { program := "ytmmegcjbdkaffaagreatdoor", sum := "1f74b7e87799a88391b8176d58d68978ade2b02b559c1ca45d7984cd28b6c723", func := "changeforge/changeforgelaw2.ForgeDuplicatesRefused", spec := "forgeDuplicatesRefused", inPlace := ["internal/bytealg.IndexByteString", "internal/bytealg.IndexString", "internal/bytealg.abigen_runtime_cmpstring", "slices.overlaps[changeforge/api.File]", "slices.overlaps[changeforge/forge.message]"], unfollowed := true, recurses := true, named := ["unicode/utf8.first", "unicode/utf8.acceptRanges", "internal/bytealg.MaxLen"], apart := false, laid := [("unicode/utf8.acceptRanges", laid_unicode_utf8_acceptRanges), ("unicode/utf8.first", laid_unicode_utf8_first)] }
def ForgeDuplicatesRefusedSaid : Prop := forgeDuplicatesRefusedRow.holds Tryz.pinned (OpenSpec.ofChange forgeDuplicatesRefusedSpec)

/-- ITS FALSE NEIGHBOUR: 'it returns false'. Refute it at one input. -/
def forgeDuplicatesRefusedWrong : ChangeSpec := { name := "forgeDuplicatesRefused", fn := fun _ => fun
  | [d1, d2, d3] => { results := [.lit (.bool false)], args := [d1, d2, d3] }
  | _ => none }
def ForgeDuplicatesRefusedWrongFalsely : Prop := forgeDuplicatesRefusedRow.holds Tryz.pinned (OpenSpec.ofChange forgeDuplicatesRefusedWrong)

/-- 'changeforgelaw2.ForgeSilentDevelopers': WHATEVER THE INPUT: true; the input reads as it did. -/
def forgeSilentDevelopersSpec : ChangeSpec := { name := "forgeSilentDevelopers", fn := fun _ => fun
  | [d1, d2, d3] => { results := [.lit (.bool true)], args := [d1, d2, d3] }
  | _ => none }
def forgeSilentDevelopersRow : OpenClaim := { program := "ytmmegcjbdkaffaagreatdoor", sum := "1f74b7e87799a88391b8176d58d68978ade2b02b559c1ca45d7984cd28b6c723", func := "changeforge/changeforgelaw2.ForgeSilentDevelopers", spec := "forgeSilentDevelopers", inPlace := ["internal/bytealg.IndexByteString", "internal/bytealg.IndexString", "internal/bytealg.abigen_runtime_cmpstring", "slices.overlaps[changeforge/api.File]", "slices.overlaps[changeforge/forge.message]"], unfollowed := true, recurses := true, named := ["unicode/utf8.first", "unicode/utf8.acceptRanges", "internal/bytealg.MaxLen"], apart := false, laid := [("unicode/utf8.acceptRanges", laid_unicode_utf8_acceptRanges), ("unicode/utf8.first", laid_unicode_utf8_first)] }
def ForgeSilentDevelopersSaid : Prop := forgeSilentDevelopersRow.holds Tryz.pinned (OpenSpec.ofChange forgeSilentDevelopersSpec)

/-- ITS FALSE NEIGHBOUR: 'it returns false'. Refute it at one input. -/
def forgeSilentDevelopersWrong : ChangeSpec := { name := "forgeSilentDevelopers", fn := fun _ => fun
  | [d1, d2, d3] => { results := [.lit (.bool false)], args := [d1, d2, d3] }
  | _ => none }
def ForgeSilentDevelopersWrongFalsely : Prop := forgeSilentDevelopersRow.holds Tryz.pinned (OpenSpec.ofChange forgeSilentDevelopersWrong)

/-- 'changeforgelaw2.ForgeForgedKeys': WHATEVER THE INPUT: true; the input reads as it did. -/
def forgeForgedKeysSpec : ChangeSpec := { name := "forgeForgedKeys", fn := fun _ => fun
  | [d1, d2] => { results := [.lit (.bool true)], args := [d1, d2] }
  | _ => none }
def forgeForgedKeysRow : OpenClaim := { program := "ytmmegcjbdkaffaagreatdoor", sum := "1f74b7e87799a88391b8176d58d68978ade2b02b559c1ca45d7984cd28b6c723", func := "changeforge/changeforgelaw2.ForgeForgedKeys", spec := "forgeForgedKeys", inPlace := ["internal/bytealg.IndexByteString", "internal/bytealg.IndexString", "internal/bytealg.abigen_runtime_cmpstring", "slices.overlaps[changeforge/api.File]", "slices.overlaps[changeforge/forge.message]"], unfollowed := true, recurses := true, named := ["unicode/utf8.first", "unicode/utf8.acceptRanges", "internal/bytealg.MaxLen"], apart := false, laid := [("unicode/utf8.acceptRanges", laid_unicode_utf8_acceptRanges), ("unicode/utf8.first", laid_unicode_utf8_first)] }
def ForgeForgedKeysSaid : Prop := forgeForgedKeysRow.holds Tryz.pinned (OpenSpec.ofChange forgeForgedKeysSpec)

/-- ITS FALSE NEIGHBOUR: 'it returns false'. Refute it at one input. -/
def forgeForgedKeysWrong : ChangeSpec := { name := "forgeForgedKeys", fn := fun _ => fun
  | [d1, d2] => { results := [.lit (.bool false)], args := [d1, d2] }
  | _ => none }
def ForgeForgedKeysWrongFalsely : Prop := forgeForgedKeysRow.holds Tryz.pinned (OpenSpec.ofChange forgeForgedKeysWrong)

/-- 'changeforgelaw2.ForgePulled': WHATEVER THE INPUT: true; the input reads as it did. -/
def forgePulledSpec : ChangeSpec := { name := "forgePulled", fn := fun _ => fun
  | [d1, d2, d3] => { results := [.lit (.bool true)], args := [d1, d2, d3] }
  | _ => none }
def forgePulledRow : OpenClaim := { program := "ytmmegcjbdkaffaagreatdoor", sum := "1f74b7e87799a88391b8176d58d68978ade2b02b559c1ca45d7984cd28b6c723", func := "changeforge/changeforgelaw2.ForgePulled", spec := "forgePulled", inPlace := ["internal/bytealg.IndexByteString", "internal/bytealg.IndexString", "internal/bytealg.abigen_runtime_cmpstring", "slices.overlaps[changeforge/api.File]", "slices.overlaps[changeforge/forge.message]"], unfollowed := true, recurses := true, named := ["unicode/utf8.first", "unicode/utf8.acceptRanges", "internal/bytealg.MaxLen"], apart := false, laid := [("unicode/utf8.acceptRanges", laid_unicode_utf8_acceptRanges), ("unicode/utf8.first", laid_unicode_utf8_first)] }
def ForgePulledSaid : Prop := forgePulledRow.holds Tryz.pinned (OpenSpec.ofChange forgePulledSpec)

/-- ITS FALSE NEIGHBOUR: 'it returns false'. Refute it at one input. -/
def forgePulledWrong : ChangeSpec := { name := "forgePulled", fn := fun _ => fun
  | [d1, d2, d3] => { results := [.lit (.bool false)], args := [d1, d2, d3] }
  | _ => none }
def ForgePulledWrongFalsely : Prop := forgePulledRow.holds Tryz.pinned (OpenSpec.ofChange forgePulledWrong)

/- THE SECOND FORM. 'bulk': how many values and letters a reading holds, each counted each time it is reached (what is shared counts as often as it is met; a slice's spare places count too). A statement '..UptoSaid' is the law's where the arguments, and the package variables that the reading takes, are together of bulk at most 1048576: NARROWER than '..Said'. Prove '..Said' where nothing that the law and all that it calls make is longer than what came in: it says more and counts as full. Else prove '..UptoSaid'. A law counts once. -/
mutual
def uptoBulk {H : Type} : DataW H → Nat
  | .lit (.string bytes) => bytes.length + 1
  | .lit _ => 1
  | .nil => 1
  | .ptr d => uptoBulk d + 1
  | .slice elems spare => uptoBulkAll elems + uptoBulkAll spare + 1
  | .agg parts => uptoBulkAll parts + 1
  | .iface _ d => uptoBulk d + 1
  | .map entries => uptoBulkEntries entries + 1
  | .held _ => 1
def uptoBulkAll {H : Type} : List (DataW H) → Nat
  | [] => 0
  | d :: r => uptoBulk d + uptoBulkAll r
def uptoBulkEntries {H : Type} : List (Lit × DataW H) → Nat
  | [] => 0
  | x :: r => uptoBulkEntry x + uptoBulkEntries r
def uptoBulkEntry {H : Type} : Lit × DataW H → Nat
  | (.string bytes, d) => bytes.length + uptoBulk d + 1
  | (_, d) => uptoBulk d + 1
 end
def uptoSmall : (H : Type) → List (DataW H) → Bool := fun _ ds => decide (uptoBulkAll ds ≤ 1048576)
def OpenSpec.upto (s : _root_.Go.ChangeSpec) : _root_.Go.OpenSpec := { _root_.Go.OpenSpec.ofChange s with cond := some uptoSmall }

/-- 'changeforgelaw2.ForgeLogReplays', WHERE WHAT IT READS IS OF BULK AT MOST 1048576: true; the input reads as it did. -/
def forgeLogReplaysUptoRow : OpenClaim := { program := "ytmmegcjbdkaffaagreatdoor", sum := "1f74b7e87799a88391b8176d58d68978ade2b02b559c1ca45d7984cd28b6c723", func := "changeforge/changeforgelaw2.ForgeLogReplays", spec := "forgeLogReplays", inPlace := ["internal/bytealg.IndexByteString", "internal/bytealg.IndexString", "internal/bytealg.abigen_runtime_cmpstring", "slices.overlaps[changeforge/api.File]", "slices.overlaps[changeforge/forge.message]"], unfollowed := true, recurses := true, named := ["unicode/utf8.first", "unicode/utf8.acceptRanges", "internal/bytealg.MaxLen"], apart := false, laid := [("unicode/utf8.acceptRanges", laid_unicode_utf8_acceptRanges), ("unicode/utf8.first", laid_unicode_utf8_first)], narrowed := true }
def ForgeLogReplaysUptoSaid : Prop := forgeLogReplaysUptoRow.holds Tryz.pinned (OpenSpec.upto forgeLogReplaysSpec)

/-- 'changeforgelaw2.ForgeTamperingDetected', WHERE WHAT IT READS IS OF BULK AT MOST 1048576: true; the input reads as it did. -/
def forgeTamperingDetectedUptoRow : OpenClaim := { program := "ytmmegcjbdkaffaagreatdoor", sum := "1f74b7e87799a88391b8176d58d68978ade2b02b559c1ca45d7984cd28b6c723", func := "changeforge/changeforgelaw2.ForgeTamperingDetected", spec := "forgeTamperingDetected", inPlace := ["internal/bytealg.IndexByteString", "internal/bytealg.IndexString", "internal/bytealg.abigen_runtime_cmpstring", "slices.overlaps[changeforge/api.File]", "slices.overlaps[changeforge/forge.message]"], unfollowed := true, recurses := true, named := ["unicode/utf8.first", "unicode/utf8.acceptRanges", "internal/bytealg.MaxLen"], apart := false, laid := [("unicode/utf8.acceptRanges", laid_unicode_utf8_acceptRanges), ("unicode/utf8.first", laid_unicode_utf8_first)], narrowed := true }
def ForgeTamperingDetectedUptoSaid : Prop := forgeTamperingDetectedUptoRow.holds Tryz.pinned (OpenSpec.upto forgeTamperingDetectedSpec)

/-- 'changeforgelaw2.ForgeDuplicatesRefused', WHERE WHAT IT READS IS OF BULK AT MOST 1048576: true; the input reads as it did. -/
def forgeDuplicatesRefusedUptoRow : OpenClaim := { program := "ytmmegcjbdkaffaagreatdoor", sum := "1f74b7e87799a88391b8176d58d68978ade2b02b559c1ca45d7984cd28b6c723", func := "changeforge/changeforgelaw2.ForgeDuplicatesRefused", spec := "forgeDuplicatesRefused", inPlace := ["internal/bytealg.IndexByteString", "internal/bytealg.IndexString", "internal/bytealg.abigen_runtime_cmpstring", "slices.overlaps[changeforge/api.File]", "slices.overlaps[changeforge/forge.message]"], unfollowed := true, recurses := true, named := ["unicode/utf8.first", "unicode/utf8.acceptRanges", "internal/bytealg.MaxLen"], apart := false, laid := [("unicode/utf8.acceptRanges", laid_unicode_utf8_acceptRanges), ("unicode/utf8.first", laid_unicode_utf8_first)], narrowed := true }
def ForgeDuplicatesRefusedUptoSaid : Prop := forgeDuplicatesRefusedUptoRow.holds Tryz.pinned (OpenSpec.upto forgeDuplicatesRefusedSpec)

/-- 'changeforgelaw2.ForgeSilentDevelopers', WHERE WHAT IT READS IS OF BULK AT MOST 1048576: true; the input reads as it did. -/
def forgeSilentDevelopersUptoRow : OpenClaim := { program := "ytmmegcjbdkaffaagreatdoor", sum := "1f74b7e87799a88391b8176d58d68978ade2b02b559c1ca45d7984cd28b6c723", func := "changeforge/changeforgelaw2.ForgeSilentDevelopers", spec := "forgeSilentDevelopers", inPlace := ["internal/bytealg.IndexByteString", "internal/bytealg.IndexString", "internal/bytealg.abigen_runtime_cmpstring", "slices.overlaps[changeforge/api.File]", "slices.overlaps[changeforge/forge.message]"], unfollowed := true, recurses := true, named := ["unicode/utf8.first", "unicode/utf8.acceptRanges", "internal/bytealg.MaxLen"], apart := false, laid := [("unicode/utf8.acceptRanges", laid_unicode_utf8_acceptRanges), ("unicode/utf8.first", laid_unicode_utf8_first)], narrowed := true }
def ForgeSilentDevelopersUptoSaid : Prop := forgeSilentDevelopersUptoRow.holds Tryz.pinned (OpenSpec.upto forgeSilentDevelopersSpec)

/-- 'changeforgelaw2.ForgeForgedKeys', WHERE WHAT IT READS IS OF BULK AT MOST 1048576: true; the input reads as it did. -/
def forgeForgedKeysUptoRow : OpenClaim := { program := "ytmmegcjbdkaffaagreatdoor", sum := "1f74b7e87799a88391b8176d58d68978ade2b02b559c1ca45d7984cd28b6c723", func := "changeforge/changeforgelaw2.ForgeForgedKeys", spec := "forgeForgedKeys", inPlace := ["internal/bytealg.IndexByteString", "internal/bytealg.IndexString", "internal/bytealg.abigen_runtime_cmpstring", "slices.overlaps[changeforge/api.File]", "slices.overlaps[changeforge/forge.message]"], unfollowed := true, recurses := true, named := ["unicode/utf8.first", "unicode/utf8.acceptRanges", "internal/bytealg.MaxLen"], apart := false, laid := [("unicode/utf8.acceptRanges", laid_unicode_utf8_acceptRanges), ("unicode/utf8.first", laid_unicode_utf8_first)], narrowed := true }
def ForgeForgedKeysUptoSaid : Prop := forgeForgedKeysUptoRow.holds Tryz.pinned (OpenSpec.upto forgeForgedKeysSpec)

/-- 'changeforgelaw2.ForgePulled', WHERE WHAT IT READS IS OF BULK AT MOST 1048576: true; the input reads as it did. -/
def forgePulledUptoRow : OpenClaim := { program := "ytmmegcjbdkaffaagreatdoor", sum := "1f74b7e87799a88391b8176d58d68978ade2b02b559c1ca45d7984cd28b6c723", func := "changeforge/changeforgelaw2.ForgePulled", spec := "forgePulled", inPlace := ["internal/bytealg.IndexByteString", "internal/bytealg.IndexString", "internal/bytealg.abigen_runtime_cmpstring", "slices.overlaps[changeforge/api.File]", "slices.overlaps[changeforge/forge.message]"], unfollowed := true, recurses := true, named := ["unicode/utf8.first", "unicode/utf8.acceptRanges", "internal/bytealg.MaxLen"], apart := false, laid := [("unicode/utf8.acceptRanges", laid_unicode_utf8_acceptRanges), ("unicode/utf8.first", laid_unicode_utf8_first)], narrowed := true }
def ForgePulledUptoSaid : Prop := forgePulledUptoRow.holds Tryz.pinned (OpenSpec.upto forgePulledSpec)

end Rows
end Go.Proofs.YtmmegcjbdkaffaaGreatDoor
