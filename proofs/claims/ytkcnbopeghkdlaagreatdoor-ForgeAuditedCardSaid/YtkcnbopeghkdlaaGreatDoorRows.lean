/-
  NARROWER THAN 'FOR EVERY INPUT', by the rows' own cells (each row's printed sentence says how): ForgeRootMatchesSpec: laid · ForgeAppendOnly: laid · ForgeAudited: laid.
  DERIVED. THE GIVEN ROWS OF THIS SEAT. 3 by the template 'for every input the law returns true; each argument reads behind the call as it read before'; 0 by the template 'total and deterministic' (their statements: YtkcnbopeghkdlaaGreatDoorTotals.lean).
  GIVEN WITH THE SEED: the statements are not yours to turn. If you find one false, say at which input.
  Laid BY PROGRAM, IN A SANDBOX (cutbox-rows.mjs): the forced cells as the released guide's own fill.sh prints them over the translation 44d2de240a920357… (all of the seat's roots in one cut). By AI agents, Wed Nov 11 2026. No macro, syntax, notation, axiom, sorry.
-/
import Derived.Test.YtkcnbopeghkdlaaGreatDoorChecked
import GoSem.PinnedTables
import GoSem.Claim
import GoSem.ClaimJoined
import GoSem.ClaimMapViews
import Derived.JoinedTies
import Derived.KernelRfl
namespace Go.Proofs.YtkcnbopeghkdlaaGreatDoor
/- THE CELL 'sum', in the pinned program and in every row, IS THE sha256 OF THE DUMP (.gsa) THAT YtkcnbopeghkdlaaGreatDoorProg.lean LOADS. Nothing in Lean hashes anything: it is a label: what it is worth is what the hold of that sum in a sandbox is worth. -/
noncomputable def Tryz.pinned : Pinned := { name := "ytkcnbopeghkdlaagreatdoor", sum := "44d2de240a920357eef06746df97515a9635ef7aa1d9f4dfcf4407d27b4ac7b9", checked := Tryz.checked }
namespace Rows
def none {H : Type} : Left H := { results := [], args := [] }

/- WHAT THE LISTED PACKAGE-LEVEL VARIABLES READ AS WHEN THE CALL BEGINS. Each datum BY PROGRAM (the guide's laid-datum.mjs) off the statement by which the dump's own 'gosem.cut.vars' lays the variable. In a bare row this is a premise. The card (YtkcnbopeghkdlaaGreatDoorCards.lean) ties it to the program's text. -/
def laid_unicode_utf8_acceptRanges {H : Type} : DataW H := .agg [.agg [.lit (.int .u8 128), .lit (.int .u8 191)], .agg [.lit (.int .u8 160), .lit (.int .u8 191)], .agg [.lit (.int .u8 128), .lit (.int .u8 159)], .agg [.lit (.int .u8 144), .lit (.int .u8 191)], .agg [.lit (.int .u8 128), .lit (.int .u8 143)], .agg [.lit (.int .u8 0), .lit (.int .u8 0)], .agg [.lit (.int .u8 0), .lit (.int .u8 0)], .agg [.lit (.int .u8 0), .lit (.int .u8 0)], .agg [.lit (.int .u8 0), .lit (.int .u8 0)], .agg [.lit (.int .u8 0), .lit (.int .u8 0)], .agg [.lit (.int .u8 0), .lit (.int .u8 0)], .agg [.lit (.int .u8 0), .lit (.int .u8 0)], .agg [.lit (.int .u8 0), .lit (.int .u8 0)], .agg [.lit (.int .u8 0), .lit (.int .u8 0)], .agg [.lit (.int .u8 0), .lit (.int .u8 0)], .agg [.lit (.int .u8 0), .lit (.int .u8 0)]]
/-- One of Go's own tables, pinned by name: the form's constant. -/
def laid_unicode_utf8_first : DataW Unit := Go.Pinned.utf8First

/-- 'changeforgelaw2.ForgeRootMatchesSpec': WHATEVER THE INPUT: true; the input reads as it did. -/
def forgeRootMatchesSpecSpec : ChangeSpec := { name := "forgeRootMatchesSpec", fn := fun _ => fun
  | [d1, d2, d3] => { results := [.lit (.bool true)], args := [d1, d2, d3] }
  | _ => none }
def forgeRootMatchesSpecRow : OpenClaim := { program := "ytkcnbopeghkdlaagreatdoor", sum := "44d2de240a920357eef06746df97515a9635ef7aa1d9f4dfcf4407d27b4ac7b9", func := "changeforge/changeforgelaw2.ForgeRootMatchesSpec", spec := "forgeRootMatchesSpec", inPlace := ["internal/bytealg.IndexByteString", "internal/bytealg.IndexString", "internal/bytealg.abigen_runtime_cmpstring", "slices.overlaps[changeforge/api.File]", "slices.overlaps[changeforge/forge.message]"], unfollowed := true, recurses := true, named := ["unicode/utf8.first", "unicode/utf8.acceptRanges", "internal/bytealg.MaxLen"], apart := false, laid := [("unicode/utf8.acceptRanges", laid_unicode_utf8_acceptRanges), ("unicode/utf8.first", laid_unicode_utf8_first)] }
def ForgeRootMatchesSpecSaid : Prop := forgeRootMatchesSpecRow.holds Tryz.pinned (OpenSpec.ofChange forgeRootMatchesSpecSpec)

/-- ITS FALSE NEIGHBOUR: 'it returns false'. Refute it at one input. -/
def forgeRootMatchesSpecWrong : ChangeSpec := { name := "forgeRootMatchesSpec", fn := fun _ => fun
  | [d1, d2, d3] => { results := [.lit (.bool false)], args := [d1, d2, d3] }
  | _ => none }
def ForgeRootMatchesSpecWrongFalsely : Prop := forgeRootMatchesSpecRow.holds Tryz.pinned (OpenSpec.ofChange forgeRootMatchesSpecWrong)

/-- 'changeforgelaw2.ForgeAppendOnly': WHATEVER THE INPUT: true; the input reads as it did. -/
def forgeAppendOnlySpec : ChangeSpec := { name := "forgeAppendOnly", fn := fun _ => fun
  | [d1, d2, d3] => { results := [.lit (.bool true)], args := [d1, d2, d3] }
  | _ => none }
def forgeAppendOnlyRow : OpenClaim := { program := "ytkcnbopeghkdlaagreatdoor", sum := "44d2de240a920357eef06746df97515a9635ef7aa1d9f4dfcf4407d27b4ac7b9", func := "changeforge/changeforgelaw2.ForgeAppendOnly", spec := "forgeAppendOnly", inPlace := ["internal/bytealg.IndexByteString", "internal/bytealg.IndexString", "internal/bytealg.abigen_runtime_cmpstring", "slices.overlaps[changeforge/api.File]", "slices.overlaps[changeforge/forge.message]"], unfollowed := true, recurses := true, named := ["unicode/utf8.first", "unicode/utf8.acceptRanges", "internal/bytealg.MaxLen"], apart := false, laid := [("unicode/utf8.acceptRanges", laid_unicode_utf8_acceptRanges), ("unicode/utf8.first", laid_unicode_utf8_first)] }
def ForgeAppendOnlySaid : Prop := forgeAppendOnlyRow.holds Tryz.pinned (OpenSpec.ofChange forgeAppendOnlySpec)

/-- ITS FALSE NEIGHBOUR: 'it returns false'. Refute it at one input. -/
def forgeAppendOnlyWrong : ChangeSpec := { name := "forgeAppendOnly", fn := fun _ => fun
  | [d1, d2, d3] => { results := [.lit (.bool false)], args := [d1, d2, d3] }
  | _ => none }
def ForgeAppendOnlyWrongFalsely : Prop := forgeAppendOnlyRow.holds Tryz.pinned (OpenSpec.ofChange forgeAppendOnlyWrong)

/-- 'changeforgelaw2.ForgeAudited': WHATEVER THE INPUT: true; the input reads as it did. -/
def forgeAuditedSpec : ChangeSpec := { name := "forgeAudited", fn := fun _ => fun
  | [d1, d2, d3] => { results := [.lit (.bool true)], args := [d1, d2, d3] }
  | _ => none }
def forgeAuditedRow : OpenClaim := { program := "ytkcnbopeghkdlaagreatdoor", sum := "44d2de240a920357eef06746df97515a9635ef7aa1d9f4dfcf4407d27b4ac7b9", func := "changeforge/changeforgelaw2.ForgeAudited", spec := "forgeAudited", inPlace := ["internal/bytealg.IndexByteString", "internal/bytealg.IndexString", "internal/bytealg.abigen_runtime_cmpstring", "slices.overlaps[changeforge/api.File]", "slices.overlaps[changeforge/forge.message]"], unfollowed := true, recurses := true, named := ["unicode/utf8.first", "unicode/utf8.acceptRanges", "internal/bytealg.MaxLen"], apart := false, laid := [("unicode/utf8.acceptRanges", laid_unicode_utf8_acceptRanges), ("unicode/utf8.first", laid_unicode_utf8_first)] }
def ForgeAuditedSaid : Prop := forgeAuditedRow.holds Tryz.pinned (OpenSpec.ofChange forgeAuditedSpec)

/-- ITS FALSE NEIGHBOUR: 'it returns false'. Refute it at one input. -/
def forgeAuditedWrong : ChangeSpec := { name := "forgeAudited", fn := fun _ => fun
  | [d1, d2, d3] => { results := [.lit (.bool false)], args := [d1, d2, d3] }
  | _ => none }
def ForgeAuditedWrongFalsely : Prop := forgeAuditedRow.holds Tryz.pinned (OpenSpec.ofChange forgeAuditedWrong)

/- THE SECOND FORM. 'bulk': how many values and letters a reading holds, each counted each time it is reached (what is shared counts as often as it is met; a slice's spare places count too). A statement '..UptoSaid' is the law's where the arguments, and the package variables that the reading takes, are together of bulk at most 1048576: NARROWER than '..Said'. Prove '..Said' where nothing that the law and all that it calls make is longer than what came in: it says more and counts as full. Else prove '..UptoSaid'. A law counts once. -/
mutual
def uptoBulk {H : Type} : DataW H → Nat
  | .lit (.string bytes) => bytes.length + 1
  | .lit _ => 1
  | .nil => 1
  | .ptr d => uptoBulk d + 1
  | .slice elems spare => uptoBulkAll elems + uptoBulkAll spare + 1
  | .agg parts => uptoBulkAll parts + 1
  | .iface _ d => uptoBulk d + 1
  | .map entries => uptoBulkEntries entries + 1
  | .held _ => 1
def uptoBulkAll {H : Type} : List (DataW H) → Nat
  | [] => 0
  | d :: r => uptoBulk d + uptoBulkAll r
def uptoBulkEntries {H : Type} : List (Lit × DataW H) → Nat
  | [] => 0
  | x :: r => uptoBulkEntry x + uptoBulkEntries r
def uptoBulkEntry {H : Type} : Lit × DataW H → Nat
  | (.string bytes, d) => bytes.length + uptoBulk d + 1
  | (_, d) => uptoBulk d + 1
 end
def uptoSmall : (H : Type) → List (DataW H) → Bool := fun _ ds => decide (uptoBulkAll ds ≤ 1048576)
def OpenSpec.upto (s : _root_.Go.ChangeSpec) : _root_.Go.OpenSpec := { _root_.Go.OpenSpec.ofChange s with cond := some uptoSmall }

/-- 'changeforgelaw2.ForgeRootMatchesSpec', WHERE WHAT IT READS IS OF BULK AT MOST 1048576: true; the input reads as it did. -/
def forgeRootMatchesSpecUptoRow : OpenClaim := { program := "ytkcnbopeghkdlaagreatdoor", sum := "44d2de240a920357eef06746df97515a9635ef7aa1d9f4dfcf4407d27b4ac7b9", func := "changeforge/changeforgelaw2.ForgeRootMatchesSpec", spec := "forgeRootMatchesSpec", inPlace := ["internal/bytealg.IndexByteString", "internal/bytealg.IndexString", "internal/bytealg.abigen_runtime_cmpstring", "slices.overlaps[changeforge/api.File]", "slices.overlaps[changeforge/forge.message]"], unfollowed := true, recurses := true, named := ["unicode/utf8.first", "unicode/utf8.acceptRanges", "internal/bytealg.MaxLen"], apart := false, laid := [("unicode/utf8.acceptRanges", laid_unicode_utf8_acceptRanges), ("unicode/utf8.first", laid_unicode_utf8_first)], narrowed := true }
def ForgeRootMatchesSpecUptoSaid : Prop := forgeRootMatchesSpecUptoRow.holds Tryz.pinned (OpenSpec.upto forgeRootMatchesSpecSpec)

/-- 'changeforgelaw2.ForgeAppendOnly', WHERE WHAT IT READS IS OF BULK AT MOST 1048576: true; the input reads as it did. -/
def forgeAppendOnlyUptoRow : OpenClaim := { program := "ytkcnbopeghkdlaagreatdoor", sum := "44d2de240a920357eef06746df97515a9635ef7aa1d9f4dfcf4407d27b4ac7b9", func := "changeforge/changeforgelaw2.ForgeAppendOnly", spec := "forgeAppendOnly", inPlace := ["internal/bytealg.IndexByteString", "internal/bytealg.IndexString", "internal/bytealg.abigen_runtime_cmpstring", "slices.overlaps[changeforge/api.File]", "slices.overlaps[changeforge/forge.message]"], unfollowed := true, recurses := true, named := ["unicode/utf8.first", "unicode/utf8.acceptRanges", "internal/bytealg.MaxLen"], apart := false, laid := [("unicode/utf8.acceptRanges", laid_unicode_utf8_acceptRanges), ("unicode/utf8.first", laid_unicode_utf8_first)], narrowed := true }
def ForgeAppendOnlyUptoSaid : Prop := forgeAppendOnlyUptoRow.holds Tryz.pinned (OpenSpec.upto forgeAppendOnlySpec)

/-- 'changeforgelaw2.ForgeAudited', WHERE WHAT IT READS IS OF BULK AT MOST 1048576: true; the input reads as it did. -/
def forgeAuditedUptoRow : OpenClaim := { program := "ytkcnbopeghkdlaagreatdoor", sum := "44d2de240a920357eef06746df97515a9635ef7aa1d9f4dfcf4407d27b4ac7b9", func := "changeforge/changeforgelaw2.ForgeAudited", spec := "forgeAudited", inPlace := ["internal/bytealg.IndexByteString", "internal/bytealg.IndexString", "internal/bytealg.abigen_runtime_cmpstring", "slices.overlaps[changeforge/api.File]", "slices.overlaps[changeforge/forge.message]"], unfollowed := true, recurses := true, named := ["unicode/utf8.first", "unicode/utf8.acceptRanges", "internal/bytealg.MaxLen"], apart := false, laid := [("unicode/utf8.acceptRanges", laid_unicode_utf8_acceptRanges), ("unicode/utf8.first", laid_unicode_utf8_first)], narrowed := true }
def ForgeAuditedUptoSaid : Prop := forgeAuditedUptoRow.holds Tryz.pinned (OpenSpec.upto forgeAuditedSpec)

end Rows
end Go.Proofs.YtkcnbopeghkdlaaGreatDoor
