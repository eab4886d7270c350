/-
  NARROWER THAN 'FOR EVERY INPUT', by the rows' own cells (each row's printed sentence says how): TreecommuteMergeMatchesSpec: laid · TreecommuteMergeSymmetric: laid · TreecommuteMergeOneSided: laid · TreecommuteMergeValid: laid · TreecommuteMergeTexts: laid · TreepatchDerivedMatchesSpec: laid · TreepatchRenameDetected: laid.
  DERIVED. THE GIVEN ROWS OF THIS SEAT. 7 by the template 'for every input the law returns true; each argument reads behind the call as it read before'; 0 by the template 'total and deterministic' (their statements: YtmhjcomgbfonfaaGreatDoorTotals.lean).
  GIVEN WITH THE SEED: the statements are not yours to turn. If you find one false, say at which input.
  Laid BY PROGRAM, IN A SANDBOX (cutbox-rows.mjs): the forced cells as the released guide's own fill.sh prints them over the translation e3e6da8ecf4aa2f2… (all of the seat's roots in one cut). By AI agents, Wed Nov 11 2026. No macro, syntax, notation, axiom, sorry.
-/
import Derived.Test.YtmhjcomgbfonfaaGreatDoorChecked
import GoSem.PinnedTables
import GoSem.Claim
import GoSem.ClaimJoined
import GoSem.ClaimMapViews
import Derived.JoinedTies
import Derived.KernelRfl
namespace Go.Proofs.YtmhjcomgbfonfaaGreatDoor
/- THE CELL 'sum', in the pinned program and in every row, IS THE sha256 OF THE DUMP (.gsa) THAT YtmhjcomgbfonfaaGreatDoorProg.lean LOADS. Nothing in Lean hashes anything: it is a label: what it is worth is what the hold of that sum in a sandbox is worth. -/
noncomputable def Tryz.pinned : Pinned := { name := "ytmhjcomgbfonfaagreatdoor", sum := "e3e6da8ecf4aa2f27ae962b4d603a720e74c15569a2403da003403f97f1f6936", checked := Tryz.checked }
namespace Rows
def none {H : Type} : Left H := { results := [], args := [] }

/- WHAT THE LISTED PACKAGE-LEVEL VARIABLES READ AS WHEN THE CALL BEGINS. Each datum BY PROGRAM (the guide's laid-datum.mjs) off the statement by which the dump's own 'gosem.cut.vars' lays the variable. In a bare row this is a premise. The card (YtmhjcomgbfonfaaGreatDoorCards.lean) ties it to the program's text. -/
def laid_unicode_utf8_acceptRanges {H : Type} : DataW H := .agg [.agg [.lit (.int .u8 128), .lit (.int .u8 191)], .agg [.lit (.int .u8 160), .lit (.int .u8 191)], .agg [.lit (.int .u8 128), .lit (.int .u8 159)], .agg [.lit (.int .u8 144), .lit (.int .u8 191)], .agg [.lit (.int .u8 128), .lit (.int .u8 143)], .agg [.lit (.int .u8 0), .lit (.int .u8 0)], .agg [.lit (.int .u8 0), .lit (.int .u8 0)], .agg [.lit (.int .u8 0), .lit (.int .u8 0)], .agg [.lit (.int .u8 0), .lit (.int .u8 0)], .agg [.lit (.int .u8 0), .lit (.int .u8 0)], .agg [.lit (.int .u8 0), .lit (.int .u8 0)], .agg [.lit (.int .u8 0), .lit (.int .u8 0)], .agg [.lit (.int .u8 0), .lit (.int .u8 0)], .agg [.lit (.int .u8 0), .lit (.int .u8 0)], .agg [.lit (.int .u8 0), .lit (.int .u8 0)], .agg [.lit (.int .u8 0), .lit (.int .u8 0)]]
/-- One of Go's own tables, pinned by name: the form's constant. -/
def laid_unicode_utf8_first : DataW Unit := Go.Pinned.utf8First

/-- 'changeforgelaw2.TreecommuteMergeMatchesSpec': WHATEVER THE INPUT: true; the input reads as it did. -/
def treecommuteMergeMatchesSpecSpec : ChangeSpec := { name := "treecommuteMergeMatchesSpec", fn := fun _ => fun
  | [d1, d2, d3] => { results := [.lit (.bool true)], args := [d1, d2, d3] }
  | _ => none }
def treecommuteMergeMatchesSpecRow : OpenClaim := { program := "ytmhjcomgbfonfaagreatdoor", sum := "e3e6da8ecf4aa2f27ae962b4d603a720e74c15569a2403da003403f97f1f6936", func := "changeforge/changeforgelaw2.TreecommuteMergeMatchesSpec", spec := "treecommuteMergeMatchesSpec", inPlace := ["internal/bytealg.IndexByteString", "internal/bytealg.IndexString", "internal/bytealg.abigen_runtime_cmpstring", "slices.overlaps[changeforge/api.File]"], unfollowed := true, recurses := true, named := ["unicode/utf8.first", "unicode/utf8.acceptRanges", "internal/bytealg.MaxLen"], apart := false, laid := [("unicode/utf8.acceptRanges", laid_unicode_utf8_acceptRanges), ("unicode/utf8.first", laid_unicode_utf8_first)] }
def TreecommuteMergeMatchesSpecSaid : Prop := treecommuteMergeMatchesSpecRow.holds Tryz.pinned (OpenSpec.ofChange treecommuteMergeMatchesSpecSpec)

/-- ITS FALSE NEIGHBOUR: 'it returns false'. Refute it at one input. -/
def treecommuteMergeMatchesSpecWrong : ChangeSpec := { name := "treecommuteMergeMatchesSpec", fn := fun _ => fun
  | [d1, d2, d3] => { results := [.lit (.bool false)], args := [d1, d2, d3] }
  | _ => none }
def TreecommuteMergeMatchesSpecWrongFalsely : Prop := treecommuteMergeMatchesSpecRow.holds Tryz.pinned (OpenSpec.ofChange treecommuteMergeMatchesSpecWrong)

/-- 'changeforgelaw2.TreecommuteMergeSymmetric': WHATEVER THE INPUT: true; the input reads as it did. -/
def treecommuteMergeSymmetricSpec : ChangeSpec := { name := "treecommuteMergeSymmetric", fn := fun _ => fun
  | [d1, d2, d3] => { results := [.lit (.bool true)], args := [d1, d2, d3] }
  | _ => none }
def treecommuteMergeSymmetricRow : OpenClaim := { program := "ytmhjcomgbfonfaagreatdoor", sum := "e3e6da8ecf4aa2f27ae962b4d603a720e74c15569a2403da003403f97f1f6936", func := "changeforge/changeforgelaw2.TreecommuteMergeSymmetric", spec := "treecommuteMergeSymmetric", inPlace := ["internal/bytealg.IndexByteString", "internal/bytealg.IndexString", "internal/bytealg.abigen_runtime_cmpstring", "slices.overlaps[changeforge/api.File]"], unfollowed := true, recurses := true, named := ["unicode/utf8.first", "unicode/utf8.acceptRanges", "internal/bytealg.MaxLen"], apart := false, laid := [("unicode/utf8.acceptRanges", laid_unicode_utf8_acceptRanges), ("unicode/utf8.first", laid_unicode_utf8_first)] }
def TreecommuteMergeSymmetricSaid : Prop := treecommuteMergeSymmetricRow.holds Tryz.pinned (OpenSpec.ofChange treecommuteMergeSymmetricSpec)

/-- ITS FALSE NEIGHBOUR: 'it returns false'. Refute it at one input. -/
def treecommuteMergeSymmetricWrong : ChangeSpec := { name := "treecommuteMergeSymmetric", fn := fun _ => fun
  | [d1, d2, d3] => { results := [.lit (.bool false)], args := [d1, d2, d3] }
  | _ => none }
def TreecommuteMergeSymmetricWrongFalsely : Prop := treecommuteMergeSymmetricRow.holds Tryz.pinned (OpenSpec.ofChange treecommuteMergeSymmetricWrong)

/-- 'changeforgelaw2.TreecommuteMergeOneSided': WHATEVER THE INPUT: true; the input reads as it did. -/
def treecommuteMergeOneSidedSpec : ChangeSpec := { name := "treecommuteMergeOneSided", fn := fun _ => fun
  | [d1, d2] => { results := [.lit (.bool true)], args := [d1, d2] }
  | _ => none }
def treecommuteMergeOneSidedRow : OpenClaim := { program := "ytmhjcomgbfonfaagreatdoor", sum := "e3e6da8ecf4aa2f27ae962b4d603a720e74c15569a2403da003403f97f1f6936", func := "changeforge/changeforgelaw2.TreecommuteMergeOneSided", spec := "treecommuteMergeOneSided", inPlace := ["internal/bytealg.IndexByteString", "internal/bytealg.IndexString", "internal/bytealg.abigen_runtime_cmpstring", "slices.overlaps[changeforge/api.File]"], unfollowed := true, recurses := true, named := ["unicode/utf8.first", "unicode/utf8.acceptRanges", "internal/bytealg.MaxLen"], apart := false, laid := [("unicode/utf8.acceptRanges", laid_unicode_utf8_acceptRanges), ("unicode/utf8.first", laid_unicode_utf8_first)] }
def TreecommuteMergeOneSidedSaid : Prop := treecommuteMergeOneSidedRow.holds Tryz.pinned (OpenSpec.ofChange treecommuteMergeOneSidedSpec)

/-- ITS FALSE NEIGHBOUR: 'it returns false'. Refute it at one input. -/
def treecommuteMergeOneSidedWrong : ChangeSpec := { name := "treecommuteMergeOneSided", fn := fun _ => fun
  | [d1, d2] => { results := [.lit (.bool false)], args := [d1, d2] }
  | _ => none }
def TreecommuteMergeOneSidedWrongFalsely : Prop := treecommuteMergeOneSidedRow.holds Tryz.pinned (OpenSpec.ofChange treecommuteMergeOneSidedWrong)

/-- 'changeforgelaw2.TreecommuteMergeValid': WHATEVER THE INPUT: true; the input reads as it did. -/
def treecommuteMergeValidSpec : ChangeSpec := { name := "treecommuteMergeValid", fn := fun _ => fun
  | [d1, d2, d3] => { results := [.lit (.bool true)], args := [d1, d2, d3] }
  | _ => none }
def treecommuteMergeValidRow : OpenClaim := { program := "ytmhjcomgbfonfaagreatdoor", sum := "e3e6da8ecf4aa2f27ae962b4d603a720e74c15569a2403da003403f97f1f6936", func := "changeforge/changeforgelaw2.TreecommuteMergeValid", spec := "treecommuteMergeValid", inPlace := ["internal/bytealg.IndexByteString", "internal/bytealg.IndexString", "internal/bytealg.abigen_runtime_cmpstring", "slices.overlaps[changeforge/api.File]"], unfollowed := true, recurses := true, named := ["unicode/utf8.first", "unicode/utf8.acceptRanges", "internal/bytealg.MaxLen"], apart := false, laid := [("unicode/utf8.acceptRanges", laid_unicode_utf8_acceptRanges), ("unicode/utf8.first", laid_unicode_utf8_first)] }
def TreecommuteMergeValidSaid : Prop := treecommuteMergeValidRow.holds Tryz.pinned (OpenSpec.ofChange treecommuteMergeValidSpec)

/-- ITS FALSE NEIGHBOUR: 'it returns false'. Refute it at one input. -/
def treecommuteMergeValidWrong : ChangeSpec := { name := "treecommuteMergeValid", fn := fun _ => fun
  | [d1, d2, d3] => { results := [.lit (.bool false)], args := [d1, d2, d3] }
  | _ => none }
def TreecommuteMergeValidWrongFalsely : Prop := treecommuteMergeValidRow.holds Tryz.pinned (OpenSpec.ofChange treecommuteMergeValidWrong)

/-- 'changeforgelaw2.TreecommuteMergeTexts': WHATEVER THE INPUT: true; the input reads as it did. -/
def treecommuteMergeTextsSpec : ChangeSpec := { name := "treecommuteMergeTexts", fn := fun _ => fun
  | [d1, d2, d3, d4] => { results := [.lit (.bool true)], args := [d1, d2, d3, d4] }
  | _ => none }
def treecommuteMergeTextsRow : OpenClaim := { program := "ytmhjcomgbfonfaagreatdoor", sum := "e3e6da8ecf4aa2f27ae962b4d603a720e74c15569a2403da003403f97f1f6936", func := "changeforge/changeforgelaw2.TreecommuteMergeTexts", spec := "treecommuteMergeTexts", inPlace := ["internal/bytealg.IndexByteString", "internal/bytealg.IndexString", "internal/bytealg.abigen_runtime_cmpstring", "slices.overlaps[changeforge/api.File]"], unfollowed := true, recurses := true, named := ["unicode/utf8.first", "unicode/utf8.acceptRanges", "internal/bytealg.MaxLen"], apart := false, laid := [("unicode/utf8.acceptRanges", laid_unicode_utf8_acceptRanges), ("unicode/utf8.first", laid_unicode_utf8_first)] }
def TreecommuteMergeTextsSaid : Prop := treecommuteMergeTextsRow.holds Tryz.pinned (OpenSpec.ofChange treecommuteMergeTextsSpec)

/-- ITS FALSE NEIGHBOUR: 'it returns false'. Refute it at one input. -/
def treecommuteMergeTextsWrong : ChangeSpec := { name := "treecommuteMergeTexts", fn := fun _ => fun
  | [d1, d2, d3, d4] => { results := [.lit (.bool false)], args := [d1, d2, d3, d4] }
  | _ => none }
def TreecommuteMergeTextsWrongFalsely : Prop := treecommuteMergeTextsRow.holds Tryz.pinned (OpenSpec.ofChange treecommuteMergeTextsWrong)

/-- 'changeforgelaw2.TreepatchDerivedMatchesSpec': WHATEVER THE INPUT: true; the input reads as it did. -/
def treepatchDerivedMatchesSpecSpec : ChangeSpec := { name := "treepatchDerivedMatchesSpec", fn := fun _ => fun
  | [d1, d2, d3] => { results := [.lit (.bool true)], args := [d1, d2, d3] }
  | _ => none }
def treepatchDerivedMatchesSpecRow : OpenClaim := { program := "ytmhjcomgbfonfaagreatdoor", sum := "e3e6da8ecf4aa2f27ae962b4d603a720e74c15569a2403da003403f97f1f6936", func := "changeforge/changeforgelaw2.TreepatchDerivedMatchesSpec", spec := "treepatchDerivedMatchesSpec", inPlace := ["internal/bytealg.IndexByteString", "internal/bytealg.IndexString", "internal/bytealg.abigen_runtime_cmpstring", "slices.overlaps[changeforge/api.File]"], unfollowed := true, recurses := true, named := ["unicode/utf8.first", "unicode/utf8.acceptRanges", "internal/bytealg.MaxLen"], apart := false, laid := [("unicode/utf8.acceptRanges", laid_unicode_utf8_acceptRanges), ("unicode/utf8.first", laid_unicode_utf8_first)] }
def TreepatchDerivedMatchesSpecSaid : Prop := treepatchDerivedMatchesSpecRow.holds Tryz.pinned (OpenSpec.ofChange treepatchDerivedMatchesSpecSpec)

/-- ITS FALSE NEIGHBOUR: 'it returns false'. Refute it at one input. -/
def treepatchDerivedMatchesSpecWrong : ChangeSpec := { name := "treepatchDerivedMatchesSpec", fn := fun _ => fun
  | [d1, d2, d3] => { results := [.lit (.bool false)], args := [d1, d2, d3] }
  | _ => none }
def TreepatchDerivedMatchesSpecWrongFalsely : Prop := treepatchDerivedMatchesSpecRow.holds Tryz.pinned (OpenSpec.ofChange treepatchDerivedMatchesSpecWrong)

/-- 'changeforgelaw2.TreepatchRenameDetected': WHATEVER THE INPUT: true; the input reads as it did. -/
def treepatchRenameDetectedSpec : ChangeSpec := { name := "treepatchRenameDetected", fn := fun _ => fun
  | [d1, d2, d3, d4] => { results := [.lit (.bool true)], args := [d1, d2, d3, d4] }
  | _ => none }
def treepatchRenameDetectedRow : OpenClaim := { program := "ytmhjcomgbfonfaagreatdoor", sum := "e3e6da8ecf4aa2f27ae962b4d603a720e74c15569a2403da003403f97f1f6936", func := "changeforge/changeforgelaw2.TreepatchRenameDetected", spec := "treepatchRenameDetected", inPlace := ["internal/bytealg.IndexByteString", "internal/bytealg.IndexString", "internal/bytealg.abigen_runtime_cmpstring", "slices.overlaps[changeforge/api.File]"], unfollowed := true, recurses := true, named := ["unicode/utf8.first", "unicode/utf8.acceptRanges", "internal/bytealg.MaxLen"], apart := false, laid := [("unicode/utf8.acceptRanges", laid_unicode_utf8_acceptRanges), ("unicode/utf8.first", laid_unicode_utf8_first)] }
def TreepatchRenameDetectedSaid : Prop := treepatchRenameDetectedRow.holds Tryz.pinned (OpenSpec.ofChange treepatchRenameDetectedSpec)

/-- ITS FALSE NEIGHBOUR: 'it returns false'. Refute it at one input. -/
def treepatchRenameDetectedWrong : ChangeSpec := { name := "treepatchRenameDetected", fn := fun _ => fun
  | [d1, d2, d3, d4] => { results := [.lit (.bool false)], args := [d1, d2, d3, d4] }
  | _ => none }
def TreepatchRenameDetectedWrongFalsely : Prop := treepatchRenameDetectedRow.holds Tryz.pinned (OpenSpec.ofChange treepatchRenameDetectedWrong)

/- THE SECOND FORM. 'bulk': how many values and letters a reading holds, each counted each time it is reached (what is shared counts as often as it is met; a slice's spare places count too). A statement '..UptoSaid' is the law's where the arguments, and the package variables that the reading takes, are together of bulk at most 1048576: NARROWER than '..Said'. Prove '..Said' where nothing that the law and all that it calls make is longer than what came in: it says more and counts as full. Else prove '..UptoSaid'. A law counts once. -/
mutual
def uptoBulk {H : Type} : DataW H → Nat
  | .lit (.string bytes) => bytes.length + 1
  | .lit _ => 1
  | .nil => 1
  | .ptr d => uptoBulk d + 1
  | .slice elems spare => uptoBulkAll elems + uptoBulkAll spare + 1
  | .agg parts => uptoBulkAll parts + 1
  | .iface _ d => uptoBulk d + 1
  | .map entries => uptoBulkEntries entries + 1
  | .held _ => 1
def uptoBulkAll {H : Type} : List (DataW H) → Nat
  | [] => 0
  | d :: r => uptoBulk d + uptoBulkAll r
def uptoBulkEntries {H : Type} : List (Lit × DataW H) → Nat
  | [] => 0
  | x :: r => uptoBulkEntry x + uptoBulkEntries r
def uptoBulkEntry {H : Type} : Lit × DataW H → Nat
  | (.string bytes, d) => bytes.length + uptoBulk d + 1
  | (_, d) => uptoBulk d + 1
 end
def uptoSmall : (H : Type) → List (DataW H) → Bool := fun _ ds => decide (uptoBulkAll ds ≤ 1048576)
def OpenSpec.upto (s : _root_.Go.ChangeSpec) : _root_.Go.OpenSpec := { _root_.Go.OpenSpec.ofChange s with cond := some uptoSmall }

/-- 'changeforgelaw2.TreecommuteMergeMatchesSpec', WHERE WHAT IT READS IS OF BULK AT MOST 1048576: true; the input reads as it did. -/
def treecommuteMergeMatchesSpecUptoRow : OpenClaim := { program := "ytmhjcomgbfonfaagreatdoor", sum := "e3e6da8ecf4aa2f27ae962b4d603a720e74c15569a2403da003403f97f1f6936", func := "changeforge/changeforgelaw2.TreecommuteMergeMatchesSpec", spec := "treecommuteMergeMatchesSpec", inPlace := ["internal/bytealg.IndexByteString", "internal/bytealg.IndexString", "internal/bytealg.abigen_runtime_cmpstring", "slices.overlaps[changeforge/api.File]"], unfollowed := true, recurses := true, named := ["unicode/utf8.first", "unicode/utf8.acceptRanges", "internal/bytealg.MaxLen"], apart := false, laid := [("unicode/utf8.acceptRanges", laid_unicode_utf8_acceptRanges), ("unicode/utf8.first", laid_unicode_utf8_first)], narrowed := true }
def TreecommuteMergeMatchesSpecUptoSaid : Prop := treecommuteMergeMatchesSpecUptoRow.holds Tryz.pinned (OpenSpec.upto treecommuteMergeMatchesSpecSpec)

/-- 'changeforgelaw2.TreecommuteMergeSymmetric', WHERE WHAT IT READS IS OF BULK AT MOST 1048576: true; the input reads as it did. -/
def treecommuteMergeSymmetricUptoRow : OpenClaim := { program := "ytmhjcomgbfonfaagreatdoor", sum := "e3e6da8ecf4aa2f27ae962b4d603a720e74c15569a2403da003403f97f1f6936", func := "changeforge/changeforgelaw2.TreecommuteMergeSymmetric", spec := "treecommuteMergeSymmetric", inPlace := ["internal/bytealg.IndexByteString", "internal/bytealg.IndexString", "internal/bytealg.abigen_runtime_cmpstring", "slices.overlaps[changeforge/api.File]"], unfollowed := true, recurses := true, named := ["unicode/utf8.first", "unicode/utf8.acceptRanges", "internal/bytealg.MaxLen"], apart := false, laid := [("unicode/utf8.acceptRanges", laid_unicode_utf8_acceptRanges), ("unicode/utf8.first", laid_unicode_utf8_first)], narrowed := true }
def TreecommuteMergeSymmetricUptoSaid : Prop := treecommuteMergeSymmetricUptoRow.holds Tryz.pinned (OpenSpec.upto treecommuteMergeSymmetricSpec)

/-- 'changeforgelaw2.TreecommuteMergeOneSided', WHERE WHAT IT READS IS OF BULK AT MOST 1048576: true; the input reads as it did. -/
def treecommuteMergeOneSidedUptoRow : OpenClaim := { program := "ytmhjcomgbfonfaagreatdoor", sum := "e3e6da8ecf4aa2f27ae962b4d603a720e74c15569a2403da003403f97f1f6936", func := "changeforge/changeforgelaw2.TreecommuteMergeOneSided", spec := "treecommuteMergeOneSided", inPlace := ["internal/bytealg.IndexByteString", "internal/bytealg.IndexString", "internal/bytealg.abigen_runtime_cmpstring", "slices.overlaps[changeforge/api.File]"], unfollowed := true, recurses := true, named := ["unicode/utf8.first", "unicode/utf8.acceptRanges", "internal/bytealg.MaxLen"], apart := false, laid := [("unicode/utf8.acceptRanges", laid_unicode_utf8_acceptRanges), ("unicode/utf8.first", laid_unicode_utf8_first)], narrowed := true }
def TreecommuteMergeOneSidedUptoSaid : Prop := treecommuteMergeOneSidedUptoRow.holds Tryz.pinned (OpenSpec.upto treecommuteMergeOneSidedSpec)

/-- 'changeforgelaw2.TreecommuteMergeValid', WHERE WHAT IT READS IS OF BULK AT MOST 1048576: true; the input reads as it did. -/
def treecommuteMergeValidUptoRow : OpenClaim := { program := "ytmhjcomgbfonfaagreatdoor", sum := "e3e6da8ecf4aa2f27ae962b4d603a720e74c15569a2403da003403f97f1f6936", func := "changeforge/changeforgelaw2.TreecommuteMergeValid", spec := "treecommuteMergeValid", inPlace := ["internal/bytealg.IndexByteString", "internal/bytealg.IndexString", "internal/bytealg.abigen_runtime_cmpstring", "slices.overlaps[changeforge/api.File]"], unfollowed := true, recurses := true, named := ["unicode/utf8.first", "unicode/utf8.acceptRanges", "internal/bytealg.MaxLen"], apart := false, laid := [("unicode/utf8.acceptRanges", laid_unicode_utf8_acceptRanges), ("unicode/utf8.first", laid_unicode_utf8_first)], narrowed := true }
def TreecommuteMergeValidUptoSaid : Prop := treecommuteMergeValidUptoRow.holds Tryz.pinned (OpenSpec.upto treecommuteMergeValidSpec)

/-- 'changeforgelaw2.TreecommuteMergeTexts', WHERE WHAT IT READS IS OF BULK AT MOST 1048576: true; the input reads as it did. -/
def treecommuteMergeTextsUptoRow : OpenClaim := { program := "ytmhjcomgbfonfaagreatdoor", sum := "e3e6da8ecf4aa2f27ae962b4d603a720e74c15569a2403da003403f97f1f6936", func := "changeforge/changeforgelaw2.TreecommuteMergeTexts", spec := "treecommuteMergeTexts", inPlace := ["internal/bytealg.IndexByteString", "internal/bytealg.IndexString", "internal/bytealg.abigen_runtime_cmpstring", "slices.overlaps[changeforge/api.File]"], unfollowed := true, recurses := true, named := ["unicode/utf8.first", "unicode/utf8.acceptRanges", "internal/bytealg.MaxLen"], apart := false, laid := [("unicode/utf8.acceptRanges", laid_unicode_utf8_acceptRanges), ("unicode/utf8.first", laid_unicode_utf8_first)], narrowed := true }
def TreecommuteMergeTextsUptoSaid : Prop := treecommuteMergeTextsUptoRow.holds Tryz.pinned (OpenSpec.upto treecommuteMergeTextsSpec)

/-- 'changeforgelaw2.TreepatchDerivedMatchesSpec', WHERE WHAT IT READS IS OF BULK AT MOST 1048576: true; the input reads as it did. -/
def treepatchDerivedMatchesSpecUptoRow : OpenClaim := { program := "ytmhjcomgbfonfaagreatdoor", sum := "e3e6da8ecf4aa2f27ae962b4d603a720e74c15569a2403da003403f97f1f6936", func := "changeforge/changeforgelaw2.TreepatchDerivedMatchesSpec", spec := "treepatchDerivedMatchesSpec", inPlace := ["internal/bytealg.IndexByteString", "internal/bytealg.IndexString", "internal/bytealg.abigen_runtime_cmpstring", "slices.overlaps[changeforge/api.File]"], unfollowed := true, recurses := true, named := ["unicode/utf8.first", "unicode/utf8.acceptRanges", "internal/bytealg.MaxLen"], apart := false, laid := [("unicode/utf8.acceptRanges", laid_unicode_utf8_acceptRanges), ("unicode/utf8.first", laid_unicode_utf8_first)], narrowed := true }
def TreepatchDerivedMatchesSpecUptoSaid : Prop := treepatchDerivedMatchesSpecUptoRow.holds Tryz.pinned (OpenSpec.upto treepatchDerivedMatchesSpecSpec)

/-- 'changeforgelaw2.TreepatchRenameDetected', WHERE WHAT IT READS IS OF BULK AT MOST 1048576: true; the input reads as it did. -/
def treepatchRenameDetectedUptoRow : OpenClaim := { program := "ytmhjcomgbfonfaagreatdoor", sum := "e3e6da8ecf4aa2f27ae962b4d603a720e74c15569a2403da003403f97f1f6936", func := "changeforge/changeforgelaw2.TreepatchRenameDetected", spec := "treepatchRenameDetected", inPlace := ["internal/bytealg.IndexByteString", "internal/bytealg.IndexString", "internal/bytealg.abigen_runtime_cmpstring", "slices.overlaps[changeforge/api.File]"], unfollowed := true, recurses := true, named := ["unicode/utf8.first", "unicode/utf8.acceptRanges", "internal/bytealg.MaxLen"], apart := false, laid := [("unicode/utf8.acceptRanges", laid_unicode_utf8_acceptRanges), ("unicode/utf8.first", laid_unicode_utf8_first)], narrowed := true }
def TreepatchRenameDetectedUptoSaid : Prop := treepatchRenameDetectedUptoRow.holds Tryz.pinned (OpenSpec.upto treepatchRenameDetectedSpec)

end Rows
end Go.Proofs.YtmhjcomgbfonfaaGreatDoor
