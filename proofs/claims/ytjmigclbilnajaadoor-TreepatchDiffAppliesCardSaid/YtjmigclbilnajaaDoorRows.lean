/-
  NARROWER THAN 'FOR EVERY INPUT', by the rows' own cells (each row's printed sentence says how): TreecommuteMatchesSpec: laid · TreecommuteTwice: laid · TreecommuteDistance: laid · TreepatchMatchesSpec: laid · TreepatchStaysValid: laid · TreepatchSequence: laid · TreepatchUndo: laid · TreepatchDiffApplies: laid · TreecommuteSameEffect: laid.
  DERIVED. THE GIVEN ROWS OF THIS SEAT. 9 by the template 'for every input the law returns true; each argument reads behind the call as it read before'; 0 by the template 'total and deterministic' (their statements: YtjmigclbilnajaaDoorTotals.lean).
  GIVEN WITH THE SEED: the statements are not yours to turn. If you find one false, say at which input.
  Laid BY PROGRAM, IN A SANDBOX (cutbox-rows.mjs): the forced cells as the released guide's own fill.sh prints them over the translation f5a1079e5cc79102… (all of the seat's roots in one cut). By AI agents, Wed Nov 11 2026. No macro, syntax, notation, axiom, sorry.
-/
import Derived.Test.YtjmigclbilnajaaDoorChecked
import GoSem.PinnedTables
import GoSem.Claim
import GoSem.ClaimJoined
import GoSem.ClaimMapViews
import Derived.JoinedTies
import Derived.KernelRfl
namespace Go.Proofs.YtjmigclbilnajaaDoor
/- THE CELL 'sum', in the pinned program and in every row, IS THE sha256 OF THE DUMP (.gsa) THAT YtjmigclbilnajaaDoorProg.lean LOADS. Nothing in Lean hashes anything: it is a label: what it is worth is what the hold of that sum in a sandbox is worth. -/
noncomputable def Tryd.pinned : Pinned := { name := "ytjmigclbilnajaadoor", sum := "f5a1079e5cc79102634df998c74e7cbbc314499a1b6046dc5f5f46f5f9b168c4", checked := Tryd.checked }
namespace Rows
def none {H : Type} : Left H := { results := [], args := [] }

/- WHAT THE LISTED PACKAGE-LEVEL VARIABLES READ AS WHEN THE CALL BEGINS. Each datum BY PROGRAM (the guide's laid-datum.mjs) off the statement by which the dump's own 'gosem.cut.vars' lays the variable. In a bare row this is a premise. The card (YtjmigclbilnajaaDoorCards.lean) ties it to the program's text. -/
def laid_unicode_utf8_acceptRanges {H : Type} : DataW H := .agg [.agg [.lit (.int .u8 128), .lit (.int .u8 191)], .agg [.lit (.int .u8 160), .lit (.int .u8 191)], .agg [.lit (.int .u8 128), .lit (.int .u8 159)], .agg [.lit (.int .u8 144), .lit (.int .u8 191)], .agg [.lit (.int .u8 128), .lit (.int .u8 143)], .agg [.lit (.int .u8 0), .lit (.int .u8 0)], .agg [.lit (.int .u8 0), .lit (.int .u8 0)], .agg [.lit (.int .u8 0), .lit (.int .u8 0)], .agg [.lit (.int .u8 0), .lit (.int .u8 0)], .agg [.lit (.int .u8 0), .lit (.int .u8 0)], .agg [.lit (.int .u8 0), .lit (.int .u8 0)], .agg [.lit (.int .u8 0), .lit (.int .u8 0)], .agg [.lit (.int .u8 0), .lit (.int .u8 0)], .agg [.lit (.int .u8 0), .lit (.int .u8 0)], .agg [.lit (.int .u8 0), .lit (.int .u8 0)], .agg [.lit (.int .u8 0), .lit (.int .u8 0)]]
/-- One of Go's own tables, pinned by name: the form's constant. -/
def laid_unicode_utf8_first : DataW Unit := Go.Pinned.utf8First

/-- 'changeforgelaw2.TreecommuteMatchesSpec': WHATEVER THE INPUT: true; the input reads as it did. -/
def treecommuteMatchesSpecSpec : ChangeSpec := { name := "treecommuteMatchesSpec", fn := fun _ => fun
  | [d1, d2] => { results := [.lit (.bool true)], args := [d1, d2] }
  | _ => none }
def treecommuteMatchesSpecRow : OpenClaim := { program := "ytjmigclbilnajaadoor", sum := "f5a1079e5cc79102634df998c74e7cbbc314499a1b6046dc5f5f46f5f9b168c4", func := "changeforge/changeforgelaw2.TreecommuteMatchesSpec", spec := "treecommuteMatchesSpec", inPlace := ["internal/bytealg.IndexByteString", "internal/bytealg.IndexString"], unfollowed := true, recurses := true, named := ["unicode/utf8.first", "unicode/utf8.acceptRanges", "internal/bytealg.MaxLen"], apart := false, laid := [("unicode/utf8.acceptRanges", laid_unicode_utf8_acceptRanges), ("unicode/utf8.first", laid_unicode_utf8_first)] }
def TreecommuteMatchesSpecSaid : Prop := treecommuteMatchesSpecRow.holds Tryd.pinned (OpenSpec.ofChange treecommuteMatchesSpecSpec)

/-- ITS FALSE NEIGHBOUR: 'it returns false'. Refute it at one input. -/
def treecommuteMatchesSpecWrong : ChangeSpec := { name := "treecommuteMatchesSpec", fn := fun _ => fun
  | [d1, d2] => { results := [.lit (.bool false)], args := [d1, d2] }
  | _ => none }
def TreecommuteMatchesSpecWrongFalsely : Prop := treecommuteMatchesSpecRow.holds Tryd.pinned (OpenSpec.ofChange treecommuteMatchesSpecWrong)

/-- 'changeforgelaw2.TreecommuteTwice': WHATEVER THE INPUT: true; the input reads as it did. -/
def treecommuteTwiceSpec : ChangeSpec := { name := "treecommuteTwice", fn := fun _ => fun
  | [d1, d2] => { results := [.lit (.bool true)], args := [d1, d2] }
  | _ => none }
def treecommuteTwiceRow : OpenClaim := { program := "ytjmigclbilnajaadoor", sum := "f5a1079e5cc79102634df998c74e7cbbc314499a1b6046dc5f5f46f5f9b168c4", func := "changeforge/changeforgelaw2.TreecommuteTwice", spec := "treecommuteTwice", inPlace := ["internal/bytealg.IndexByteString", "internal/bytealg.IndexString"], unfollowed := true, recurses := true, named := ["unicode/utf8.first", "unicode/utf8.acceptRanges", "internal/bytealg.MaxLen"], apart := false, laid := [("unicode/utf8.acceptRanges", laid_unicode_utf8_acceptRanges), ("unicode/utf8.first", laid_unicode_utf8_first)] }
def TreecommuteTwiceSaid : Prop := treecommuteTwiceRow.holds Tryd.pinned (OpenSpec.ofChange treecommuteTwiceSpec)

/-- ITS FALSE NEIGHBOUR: 'it returns false'. Refute it at one input. -/
def treecommuteTwiceWrong : ChangeSpec := { name := "treecommuteTwice", fn := fun _ => fun
  | [d1, d2] => { results := [.lit (.bool false)], args := [d1, d2] }
  | _ => none }
def TreecommuteTwiceWrongFalsely : Prop := treecommuteTwiceRow.holds Tryd.pinned (OpenSpec.ofChange treecommuteTwiceWrong)

/-- 'changeforgelaw2.TreecommuteDistance': WHATEVER THE INPUT: true; the input reads as it did. -/
def treecommuteDistanceSpec : ChangeSpec := { name := "treecommuteDistance", fn := fun _ => fun
  | [d1, d2, d3, d4] => { results := [.lit (.bool true)], args := [d1, d2, d3, d4] }
  | _ => none }
def treecommuteDistanceRow : OpenClaim := { program := "ytjmigclbilnajaadoor", sum := "f5a1079e5cc79102634df998c74e7cbbc314499a1b6046dc5f5f46f5f9b168c4", func := "changeforge/changeforgelaw2.TreecommuteDistance", spec := "treecommuteDistance", inPlace := ["internal/bytealg.IndexByteString", "internal/bytealg.IndexString"], unfollowed := true, recurses := true, named := ["unicode/utf8.first", "unicode/utf8.acceptRanges", "internal/bytealg.MaxLen"], apart := false, laid := [("unicode/utf8.acceptRanges", laid_unicode_utf8_acceptRanges), ("unicode/utf8.first", laid_unicode_utf8_first)] }
def TreecommuteDistanceSaid : Prop := treecommuteDistanceRow.holds Tryd.pinned (OpenSpec.ofChange treecommuteDistanceSpec)

/-- ITS FALSE NEIGHBOUR: 'it returns false'. Refute it at one input. -/
def treecommuteDistanceWrong : ChangeSpec := { name := "treecommuteDistance", fn := fun _ => fun
  | [d1, d2, d3, d4] => { results := [.lit (.bool false)], args := [d1, d2, d3, d4] }
  | _ => none }
def TreecommuteDistanceWrongFalsely : Prop := treecommuteDistanceRow.holds Tryd.pinned (OpenSpec.ofChange treecommuteDistanceWrong)

/-- 'changeforgelaw2.TreepatchMatchesSpec': WHATEVER THE INPUT: true; the input reads as it did. -/
def treepatchMatchesSpecSpec : ChangeSpec := { name := "treepatchMatchesSpec", fn := fun _ => fun
  | [d1, d2, d3] => { results := [.lit (.bool true)], args := [d1, d2, d3] }
  | _ => none }
def treepatchMatchesSpecRow : OpenClaim := { program := "ytjmigclbilnajaadoor", sum := "f5a1079e5cc79102634df998c74e7cbbc314499a1b6046dc5f5f46f5f9b168c4", func := "changeforge/changeforgelaw2.TreepatchMatchesSpec", spec := "treepatchMatchesSpec", inPlace := ["internal/bytealg.IndexByteString", "internal/bytealg.IndexString", "internal/bytealg.abigen_runtime_cmpstring", "slices.overlaps[changeforge/api.File]"], unfollowed := true, recurses := true, named := ["unicode/utf8.first", "unicode/utf8.acceptRanges", "internal/bytealg.MaxLen"], apart := false, laid := [("unicode/utf8.acceptRanges", laid_unicode_utf8_acceptRanges), ("unicode/utf8.first", laid_unicode_utf8_first)] }
def TreepatchMatchesSpecSaid : Prop := treepatchMatchesSpecRow.holds Tryd.pinned (OpenSpec.ofChange treepatchMatchesSpecSpec)

/-- ITS FALSE NEIGHBOUR: 'it returns false'. Refute it at one input. -/
def treepatchMatchesSpecWrong : ChangeSpec := { name := "treepatchMatchesSpec", fn := fun _ => fun
  | [d1, d2, d3] => { results := [.lit (.bool false)], args := [d1, d2, d3] }
  | _ => none }
def TreepatchMatchesSpecWrongFalsely : Prop := treepatchMatchesSpecRow.holds Tryd.pinned (OpenSpec.ofChange treepatchMatchesSpecWrong)

/-- 'changeforgelaw2.TreepatchStaysValid': WHATEVER THE INPUT: true; the input reads as it did. -/
def treepatchStaysValidSpec : ChangeSpec := { name := "treepatchStaysValid", fn := fun _ => fun
  | [d1, d2] => { results := [.lit (.bool true)], args := [d1, d2] }
  | _ => none }
def treepatchStaysValidRow : OpenClaim := { program := "ytjmigclbilnajaadoor", sum := "f5a1079e5cc79102634df998c74e7cbbc314499a1b6046dc5f5f46f5f9b168c4", func := "changeforge/changeforgelaw2.TreepatchStaysValid", spec := "treepatchStaysValid", inPlace := ["internal/bytealg.IndexByteString", "internal/bytealg.IndexString", "internal/bytealg.abigen_runtime_cmpstring", "slices.overlaps[changeforge/api.File]"], unfollowed := true, recurses := true, named := ["unicode/utf8.first", "unicode/utf8.acceptRanges", "internal/bytealg.MaxLen"], apart := false, laid := [("unicode/utf8.acceptRanges", laid_unicode_utf8_acceptRanges), ("unicode/utf8.first", laid_unicode_utf8_first)] }
def TreepatchStaysValidSaid : Prop := treepatchStaysValidRow.holds Tryd.pinned (OpenSpec.ofChange treepatchStaysValidSpec)

/-- ITS FALSE NEIGHBOUR: 'it returns false'. Refute it at one input. -/
def treepatchStaysValidWrong : ChangeSpec := { name := "treepatchStaysValid", fn := fun _ => fun
  | [d1, d2] => { results := [.lit (.bool false)], args := [d1, d2] }
  | _ => none }
def TreepatchStaysValidWrongFalsely : Prop := treepatchStaysValidRow.holds Tryd.pinned (OpenSpec.ofChange treepatchStaysValidWrong)

/-- 'changeforgelaw2.TreepatchSequence': WHATEVER THE INPUT: true; the input reads as it did. -/
def treepatchSequenceSpec : ChangeSpec := { name := "treepatchSequence", fn := fun _ => fun
  | [d1, d2, d3] => { results := [.lit (.bool true)], args := [d1, d2, d3] }
  | _ => none }
def treepatchSequenceRow : OpenClaim := { program := "ytjmigclbilnajaadoor", sum := "f5a1079e5cc79102634df998c74e7cbbc314499a1b6046dc5f5f46f5f9b168c4", func := "changeforge/changeforgelaw2.TreepatchSequence", spec := "treepatchSequence", inPlace := ["internal/bytealg.IndexByteString", "internal/bytealg.IndexString", "internal/bytealg.abigen_runtime_cmpstring", "slices.overlaps[changeforge/api.File]"], unfollowed := true, recurses := true, named := ["unicode/utf8.first", "unicode/utf8.acceptRanges", "internal/bytealg.MaxLen"], apart := false, laid := [("unicode/utf8.acceptRanges", laid_unicode_utf8_acceptRanges), ("unicode/utf8.first", laid_unicode_utf8_first)] }
def TreepatchSequenceSaid : Prop := treepatchSequenceRow.holds Tryd.pinned (OpenSpec.ofChange treepatchSequenceSpec)

/-- ITS FALSE NEIGHBOUR: 'it returns false'. Refute it at one input. -/
def treepatchSequenceWrong : ChangeSpec := { name := "treepatchSequence", fn := fun _ => fun
  | [d1, d2, d3] => { results := [.lit (.bool false)], args := [d1, d2, d3] }
  | _ => none }
def TreepatchSequenceWrongFalsely : Prop := treepatchSequenceRow.holds Tryd.pinned (OpenSpec.ofChange treepatchSequenceWrong)

/-- 'changeforgelaw2.TreepatchUndo': WHATEVER THE INPUT: true; the input reads as it did. -/
def treepatchUndoSpec : ChangeSpec := { name := "treepatchUndo", fn := fun _ => fun
  | [d1, d2] => { results := [.lit (.bool true)], args := [d1, d2] }
  | _ => none }
def treepatchUndoRow : OpenClaim := { program := "ytjmigclbilnajaadoor", sum := "f5a1079e5cc79102634df998c74e7cbbc314499a1b6046dc5f5f46f5f9b168c4", func := "changeforge/changeforgelaw2.TreepatchUndo", spec := "treepatchUndo", inPlace := ["internal/bytealg.IndexByteString", "internal/bytealg.IndexString", "internal/bytealg.abigen_runtime_cmpstring", "slices.overlaps[changeforge/api.File]"], unfollowed := true, recurses := true, named := ["unicode/utf8.first", "unicode/utf8.acceptRanges", "internal/bytealg.MaxLen"], apart := false, laid := [("unicode/utf8.acceptRanges", laid_unicode_utf8_acceptRanges), ("unicode/utf8.first", laid_unicode_utf8_first)] }
def TreepatchUndoSaid : Prop := treepatchUndoRow.holds Tryd.pinned (OpenSpec.ofChange treepatchUndoSpec)

/-- ITS FALSE NEIGHBOUR: 'it returns false'. Refute it at one input. -/
def treepatchUndoWrong : ChangeSpec := { name := "treepatchUndo", fn := fun _ => fun
  | [d1, d2] => { results := [.lit (.bool false)], args := [d1, d2] }
  | _ => none }
def TreepatchUndoWrongFalsely : Prop := treepatchUndoRow.holds Tryd.pinned (OpenSpec.ofChange treepatchUndoWrong)

/-- 'changeforgelaw2.TreepatchDiffApplies': WHATEVER THE INPUT: true; the input reads as it did. -/
def treepatchDiffAppliesSpec : ChangeSpec := { name := "treepatchDiffApplies", fn := fun _ => fun
  | [d1, d2] => { results := [.lit (.bool true)], args := [d1, d2] }
  | _ => none }
def treepatchDiffAppliesRow : OpenClaim := { program := "ytjmigclbilnajaadoor", sum := "f5a1079e5cc79102634df998c74e7cbbc314499a1b6046dc5f5f46f5f9b168c4", func := "changeforge/changeforgelaw2.TreepatchDiffApplies", spec := "treepatchDiffApplies", inPlace := ["internal/bytealg.IndexByteString", "internal/bytealg.IndexString", "internal/bytealg.abigen_runtime_cmpstring", "slices.overlaps[changeforge/api.File]"], unfollowed := true, recurses := true, named := ["unicode/utf8.first", "unicode/utf8.acceptRanges", "internal/bytealg.MaxLen"], apart := false, laid := [("unicode/utf8.acceptRanges", laid_unicode_utf8_acceptRanges), ("unicode/utf8.first", laid_unicode_utf8_first)] }
def TreepatchDiffAppliesSaid : Prop := treepatchDiffAppliesRow.holds Tryd.pinned (OpenSpec.ofChange treepatchDiffAppliesSpec)

/-- ITS FALSE NEIGHBOUR: 'it returns false'. Refute it at one input. -/
def treepatchDiffAppliesWrong : ChangeSpec := { name := "treepatchDiffApplies", fn := fun _ => fun
  | [d1, d2] => { results := [.lit (.bool false)], args := [d1, d2] }
  | _ => none }
def TreepatchDiffAppliesWrongFalsely : Prop := treepatchDiffAppliesRow.holds Tryd.pinned (OpenSpec.ofChange treepatchDiffAppliesWrong)

/-- 'changeforgelaw2.TreecommuteSameEffect': WHATEVER THE INPUT: true; the input reads as it did. -/
def treecommuteSameEffectSpec : ChangeSpec := { name := "treecommuteSameEffect", fn := fun _ => fun
  | [d1, d2, d3] => { results := [.lit (.bool true)], args := [d1, d2, d3] }
  | _ => none }
def treecommuteSameEffectRow : OpenClaim := { program := "ytjmigclbilnajaadoor", sum := "f5a1079e5cc79102634df998c74e7cbbc314499a1b6046dc5f5f46f5f9b168c4", func := "changeforge/changeforgelaw2.TreecommuteSameEffect", spec := "treecommuteSameEffect", inPlace := ["internal/bytealg.IndexByteString", "internal/bytealg.IndexString", "internal/bytealg.abigen_runtime_cmpstring", "slices.overlaps[changeforge/api.File]"], unfollowed := true, recurses := true, named := ["unicode/utf8.first", "unicode/utf8.acceptRanges", "internal/bytealg.MaxLen"], apart := false, laid := [("unicode/utf8.acceptRanges", laid_unicode_utf8_acceptRanges), ("unicode/utf8.first", laid_unicode_utf8_first)] }
def TreecommuteSameEffectSaid : Prop := treecommuteSameEffectRow.holds Tryd.pinned (OpenSpec.ofChange treecommuteSameEffectSpec)

/-- ITS FALSE NEIGHBOUR: 'it returns false'. Refute it at one input. -/
def treecommuteSameEffectWrong : ChangeSpec := { name := "treecommuteSameEffect", fn := fun _ => fun
  | [d1, d2, d3] => { results := [.lit (.bool false)], args := [d1, d2, d3] }
  | _ => none }
def TreecommuteSameEffectWrongFalsely : Prop := treecommuteSameEffectRow.holds Tryd.pinned (OpenSpec.ofChange treecommuteSameEffectWrong)

/- THE SECOND FORM. 'bulk': how many values and letters a reading holds, each counted each time it is reached (what is shared counts as often as it is met; a slice's spare places count too). A statement '..UptoSaid' is the law's where the arguments, and the package variables that the reading takes, are together of bulk at most 1048576: NARROWER than '..Said'. Prove '..Said' where nothing that the law and all that it calls make is longer than what came in: it says more and counts as full. Else prove '..UptoSaid'. A law counts once. -/
mutual
def uptoBulk {H : Type} : DataW H → Nat
  | .lit (.string bytes) => bytes.length + 1
  | .lit _ => 1
  | .nil => 1
  | .ptr d => uptoBulk d + 1
  | .slice elems spare => uptoBulkAll elems + uptoBulkAll spare + 1
  | .agg parts => uptoBulkAll parts + 1
  | .iface _ d => uptoBulk d + 1
  | .map entries => uptoBulkEntries entries + 1
  | .held _ => 1
def uptoBulkAll {H : Type} : List (DataW H) → Nat
  | [] => 0
  | d :: r => uptoBulk d + uptoBulkAll r
def uptoBulkEntries {H : Type} : List (Lit × DataW H) → Nat
  | [] => 0
  | x :: r => uptoBulkEntry x + uptoBulkEntries r
def uptoBulkEntry {H : Type} : Lit × DataW H → Nat
  | (.string bytes, d) => bytes.length + uptoBulk d + 1
  | (_, d) => uptoBulk d + 1
 end
def uptoSmall : (H : Type) → List (DataW H) → Bool := fun _ ds => decide (uptoBulkAll ds ≤ 1048576)
def OpenSpec.upto (s : _root_.Go.ChangeSpec) : _root_.Go.OpenSpec := { _root_.Go.OpenSpec.ofChange s with cond := some uptoSmall }

/-- 'changeforgelaw2.TreecommuteMatchesSpec', WHERE WHAT IT READS IS OF BULK AT MOST 1048576: true; the input reads as it did. -/
def treecommuteMatchesSpecUptoRow : OpenClaim := { program := "ytjmigclbilnajaadoor", sum := "f5a1079e5cc79102634df998c74e7cbbc314499a1b6046dc5f5f46f5f9b168c4", func := "changeforge/changeforgelaw2.TreecommuteMatchesSpec", spec := "treecommuteMatchesSpec", inPlace := ["internal/bytealg.IndexByteString", "internal/bytealg.IndexString"], unfollowed := true, recurses := true, named := ["unicode/utf8.first", "unicode/utf8.acceptRanges", "internal/bytealg.MaxLen"], apart := false, laid := [("unicode/utf8.acceptRanges", laid_unicode_utf8_acceptRanges), ("unicode/utf8.first", laid_unicode_utf8_first)], narrowed := true }
def TreecommuteMatchesSpecUptoSaid : Prop := treecommuteMatchesSpecUptoRow.holds Tryd.pinned (OpenSpec.upto treecommuteMatchesSpecSpec)

/-- 'changeforgelaw2.TreecommuteTwice', WHERE WHAT IT READS IS OF BULK AT MOST 1048576: true; the input reads as it did. -/
def treecommuteTwiceUptoRow : OpenClaim := { program := "ytjmigclbilnajaadoor", sum := "f5a1079e5cc79102634df998c74e7cbbc314499a1b6046dc5f5f46f5f9b168c4", func := "changeforge/changeforgelaw2.TreecommuteTwice", spec := "treecommuteTwice", inPlace := ["internal/bytealg.IndexByteString", "internal/bytealg.IndexString"], unfollowed := true, recurses := true, named := ["unicode/utf8.first", "unicode/utf8.acceptRanges", "internal/bytealg.MaxLen"], apart := false, laid := [("unicode/utf8.acceptRanges", laid_unicode_utf8_acceptRanges), ("unicode/utf8.first", laid_unicode_utf8_first)], narrowed := true }
def TreecommuteTwiceUptoSaid : Prop := treecommuteTwiceUptoRow.holds Tryd.pinned (OpenSpec.upto treecommuteTwiceSpec)

/-- 'changeforgelaw2.TreecommuteDistance', WHERE WHAT IT READS IS OF BULK AT MOST 1048576: true; the input reads as it did. -/
def treecommuteDistanceUptoRow : OpenClaim := { program := "ytjmigclbilnajaadoor", sum := "f5a1079e5cc79102634df998c74e7cbbc314499a1b6046dc5f5f46f5f9b168c4", func := "changeforge/changeforgelaw2.TreecommuteDistance", spec := "treecommuteDistance", inPlace := ["internal/bytealg.IndexByteString", "internal/bytealg.IndexString"], unfollowed := true, recurses := true, named := ["unicode/utf8.first", "unicode/utf8.acceptRanges", "internal/bytealg.MaxLen"], apart := false, laid := [("unicode/utf8.acceptRanges", laid_unicode_utf8_acceptRanges), ("unicode/utf8.first", laid_unicode_utf8_first)], narrowed := true }
def TreecommuteDistanceUptoSaid : Prop := treecommuteDistanceUptoRow.holds Tryd.pinned (OpenSpec.upto treecommuteDistanceSpec)

/-- 'changeforgelaw2.TreepatchMatchesSpec', WHERE WHAT IT READS IS OF BULK AT MOST 1048576: true; the input reads as it did. -/
def treepatchMatchesSpecUptoRow : OpenClaim := { program := "ytjmigclbilnajaadoor", sum := "f5a1079e5cc79102634df998c74e7cbbc314499a1b6046dc5f5f46f5f9b168c4", func := "changeforge/changeforgelaw2.TreepatchMatchesSpec", spec := "treepatchMatchesSpec", inPlace := ["internal/bytealg.IndexByteString", "internal/bytealg.IndexString", "internal/bytealg.abigen_runtime_cmpstring", "slices.overlaps[changeforge/api.File]"], unfollowed := true, recurses := true, named := ["unicode/utf8.first", "unicode/utf8.acceptRanges", "internal/bytealg.MaxLen"], apart := false, laid := [("unicode/utf8.acceptRanges", laid_unicode_utf8_acceptRanges), ("unicode/utf8.first", laid_unicode_utf8_first)], narrowed := true }
def TreepatchMatchesSpecUptoSaid : Prop := treepatchMatchesSpecUptoRow.holds Tryd.pinned (OpenSpec.upto treepatchMatchesSpecSpec)

/-- 'changeforgelaw2.TreepatchStaysValid', WHERE WHAT IT READS IS OF BULK AT MOST 1048576: true; the input reads as it did. -/
def treepatchStaysValidUptoRow : OpenClaim := { program := "ytjmigclbilnajaadoor", sum := "f5a1079e5cc79102634df998c74e7cbbc314499a1b6046dc5f5f46f5f9b168c4", func := "changeforge/changeforgelaw2.TreepatchStaysValid", spec := "treepatchStaysValid", inPlace := ["internal/bytealg.IndexByteString", "internal/bytealg.IndexString", "internal/bytealg.abigen_runtime_cmpstring", "slices.overlaps[changeforge/api.File]"], unfollowed := true, recurses := true, named := ["unicode/utf8.first", "unicode/utf8.acceptRanges", "internal/bytealg.MaxLen"], apart := false, laid := [("unicode/utf8.acceptRanges", laid_unicode_utf8_acceptRanges), ("unicode/utf8.first", laid_unicode_utf8_first)], narrowed := true }
def TreepatchStaysValidUptoSaid : Prop := treepatchStaysValidUptoRow.holds Tryd.pinned (OpenSpec.upto treepatchStaysValidSpec)

/-- 'changeforgelaw2.TreepatchSequence', WHERE WHAT IT READS IS OF BULK AT MOST 1048576: true; the input reads as it did. -/
def treepatchSequenceUptoRow : OpenClaim := { program := "ytjmigclbilnajaadoor", sum := "f5a1079e5cc79102634df998c74e7cbbc314499a1b6046dc5f5f46f5f9b168c4", func := "changeforge/changeforgelaw2.TreepatchSequence", spec := "treepatchSequence", inPlace := ["internal/bytealg.IndexByteString", "internal/bytealg.IndexString", "internal/bytealg.abigen_runtime_cmpstring", "slices.overlaps[changeforge/api.File]"], unfollowed := true, recurses := true, named := ["unicode/utf8.first", "unicode/utf8.acceptRanges", "internal/bytealg.MaxLen"], apart := false, laid := [("unicode/utf8.acceptRanges", laid_unicode_utf8_acceptRanges), ("unicode/utf8.first", laid_unicode_utf8_first)], narrowed := true }
def TreepatchSequenceUptoSaid : Prop := treepatchSequenceUptoRow.holds Tryd.pinned (OpenSpec.upto treepatchSequenceSpec)

/-- 'changeforgelaw2.TreepatchUndo', WHERE WHAT IT READS IS OF BULK AT MOST 1048576: true; the input reads as it did. -/
def treepatchUndoUptoRow : OpenClaim := { program := "ytjmigclbilnajaadoor", sum := "f5a1079e5cc79102634df998c74e7cbbc314499a1b6046dc5f5f46f5f9b168c4", func := "changeforge/changeforgelaw2.TreepatchUndo", spec := "treepatchUndo", inPlace := ["internal/bytealg.IndexByteString", "internal/bytealg.IndexString", "internal/bytealg.abigen_runtime_cmpstring", "slices.overlaps[changeforge/api.File]"], unfollowed := true, recurses := true, named := ["unicode/utf8.first", "unicode/utf8.acceptRanges", "internal/bytealg.MaxLen"], apart := false, laid := [("unicode/utf8.acceptRanges", laid_unicode_utf8_acceptRanges), ("unicode/utf8.first", laid_unicode_utf8_first)], narrowed := true }
def TreepatchUndoUptoSaid : Prop := treepatchUndoUptoRow.holds Tryd.pinned (OpenSpec.upto treepatchUndoSpec)

/-- 'changeforgelaw2.TreepatchDiffApplies', WHERE WHAT IT READS IS OF BULK AT MOST 1048576: true; the input reads as it did. -/
def treepatchDiffAppliesUptoRow : OpenClaim := { program := "ytjmigclbilnajaadoor", sum := "f5a1079e5cc79102634df998c74e7cbbc314499a1b6046dc5f5f46f5f9b168c4", func := "changeforge/changeforgelaw2.TreepatchDiffApplies", spec := "treepatchDiffApplies", inPlace := ["internal/bytealg.IndexByteString", "internal/bytealg.IndexString", "internal/bytealg.abigen_runtime_cmpstring", "slices.overlaps[changeforge/api.File]"], unfollowed := true, recurses := true, named := ["unicode/utf8.first", "unicode/utf8.acceptRanges", "internal/bytealg.MaxLen"], apart := false, laid := [("unicode/utf8.acceptRanges", laid_unicode_utf8_acceptRanges), ("unicode/utf8.first", laid_unicode_utf8_first)], narrowed := true }
def TreepatchDiffAppliesUptoSaid : Prop := treepatchDiffAppliesUptoRow.holds Tryd.pinned (OpenSpec.upto treepatchDiffAppliesSpec)

/-- 'changeforgelaw2.TreecommuteSameEffect', WHERE WHAT IT READS IS OF BULK AT MOST 1048576: true; the input reads as it did. -/
def treecommuteSameEffectUptoRow : OpenClaim := { program := "ytjmigclbilnajaadoor", sum := "f5a1079e5cc79102634df998c74e7cbbc314499a1b6046dc5f5f46f5f9b168c4", func := "changeforge/changeforgelaw2.TreecommuteSameEffect", spec := "treecommuteSameEffect", inPlace := ["internal/bytealg.IndexByteString", "internal/bytealg.IndexString", "internal/bytealg.abigen_runtime_cmpstring", "slices.overlaps[changeforge/api.File]"], unfollowed := true, recurses := true, named := ["unicode/utf8.first", "unicode/utf8.acceptRanges", "internal/bytealg.MaxLen"], apart := false, laid := [("unicode/utf8.acceptRanges", laid_unicode_utf8_acceptRanges), ("unicode/utf8.first", laid_unicode_utf8_first)], narrowed := true }
def TreecommuteSameEffectUptoSaid : Prop := treecommuteSameEffectUptoRow.holds Tryd.pinned (OpenSpec.upto treecommuteSameEffectSpec)

end Rows
end Go.Proofs.YtjmigclbilnajaaDoor
