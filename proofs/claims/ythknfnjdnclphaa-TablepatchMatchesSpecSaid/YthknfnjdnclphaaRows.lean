/-
  No cell of these rows narrows 'for every input' (looked for: loops, veiled, ifaces, maps, wideKeys, modest, calm, conditions, laid).
  DERIVED. THE GIVEN ROWS OF THIS SEAT. 7 by the template 'for every input the law returns true; each argument reads behind the call as it read before'; 0 by the template 'total and deterministic' (their statements: YthknfnjdnclphaaTotals.lean).
  GIVEN WITH THE SEED: the statements are not yours to turn. If you find one false, say at which input.
  Laid BY PROGRAM, IN A SANDBOX (cutbox-rows.mjs): the forced cells as the released guide's own fill.sh prints them over the translation e8d09b1e65631f27… (all of the seat's roots in one cut). By AI agents, Wed Nov 11 2026. No macro, syntax, notation, axiom, sorry.
-/
import Derived.Test.YthknfnjdnclphaaChecked
import GoSem.Claim
import GoSem.ClaimJoined
import GoSem.ClaimMapViews
import Derived.JoinedTies
import Derived.KernelRfl
namespace Go.Proofs.Ythknfnjdnclphaa
/- THE CELL 'sum', in the pinned program and in every row, IS THE sha256 OF THE DUMP (.gsa) THAT YthknfnjdnclphaaProg.lean LOADS. Nothing in Lean hashes anything: it is a label: what it is worth is what the hold of that sum in a sandbox is worth. -/
noncomputable def Try.pinned : Pinned := { name := "ythknfnjdnclphaa", sum := "e8d09b1e65631f274e6fe19b1f048a9c8454a909ffa9c751262452a90689764b", checked := Try.checked }
namespace Rows
def none {H : Type} : Left H := { results := [], args := [] }

/-- 'changeforgelaw2.TablepatchMergeMatchesSpec': WHATEVER THE INPUT: true; the input reads as it did. -/
def tablepatchMergeMatchesSpecSpec : ChangeSpec := { name := "tablepatchMergeMatchesSpec", fn := fun _ => fun
  | [d1, d2, d3] => { results := [.lit (.bool true)], args := [d1, d2, d3] }
  | _ => none }
def tablepatchMergeMatchesSpecRow : OpenClaim := { program := "ythknfnjdnclphaa", sum := "e8d09b1e65631f274e6fe19b1f048a9c8454a909ffa9c751262452a90689764b", func := "changeforge/changeforgelaw2.TablepatchMergeMatchesSpec", spec := "tablepatchMergeMatchesSpec", inPlace := ["internal/bytealg.IndexByteString", "internal/bytealg.abigen_runtime_cmpstring"], unfollowed := true, recurses := true, apart := false }
def TablepatchMergeMatchesSpecSaid : Prop := tablepatchMergeMatchesSpecRow.holds Try.pinned (OpenSpec.ofChange tablepatchMergeMatchesSpecSpec)

/-- ITS FALSE NEIGHBOUR: 'it returns false'. Refute it at one input. -/
def tablepatchMergeMatchesSpecWrong : ChangeSpec := { name := "tablepatchMergeMatchesSpec", fn := fun _ => fun
  | [d1, d2, d3] => { results := [.lit (.bool false)], args := [d1, d2, d3] }
  | _ => none }
def TablepatchMergeMatchesSpecWrongFalsely : Prop := tablepatchMergeMatchesSpecRow.holds Try.pinned (OpenSpec.ofChange tablepatchMergeMatchesSpecWrong)

/-- 'changeforgelaw2.TablepatchMergeSymmetric': WHATEVER THE INPUT: true; the input reads as it did. -/
def tablepatchMergeSymmetricSpec : ChangeSpec := { name := "tablepatchMergeSymmetric", fn := fun _ => fun
  | [d1, d2, d3] => { results := [.lit (.bool true)], args := [d1, d2, d3] }
  | _ => none }
def tablepatchMergeSymmetricRow : OpenClaim := { program := "ythknfnjdnclphaa", sum := "e8d09b1e65631f274e6fe19b1f048a9c8454a909ffa9c751262452a90689764b", func := "changeforge/changeforgelaw2.TablepatchMergeSymmetric", spec := "tablepatchMergeSymmetric", inPlace := ["internal/bytealg.IndexByteString", "internal/bytealg.abigen_runtime_cmpstring"], unfollowed := true, recurses := true, apart := false }
def TablepatchMergeSymmetricSaid : Prop := tablepatchMergeSymmetricRow.holds Try.pinned (OpenSpec.ofChange tablepatchMergeSymmetricSpec)

/-- ITS FALSE NEIGHBOUR: 'it returns false'. Refute it at one input. -/
def tablepatchMergeSymmetricWrong : ChangeSpec := { name := "tablepatchMergeSymmetric", fn := fun _ => fun
  | [d1, d2, d3] => { results := [.lit (.bool false)], args := [d1, d2, d3] }
  | _ => none }
def TablepatchMergeSymmetricWrongFalsely : Prop := tablepatchMergeSymmetricRow.holds Try.pinned (OpenSpec.ofChange tablepatchMergeSymmetricWrong)

/-- 'changeforgelaw2.TablepatchMergeOneSided': WHATEVER THE INPUT: true; the input reads as it did. -/
def tablepatchMergeOneSidedSpec : ChangeSpec := { name := "tablepatchMergeOneSided", fn := fun _ => fun
  | [d1, d2] => { results := [.lit (.bool true)], args := [d1, d2] }
  | _ => none }
def tablepatchMergeOneSidedRow : OpenClaim := { program := "ythknfnjdnclphaa", sum := "e8d09b1e65631f274e6fe19b1f048a9c8454a909ffa9c751262452a90689764b", func := "changeforge/changeforgelaw2.TablepatchMergeOneSided", spec := "tablepatchMergeOneSided", inPlace := ["internal/bytealg.IndexByteString", "internal/bytealg.abigen_runtime_cmpstring"], unfollowed := true, recurses := true, apart := false }
def TablepatchMergeOneSidedSaid : Prop := tablepatchMergeOneSidedRow.holds Try.pinned (OpenSpec.ofChange tablepatchMergeOneSidedSpec)

/-- ITS FALSE NEIGHBOUR: 'it returns false'. Refute it at one input. -/
def tablepatchMergeOneSidedWrong : ChangeSpec := { name := "tablepatchMergeOneSided", fn := fun _ => fun
  | [d1, d2] => { results := [.lit (.bool false)], args := [d1, d2] }
  | _ => none }
def TablepatchMergeOneSidedWrongFalsely : Prop := tablepatchMergeOneSidedRow.holds Try.pinned (OpenSpec.ofChange tablepatchMergeOneSidedWrong)

/-- 'changeforgelaw2.TablepatchMergeValid': WHATEVER THE INPUT: true; the input reads as it did. -/
def tablepatchMergeValidSpec : ChangeSpec := { name := "tablepatchMergeValid", fn := fun _ => fun
  | [d1, d2, d3] => { results := [.lit (.bool true)], args := [d1, d2, d3] }
  | _ => none }
def tablepatchMergeValidRow : OpenClaim := { program := "ythknfnjdnclphaa", sum := "e8d09b1e65631f274e6fe19b1f048a9c8454a909ffa9c751262452a90689764b", func := "changeforge/changeforgelaw2.TablepatchMergeValid", spec := "tablepatchMergeValid", inPlace := ["internal/bytealg.IndexByteString", "internal/bytealg.abigen_runtime_cmpstring"], unfollowed := true, recurses := true, apart := false }
def TablepatchMergeValidSaid : Prop := tablepatchMergeValidRow.holds Try.pinned (OpenSpec.ofChange tablepatchMergeValidSpec)

/-- ITS FALSE NEIGHBOUR: 'it returns false'. Refute it at one input. -/
def tablepatchMergeValidWrong : ChangeSpec := { name := "tablepatchMergeValid", fn := fun _ => fun
  | [d1, d2, d3] => { results := [.lit (.bool false)], args := [d1, d2, d3] }
  | _ => none }
def TablepatchMergeValidWrongFalsely : Prop := tablepatchMergeValidRow.holds Try.pinned (OpenSpec.ofChange tablepatchMergeValidWrong)

/-- 'changeforgelaw2.TablepatchUndo': WHATEVER THE INPUT: true; the input reads as it did. -/
def tablepatchUndoSpec : ChangeSpec := { name := "tablepatchUndo", fn := fun _ => fun
  | [d1, d2] => { results := [.lit (.bool true)], args := [d1, d2] }
  | _ => none }
def tablepatchUndoRow : OpenClaim := { program := "ythknfnjdnclphaa", sum := "e8d09b1e65631f274e6fe19b1f048a9c8454a909ffa9c751262452a90689764b", func := "changeforge/changeforgelaw2.TablepatchUndo", spec := "tablepatchUndo", inPlace := ["internal/bytealg.IndexByteString", "internal/bytealg.abigen_runtime_cmpstring", "slices.overlaps[changeforge/api.Row]"], unfollowed := true, recurses := true, apart := false }
def TablepatchUndoSaid : Prop := tablepatchUndoRow.holds Try.pinned (OpenSpec.ofChange tablepatchUndoSpec)

/-- ITS FALSE NEIGHBOUR: 'it returns false'. Refute it at one input. -/
def tablepatchUndoWrong : ChangeSpec := { name := "tablepatchUndo", fn := fun _ => fun
  | [d1, d2] => { results := [.lit (.bool false)], args := [d1, d2] }
  | _ => none }
def TablepatchUndoWrongFalsely : Prop := tablepatchUndoRow.holds Try.pinned (OpenSpec.ofChange tablepatchUndoWrong)

/-- 'changeforgelaw2.TablepatchMatchesSpec': WHATEVER THE INPUT: true; the input reads as it did. -/
def tablepatchMatchesSpecSpec : ChangeSpec := { name := "tablepatchMatchesSpec", fn := fun _ => fun
  | [d1, d2, d3] => { results := [.lit (.bool true)], args := [d1, d2, d3] }
  | _ => none }
def tablepatchMatchesSpecRow : OpenClaim := { program := "ythknfnjdnclphaa", sum := "e8d09b1e65631f274e6fe19b1f048a9c8454a909ffa9c751262452a90689764b", func := "changeforge/changeforgelaw2.TablepatchMatchesSpec", spec := "tablepatchMatchesSpec", inPlace := ["internal/bytealg.IndexByteString", "internal/bytealg.abigen_runtime_cmpstring", "slices.overlaps[changeforge/api.Row]"], unfollowed := true, recurses := true, apart := false }
def TablepatchMatchesSpecSaid : Prop := tablepatchMatchesSpecRow.holds Try.pinned (OpenSpec.ofChange tablepatchMatchesSpecSpec)

/-- ITS FALSE NEIGHBOUR: 'it returns false'. Refute it at one input. -/
def tablepatchMatchesSpecWrong : ChangeSpec := { name := "tablepatchMatchesSpec", fn := fun _ => fun
  | [d1, d2, d3] => { results := [.lit (.bool false)], args := [d1, d2, d3] }
  | _ => none }
def TablepatchMatchesSpecWrongFalsely : Prop := tablepatchMatchesSpecRow.holds Try.pinned (OpenSpec.ofChange tablepatchMatchesSpecWrong)

/-- 'changeforgelaw2.TablepatchDiffApplies': WHATEVER THE INPUT: true; the input reads as it did. -/
def tablepatchDiffAppliesSpec : ChangeSpec := { name := "tablepatchDiffApplies", fn := fun _ => fun
  | [d1, d2] => { results := [.lit (.bool true)], args := [d1, d2] }
  | _ => none }
def tablepatchDiffAppliesRow : OpenClaim := { program := "ythknfnjdnclphaa", sum := "e8d09b1e65631f274e6fe19b1f048a9c8454a909ffa9c751262452a90689764b", func := "changeforge/changeforgelaw2.TablepatchDiffApplies", spec := "tablepatchDiffApplies", inPlace := ["internal/bytealg.IndexByteString", "internal/bytealg.abigen_runtime_cmpstring", "slices.overlaps[changeforge/api.Row]"], unfollowed := true, recurses := true, apart := false }
def TablepatchDiffAppliesSaid : Prop := tablepatchDiffAppliesRow.holds Try.pinned (OpenSpec.ofChange tablepatchDiffAppliesSpec)

/-- ITS FALSE NEIGHBOUR: 'it returns false'. Refute it at one input. -/
def tablepatchDiffAppliesWrong : ChangeSpec := { name := "tablepatchDiffApplies", fn := fun _ => fun
  | [d1, d2] => { results := [.lit (.bool false)], args := [d1, d2] }
  | _ => none }
def TablepatchDiffAppliesWrongFalsely : Prop := tablepatchDiffAppliesRow.holds Try.pinned (OpenSpec.ofChange tablepatchDiffAppliesWrong)

/- THE SECOND FORM. 'bulk': how many values and letters a reading holds, each counted each time it is reached (what is shared counts as often as it is met; a slice's spare places count too). A statement '..UptoSaid' is the law's where the arguments, and the package variables that the reading takes, are together of bulk at most 1048576: NARROWER than '..Said'. Prove '..Said' where nothing that the law and all that it calls make is longer than what came in: it says more and counts as full. Else prove '..UptoSaid'. A law counts once. -/
mutual
def uptoBulk {H : Type} : DataW H → Nat
  | .lit (.string bytes) => bytes.length + 1
  | .lit _ => 1
  | .nil => 1
  | .ptr d => uptoBulk d + 1
  | .slice elems spare => uptoBulkAll elems + uptoBulkAll spare + 1
  | .agg parts => uptoBulkAll parts + 1
  | .iface _ d => uptoBulk d + 1
  | .map entries => uptoBulkEntries entries + 1
  | .held _ => 1
def uptoBulkAll {H : Type} : List (DataW H) → Nat
  | [] => 0
  | d :: r => uptoBulk d + uptoBulkAll r
def uptoBulkEntries {H : Type} : List (Lit × DataW H) → Nat
  | [] => 0
  | x :: r => uptoBulkEntry x + uptoBulkEntries r
def uptoBulkEntry {H : Type} : Lit × DataW H → Nat
  | (.string bytes, d) => bytes.length + uptoBulk d + 1
  | (_, d) => uptoBulk d + 1
 end
def uptoSmall : (H : Type) → List (DataW H) → Bool := fun _ ds => decide (uptoBulkAll ds ≤ 1048576)
def OpenSpec.upto (s : _root_.Go.ChangeSpec) : _root_.Go.OpenSpec := { _root_.Go.OpenSpec.ofChange s with cond := some uptoSmall }

/-- 'changeforgelaw2.TablepatchMergeMatchesSpec', WHERE WHAT IT READS IS OF BULK AT MOST 1048576: true; the input reads as it did. -/
def tablepatchMergeMatchesSpecUptoRow : OpenClaim := { program := "ythknfnjdnclphaa", sum := "e8d09b1e65631f274e6fe19b1f048a9c8454a909ffa9c751262452a90689764b", func := "changeforge/changeforgelaw2.TablepatchMergeMatchesSpec", spec := "tablepatchMergeMatchesSpec", inPlace := ["internal/bytealg.IndexByteString", "internal/bytealg.abigen_runtime_cmpstring"], unfollowed := true, recurses := true, apart := false, narrowed := true }
def TablepatchMergeMatchesSpecUptoSaid : Prop := tablepatchMergeMatchesSpecUptoRow.holds Try.pinned (OpenSpec.upto tablepatchMergeMatchesSpecSpec)

/-- 'changeforgelaw2.TablepatchMergeSymmetric', WHERE WHAT IT READS IS OF BULK AT MOST 1048576: true; the input reads as it did. -/
def tablepatchMergeSymmetricUptoRow : OpenClaim := { program := "ythknfnjdnclphaa", sum := "e8d09b1e65631f274e6fe19b1f048a9c8454a909ffa9c751262452a90689764b", func := "changeforge/changeforgelaw2.TablepatchMergeSymmetric", spec := "tablepatchMergeSymmetric", inPlace := ["internal/bytealg.IndexByteString", "internal/bytealg.abigen_runtime_cmpstring"], unfollowed := true, recurses := true, apart := false, narrowed := true }
def TablepatchMergeSymmetricUptoSaid : Prop := tablepatchMergeSymmetricUptoRow.holds Try.pinned (OpenSpec.upto tablepatchMergeSymmetricSpec)

/-- 'changeforgelaw2.TablepatchMergeOneSided', WHERE WHAT IT READS IS OF BULK AT MOST 1048576: true; the input reads as it did. -/
def tablepatchMergeOneSidedUptoRow : OpenClaim := { program := "ythknfnjdnclphaa", sum := "e8d09b1e65631f274e6fe19b1f048a9c8454a909ffa9c751262452a90689764b", func := "changeforge/changeforgelaw2.TablepatchMergeOneSided", spec := "tablepatchMergeOneSided", inPlace := ["internal/bytealg.IndexByteString", "internal/bytealg.abigen_runtime_cmpstring"], unfollowed := true, recurses := true, apart := false, narrowed := true }
def TablepatchMergeOneSidedUptoSaid : Prop := tablepatchMergeOneSidedUptoRow.holds Try.pinned (OpenSpec.upto tablepatchMergeOneSidedSpec)

/-- 'changeforgelaw2.TablepatchMergeValid', WHERE WHAT IT READS IS OF BULK AT MOST 1048576: true; the input reads as it did. -/
def tablepatchMergeValidUptoRow : OpenClaim := { program := "ythknfnjdnclphaa", sum := "e8d09b1e65631f274e6fe19b1f048a9c8454a909ffa9c751262452a90689764b", func := "changeforge/changeforgelaw2.TablepatchMergeValid", spec := "tablepatchMergeValid", inPlace := ["internal/bytealg.IndexByteString", "internal/bytealg.abigen_runtime_cmpstring"], unfollowed := true, recurses := true, apart := false, narrowed := true }
def TablepatchMergeValidUptoSaid : Prop := tablepatchMergeValidUptoRow.holds Try.pinned (OpenSpec.upto tablepatchMergeValidSpec)

/-- 'changeforgelaw2.TablepatchUndo', WHERE WHAT IT READS IS OF BULK AT MOST 1048576: true; the input reads as it did. -/
def tablepatchUndoUptoRow : OpenClaim := { program := "ythknfnjdnclphaa", sum := "e8d09b1e65631f274e6fe19b1f048a9c8454a909ffa9c751262452a90689764b", func := "changeforge/changeforgelaw2.TablepatchUndo", spec := "tablepatchUndo", inPlace := ["internal/bytealg.IndexByteString", "internal/bytealg.abigen_runtime_cmpstring", "slices.overlaps[changeforge/api.Row]"], unfollowed := true, recurses := true, apart := false, narrowed := true }
def TablepatchUndoUptoSaid : Prop := tablepatchUndoUptoRow.holds Try.pinned (OpenSpec.upto tablepatchUndoSpec)

/-- 'changeforgelaw2.TablepatchMatchesSpec', WHERE WHAT IT READS IS OF BULK AT MOST 1048576: true; the input reads as it did. -/
def tablepatchMatchesSpecUptoRow : OpenClaim := { program := "ythknfnjdnclphaa", sum := "e8d09b1e65631f274e6fe19b1f048a9c8454a909ffa9c751262452a90689764b", func := "changeforge/changeforgelaw2.TablepatchMatchesSpec", spec := "tablepatchMatchesSpec", inPlace := ["internal/bytealg.IndexByteString", "internal/bytealg.abigen_runtime_cmpstring", "slices.overlaps[changeforge/api.Row]"], unfollowed := true, recurses := true, apart := false, narrowed := true }
def TablepatchMatchesSpecUptoSaid : Prop := tablepatchMatchesSpecUptoRow.holds Try.pinned (OpenSpec.upto tablepatchMatchesSpecSpec)

/-- 'changeforgelaw2.TablepatchDiffApplies', WHERE WHAT IT READS IS OF BULK AT MOST 1048576: true; the input reads as it did. -/
def tablepatchDiffAppliesUptoRow : OpenClaim := { program := "ythknfnjdnclphaa", sum := "e8d09b1e65631f274e6fe19b1f048a9c8454a909ffa9c751262452a90689764b", func := "changeforge/changeforgelaw2.TablepatchDiffApplies", spec := "tablepatchDiffApplies", inPlace := ["internal/bytealg.IndexByteString", "internal/bytealg.abigen_runtime_cmpstring", "slices.overlaps[changeforge/api.Row]"], unfollowed := true, recurses := true, apart := false, narrowed := true }
def TablepatchDiffAppliesUptoSaid : Prop := tablepatchDiffAppliesUptoRow.holds Try.pinned (OpenSpec.upto tablepatchDiffAppliesSpec)

end Rows
end Go.Proofs.Ythknfnjdnclphaa
