/-
  No cell of these rows narrows 'for every input' (looked for: loops, veiled, ifaces, maps, wideKeys, modest, calm, conditions, laid).
  DERIVED. THE GIVEN ROWS OF THIS SEAT. 7 by the template 'for every input the law returns true; each argument reads behind the call as it read before'; 0 by the template 'total and deterministic' (their statements: YtigjmijbekhdgaaTotals.lean).
  GIVEN WITH THE SEED: the statements are not yours to turn. If you find one false, say at which input.
  Laid BY PROGRAM, IN A SANDBOX (cutbox-rows.mjs): the forced cells as the released guide's own fill.sh prints them over the translation 8759dd172832d65c… (all of the seat's roots in one cut). By AI agents, Wed Nov 11 2026. No macro, syntax, notation, axiom, sorry.
-/
import Derived.Test.YtigjmijbekhdgaaChecked
import GoSem.Claim
import GoSem.ClaimJoined
import GoSem.ClaimMapViews
import Derived.JoinedTies
import Derived.KernelRfl
namespace Go.Proofs.Ytigjmijbekhdgaa
/- THE CELL 'sum', in the pinned program and in every row, IS THE sha256 OF THE DUMP (.gsa) THAT YtigjmijbekhdgaaProg.lean LOADS. Nothing in Lean hashes anything: it is a label: what it is worth is what the hold of that sum in a sandbox is worth. -/
noncomputable def Try.pinned : Pinned := { name := "ytigjmijbekhdgaa", sum := "8759dd172832d65c68a99abefaf8f8126fc06bd2dfc6504feba7d80e94ede8a5", checked := Try.checked }
namespace Rows
def none {H : Type} : Left H := { results := [], args := [] }

/-- 'changeforgelaw2.SyntaxMatchesSpec': WHATEVER THE INPUT: true; the input reads as it did. -/
def syntaxMatchesSpecSpec : ChangeSpec := { name := "syntaxMatchesSpec", fn := fun _ => fun
  | [d1, d2] => { results := [.lit (.bool true)], args := [d1, d2] }
  | _ => none }
def syntaxMatchesSpecRow : OpenClaim := { program := "ytigjmijbekhdgaa", sum := "8759dd172832d65c68a99abefaf8f8126fc06bd2dfc6504feba7d80e94ede8a5", func := "changeforge/changeforgelaw2.SyntaxMatchesSpec", spec := "syntaxMatchesSpec", inPlace := ["internal/bytealg.IndexByteString"], unfollowed := true, recurses := true, apart := false }
def SyntaxMatchesSpecSaid : Prop := syntaxMatchesSpecRow.holds Try.pinned (OpenSpec.ofChange syntaxMatchesSpecSpec)

/-- ITS FALSE NEIGHBOUR: 'it returns false'. Refute it at one input. -/
def syntaxMatchesSpecWrong : ChangeSpec := { name := "syntaxMatchesSpec", fn := fun _ => fun
  | [d1, d2] => { results := [.lit (.bool false)], args := [d1, d2] }
  | _ => none }
def SyntaxMatchesSpecWrongFalsely : Prop := syntaxMatchesSpecRow.holds Try.pinned (OpenSpec.ofChange syntaxMatchesSpecWrong)

/-- 'changeforgelaw2.SyntaxRestored': WHATEVER THE INPUT: true; the input reads as it did. -/
def syntaxRestoredSpec : ChangeSpec := { name := "syntaxRestored", fn := fun _ => fun
  | [d] => { results := [.lit (.bool true)], args := [d] }
  | _ => none }
def syntaxRestoredRow : OpenClaim := { program := "ytigjmijbekhdgaa", sum := "8759dd172832d65c68a99abefaf8f8126fc06bd2dfc6504feba7d80e94ede8a5", func := "changeforge/changeforgelaw2.SyntaxRestored", spec := "syntaxRestored", inPlace := ["internal/bytealg.IndexByteString"], unfollowed := true, recurses := true, apart := false }
def SyntaxRestoredSaid : Prop := syntaxRestoredRow.holds Try.pinned (OpenSpec.ofChange syntaxRestoredSpec)

/-- ITS FALSE NEIGHBOUR: 'it returns false'. Refute it at one input. -/
def syntaxRestoredWrong : ChangeSpec := { name := "syntaxRestored", fn := fun _ => fun
  | [d] => { results := [.lit (.bool false)], args := [d] }
  | _ => none }
def SyntaxRestoredWrongFalsely : Prop := syntaxRestoredRow.holds Try.pinned (OpenSpec.ofChange syntaxRestoredWrong)

/-- 'changeforgelaw2.SyntaxNormal': WHATEVER THE INPUT: true; the input reads as it did. -/
def syntaxNormalSpec : ChangeSpec := { name := "syntaxNormal", fn := fun _ => fun
  | [d] => { results := [.lit (.bool true)], args := [d] }
  | _ => none }
def syntaxNormalRow : OpenClaim := { program := "ytigjmijbekhdgaa", sum := "8759dd172832d65c68a99abefaf8f8126fc06bd2dfc6504feba7d80e94ede8a5", func := "changeforge/changeforgelaw2.SyntaxNormal", spec := "syntaxNormal", inPlace := ["internal/bytealg.IndexByteString"], unfollowed := true, recurses := true, apart := false }
def SyntaxNormalSaid : Prop := syntaxNormalRow.holds Try.pinned (OpenSpec.ofChange syntaxNormalSpec)

/-- ITS FALSE NEIGHBOUR: 'it returns false'. Refute it at one input. -/
def syntaxNormalWrong : ChangeSpec := { name := "syntaxNormal", fn := fun _ => fun
  | [d] => { results := [.lit (.bool false)], args := [d] }
  | _ => none }
def SyntaxNormalWrongFalsely : Prop := syntaxNormalRow.holds Try.pinned (OpenSpec.ofChange syntaxNormalWrong)

/-- 'changeforgelaw2.SyntaxMergeMatchesSpec': WHATEVER THE INPUT: true; the input reads as it did. -/
def syntaxMergeMatchesSpecSpec : ChangeSpec := { name := "syntaxMergeMatchesSpec", fn := fun _ => fun
  | [d1, d2, d3] => { results := [.lit (.bool true)], args := [d1, d2, d3] }
  | _ => none }
def syntaxMergeMatchesSpecRow : OpenClaim := { program := "ytigjmijbekhdgaa", sum := "8759dd172832d65c68a99abefaf8f8126fc06bd2dfc6504feba7d80e94ede8a5", func := "changeforge/changeforgelaw2.SyntaxMergeMatchesSpec", spec := "syntaxMergeMatchesSpec", inPlace := ["internal/bytealg.IndexByteString"], unfollowed := true, recurses := true, apart := false }
def SyntaxMergeMatchesSpecSaid : Prop := syntaxMergeMatchesSpecRow.holds Try.pinned (OpenSpec.ofChange syntaxMergeMatchesSpecSpec)

/-- ITS FALSE NEIGHBOUR: 'it returns false'. Refute it at one input. -/
def syntaxMergeMatchesSpecWrong : ChangeSpec := { name := "syntaxMergeMatchesSpec", fn := fun _ => fun
  | [d1, d2, d3] => { results := [.lit (.bool false)], args := [d1, d2, d3] }
  | _ => none }
def SyntaxMergeMatchesSpecWrongFalsely : Prop := syntaxMergeMatchesSpecRow.holds Try.pinned (OpenSpec.ofChange syntaxMergeMatchesSpecWrong)

/-- 'changeforgelaw2.SyntaxMergeOneSided': WHATEVER THE INPUT: true; the input reads as it did. -/
def syntaxMergeOneSidedSpec : ChangeSpec := { name := "syntaxMergeOneSided", fn := fun _ => fun
  | [d1, d2] => { results := [.lit (.bool true)], args := [d1, d2] }
  | _ => none }
def syntaxMergeOneSidedRow : OpenClaim := { program := "ytigjmijbekhdgaa", sum := "8759dd172832d65c68a99abefaf8f8126fc06bd2dfc6504feba7d80e94ede8a5", func := "changeforge/changeforgelaw2.SyntaxMergeOneSided", spec := "syntaxMergeOneSided", inPlace := ["internal/bytealg.IndexByteString"], unfollowed := true, recurses := true, apart := false }
def SyntaxMergeOneSidedSaid : Prop := syntaxMergeOneSidedRow.holds Try.pinned (OpenSpec.ofChange syntaxMergeOneSidedSpec)

/-- ITS FALSE NEIGHBOUR: 'it returns false'. Refute it at one input. -/
def syntaxMergeOneSidedWrong : ChangeSpec := { name := "syntaxMergeOneSided", fn := fun _ => fun
  | [d1, d2] => { results := [.lit (.bool false)], args := [d1, d2] }
  | _ => none }
def SyntaxMergeOneSidedWrongFalsely : Prop := syntaxMergeOneSidedRow.holds Try.pinned (OpenSpec.ofChange syntaxMergeOneSidedWrong)

/-- 'changeforgelaw2.SyntaxMergeSymmetric': WHATEVER THE INPUT: true; the input reads as it did. -/
def syntaxMergeSymmetricSpec : ChangeSpec := { name := "syntaxMergeSymmetric", fn := fun _ => fun
  | [d1, d2, d3] => { results := [.lit (.bool true)], args := [d1, d2, d3] }
  | _ => none }
def syntaxMergeSymmetricRow : OpenClaim := { program := "ytigjmijbekhdgaa", sum := "8759dd172832d65c68a99abefaf8f8126fc06bd2dfc6504feba7d80e94ede8a5", func := "changeforge/changeforgelaw2.SyntaxMergeSymmetric", spec := "syntaxMergeSymmetric", inPlace := ["internal/bytealg.IndexByteString"], unfollowed := true, recurses := true, apart := false }
def SyntaxMergeSymmetricSaid : Prop := syntaxMergeSymmetricRow.holds Try.pinned (OpenSpec.ofChange syntaxMergeSymmetricSpec)

/-- ITS FALSE NEIGHBOUR: 'it returns false'. Refute it at one input. -/
def syntaxMergeSymmetricWrong : ChangeSpec := { name := "syntaxMergeSymmetric", fn := fun _ => fun
  | [d1, d2, d3] => { results := [.lit (.bool false)], args := [d1, d2, d3] }
  | _ => none }
def SyntaxMergeSymmetricWrongFalsely : Prop := syntaxMergeSymmetricRow.holds Try.pinned (OpenSpec.ofChange syntaxMergeSymmetricWrong)

/-- 'changeforgelaw2.SyntaxMergeValid': WHATEVER THE INPUT: true; the input reads as it did. -/
def syntaxMergeValidSpec : ChangeSpec := { name := "syntaxMergeValid", fn := fun _ => fun
  | [d1, d2, d3] => { results := [.lit (.bool true)], args := [d1, d2, d3] }
  | _ => none }
def syntaxMergeValidRow : OpenClaim := { program := "ytigjmijbekhdgaa", sum := "8759dd172832d65c68a99abefaf8f8126fc06bd2dfc6504feba7d80e94ede8a5", func := "changeforge/changeforgelaw2.SyntaxMergeValid", spec := "syntaxMergeValid", inPlace := ["internal/bytealg.IndexByteString"], unfollowed := true, recurses := true, apart := false }
def SyntaxMergeValidSaid : Prop := syntaxMergeValidRow.holds Try.pinned (OpenSpec.ofChange syntaxMergeValidSpec)

/-- ITS FALSE NEIGHBOUR: 'it returns false'. Refute it at one input. -/
def syntaxMergeValidWrong : ChangeSpec := { name := "syntaxMergeValid", fn := fun _ => fun
  | [d1, d2, d3] => { results := [.lit (.bool false)], args := [d1, d2, d3] }
  | _ => none }
def SyntaxMergeValidWrongFalsely : Prop := syntaxMergeValidRow.holds Try.pinned (OpenSpec.ofChange syntaxMergeValidWrong)

/- THE SECOND FORM. 'bulk': how many values and letters a reading holds, each counted each time it is reached (what is shared counts as often as it is met; a slice's spare places count too). A statement '..UptoSaid' is the law's where the arguments, and the package variables that the reading takes, are together of bulk at most 1048576: NARROWER than '..Said'. Prove '..Said' where nothing that the law and all that it calls make is longer than what came in: it says more and counts as full. Else prove '..UptoSaid'. A law counts once. -/
mutual
def uptoBulk {H : Type} : DataW H → Nat
  | .lit (.string bytes) => bytes.length + 1
  | .lit _ => 1
  | .nil => 1
  | .ptr d => uptoBulk d + 1
  | .slice elems spare => uptoBulkAll elems + uptoBulkAll spare + 1
  | .agg parts => uptoBulkAll parts + 1
  | .iface _ d => uptoBulk d + 1
  | .map entries => uptoBulkEntries entries + 1
  | .held _ => 1
def uptoBulkAll {H : Type} : List (DataW H) → Nat
  | [] => 0
  | d :: r => uptoBulk d + uptoBulkAll r
def uptoBulkEntries {H : Type} : List (Lit × DataW H) → Nat
  | [] => 0
  | x :: r => uptoBulkEntry x + uptoBulkEntries r
def uptoBulkEntry {H : Type} : Lit × DataW H → Nat
  | (.string bytes, d) => bytes.length + uptoBulk d + 1
  | (_, d) => uptoBulk d + 1
 end
def uptoSmall : (H : Type) → List (DataW H) → Bool := fun _ ds => decide (uptoBulkAll ds ≤ 1048576)
def OpenSpec.upto (s : _root_.Go.ChangeSpec) : _root_.Go.OpenSpec := { _root_.Go.OpenSpec.ofChange s with cond := some uptoSmall }

/-- 'changeforgelaw2.SyntaxMatchesSpec', WHERE WHAT IT READS IS OF BULK AT MOST 1048576: true; the input reads as it did. -/
def syntaxMatchesSpecUptoRow : OpenClaim := { program := "ytigjmijbekhdgaa", sum := "8759dd172832d65c68a99abefaf8f8126fc06bd2dfc6504feba7d80e94ede8a5", func := "changeforge/changeforgelaw2.SyntaxMatchesSpec", spec := "syntaxMatchesSpec", inPlace := ["internal/bytealg.IndexByteString"], unfollowed := true, recurses := true, apart := false, narrowed := true }
def SyntaxMatchesSpecUptoSaid : Prop := syntaxMatchesSpecUptoRow.holds Try.pinned (OpenSpec.upto syntaxMatchesSpecSpec)

/-- 'changeforgelaw2.SyntaxRestored', WHERE WHAT IT READS IS OF BULK AT MOST 1048576: true; the input reads as it did. -/
def syntaxRestoredUptoRow : OpenClaim := { program := "ytigjmijbekhdgaa", sum := "8759dd172832d65c68a99abefaf8f8126fc06bd2dfc6504feba7d80e94ede8a5", func := "changeforge/changeforgelaw2.SyntaxRestored", spec := "syntaxRestored", inPlace := ["internal/bytealg.IndexByteString"], unfollowed := true, recurses := true, apart := false, narrowed := true }
def SyntaxRestoredUptoSaid : Prop := syntaxRestoredUptoRow.holds Try.pinned (OpenSpec.upto syntaxRestoredSpec)

/-- 'changeforgelaw2.SyntaxNormal', WHERE WHAT IT READS IS OF BULK AT MOST 1048576: true; the input reads as it did. -/
def syntaxNormalUptoRow : OpenClaim := { program := "ytigjmijbekhdgaa", sum := "8759dd172832d65c68a99abefaf8f8126fc06bd2dfc6504feba7d80e94ede8a5", func := "changeforge/changeforgelaw2.SyntaxNormal", spec := "syntaxNormal", inPlace := ["internal/bytealg.IndexByteString"], unfollowed := true, recurses := true, apart := false, narrowed := true }
def SyntaxNormalUptoSaid : Prop := syntaxNormalUptoRow.holds Try.pinned (OpenSpec.upto syntaxNormalSpec)

/-- 'changeforgelaw2.SyntaxMergeMatchesSpec', WHERE WHAT IT READS IS OF BULK AT MOST 1048576: true; the input reads as it did. -/
def syntaxMergeMatchesSpecUptoRow : OpenClaim := { program := "ytigjmijbekhdgaa", sum := "8759dd172832d65c68a99abefaf8f8126fc06bd2dfc6504feba7d80e94ede8a5", func := "changeforge/changeforgelaw2.SyntaxMergeMatchesSpec", spec := "syntaxMergeMatchesSpec", inPlace := ["internal/bytealg.IndexByteString"], unfollowed := true, recurses := true, apart := false, narrowed := true }
def SyntaxMergeMatchesSpecUptoSaid : Prop := syntaxMergeMatchesSpecUptoRow.holds Try.pinned (OpenSpec.upto syntaxMergeMatchesSpecSpec)

/-- 'changeforgelaw2.SyntaxMergeOneSided', WHERE WHAT IT READS IS OF BULK AT MOST 1048576: true; the input reads as it did. -/
def syntaxMergeOneSidedUptoRow : OpenClaim := { program := "ytigjmijbekhdgaa", sum := "8759dd172832d65c68a99abefaf8f8126fc06bd2dfc6504feba7d80e94ede8a5", func := "changeforge/changeforgelaw2.SyntaxMergeOneSided", spec := "syntaxMergeOneSided", inPlace := ["internal/bytealg.IndexByteString"], unfollowed := true, recurses := true, apart := false, narrowed := true }
def SyntaxMergeOneSidedUptoSaid : Prop := syntaxMergeOneSidedUptoRow.holds Try.pinned (OpenSpec.upto syntaxMergeOneSidedSpec)

/-- 'changeforgelaw2.SyntaxMergeSymmetric', WHERE WHAT IT READS IS OF BULK AT MOST 1048576: true; the input reads as it did. -/
def syntaxMergeSymmetricUptoRow : OpenClaim := { program := "ytigjmijbekhdgaa", sum := "8759dd172832d65c68a99abefaf8f8126fc06bd2dfc6504feba7d80e94ede8a5", func := "changeforge/changeforgelaw2.SyntaxMergeSymmetric", spec := "syntaxMergeSymmetric", inPlace := ["internal/bytealg.IndexByteString"], unfollowed := true, recurses := true, apart := false, narrowed := true }
def SyntaxMergeSymmetricUptoSaid : Prop := syntaxMergeSymmetricUptoRow.holds Try.pinned (OpenSpec.upto syntaxMergeSymmetricSpec)

/-- 'changeforgelaw2.SyntaxMergeValid', WHERE WHAT IT READS IS OF BULK AT MOST 1048576: true; the input reads as it did. -/
def syntaxMergeValidUptoRow : OpenClaim := { program := "ytigjmijbekhdgaa", sum := "8759dd172832d65c68a99abefaf8f8126fc06bd2dfc6504feba7d80e94ede8a5", func := "changeforge/changeforgelaw2.SyntaxMergeValid", spec := "syntaxMergeValid", inPlace := ["internal/bytealg.IndexByteString"], unfollowed := true, recurses := true, apart := false, narrowed := true }
def SyntaxMergeValidUptoSaid : Prop := syntaxMergeValidUptoRow.holds Try.pinned (OpenSpec.upto syntaxMergeValidSpec)

end Rows
end Go.Proofs.Ytigjmijbekhdgaa
