/-
  No cell of these rows narrows 'for every input' (looked for: loops, veiled, ifaces, maps, wideKeys, modest, calm, conditions, laid).
  DERIVED. THE GIVEN ROWS OF THIS SEAT. 7 by the template 'for every input the law returns true; each argument reads behind the call as it read before'; 0 by the template 'total and deterministic' (their statements: YtnlleniemknjcaaTotals.lean).
  GIVEN WITH THE SEED: the statements are not yours to turn. If you find one false, say at which input.
  Laid BY PROGRAM, IN A SANDBOX (cutbox-rows.mjs): the forced cells as the released guide's own fill.sh prints them over the translation 7a649b27ed267169… (all of the seat's roots in one cut). By AI agents, Wed Nov 11 2026. No macro, syntax, notation, axiom, sorry.
-/
import Derived.Test.YtnlleniemknjcaaChecked
import GoSem.Claim
import GoSem.ClaimJoined
import GoSem.ClaimMapViews
import Derived.JoinedTies
import Derived.KernelRfl
namespace Go.Proofs.Ytnlleniemknjcaa
/- THE CELL 'sum', in the pinned program and in every row, IS THE sha256 OF THE DUMP (.gsa) THAT YtnlleniemknjcaaProg.lean LOADS. Nothing in Lean hashes anything: it is a label: what it is worth is what the hold of that sum in a sandbox is worth. -/
noncomputable def Try.pinned : Pinned := { name := "ytnlleniemknjcaa", sum := "7a649b27ed267169df4275de45e53e703231b584f6c5f03a485bfdb35764c80f", checked := Try.checked }
namespace Rows
def none {H : Type} : Left H := { results := [], args := [] }

/-- 'changeforgelaw2.BlameMatchesSpec': WHATEVER THE INPUT: true; the input reads as it did. -/
def blameMatchesSpecSpec : ChangeSpec := { name := "blameMatchesSpec", fn := fun _ => fun
  | [d] => { results := [.lit (.bool true)], args := [d] }
  | _ => none }
def blameMatchesSpecRow : OpenClaim := { program := "ytnlleniemknjcaa", sum := "7a649b27ed267169df4275de45e53e703231b584f6c5f03a485bfdb35764c80f", func := "changeforge/changeforgelaw2.BlameMatchesSpec", spec := "blameMatchesSpec", inPlace := ["internal/bytealg.IndexByteString"], unfollowed := true, recurses := true, apart := false }
def BlameMatchesSpecSaid : Prop := blameMatchesSpecRow.holds Try.pinned (OpenSpec.ofChange blameMatchesSpecSpec)

/-- ITS FALSE NEIGHBOUR: 'it returns false'. Refute it at one input. -/
def blameMatchesSpecWrong : ChangeSpec := { name := "blameMatchesSpec", fn := fun _ => fun
  | [d] => { results := [.lit (.bool false)], args := [d] }
  | _ => none }
def BlameMatchesSpecWrongFalsely : Prop := blameMatchesSpecRow.holds Try.pinned (OpenSpec.ofChange blameMatchesSpecWrong)

/-- 'changeforgelaw2.BlameOrigins': WHATEVER THE INPUT: true; the input reads as it did. -/
def blameOriginsSpec : ChangeSpec := { name := "blameOrigins", fn := fun _ => fun
  | [d] => { results := [.lit (.bool true)], args := [d] }
  | _ => none }
def blameOriginsRow : OpenClaim := { program := "ytnlleniemknjcaa", sum := "7a649b27ed267169df4275de45e53e703231b584f6c5f03a485bfdb35764c80f", func := "changeforge/changeforgelaw2.BlameOrigins", spec := "blameOrigins", inPlace := ["internal/bytealg.IndexByteString"], unfollowed := true, recurses := true, apart := false }
def BlameOriginsSaid : Prop := blameOriginsRow.holds Try.pinned (OpenSpec.ofChange blameOriginsSpec)

/-- ITS FALSE NEIGHBOUR: 'it returns false'. Refute it at one input. -/
def blameOriginsWrong : ChangeSpec := { name := "blameOrigins", fn := fun _ => fun
  | [d] => { results := [.lit (.bool false)], args := [d] }
  | _ => none }
def BlameOriginsWrongFalsely : Prop := blameOriginsRow.holds Try.pinned (OpenSpec.ofChange blameOriginsWrong)

/-- 'changeforgelaw2.BlameUnchanged': WHATEVER THE INPUT: true; the input reads as it did. -/
def blameUnchangedSpec : ChangeSpec := { name := "blameUnchanged", fn := fun _ => fun
  | [d] => { results := [.lit (.bool true)], args := [d] }
  | _ => none }
def blameUnchangedRow : OpenClaim := { program := "ytnlleniemknjcaa", sum := "7a649b27ed267169df4275de45e53e703231b584f6c5f03a485bfdb35764c80f", func := "changeforge/changeforgelaw2.BlameUnchanged", spec := "blameUnchanged", inPlace := ["internal/bytealg.IndexByteString"], unfollowed := true, recurses := true, apart := false }
def BlameUnchangedSaid : Prop := blameUnchangedRow.holds Try.pinned (OpenSpec.ofChange blameUnchangedSpec)

/-- ITS FALSE NEIGHBOUR: 'it returns false'. Refute it at one input. -/
def blameUnchangedWrong : ChangeSpec := { name := "blameUnchanged", fn := fun _ => fun
  | [d] => { results := [.lit (.bool false)], args := [d] }
  | _ => none }
def BlameUnchangedWrongFalsely : Prop := blameUnchangedRow.holds Try.pinned (OpenSpec.ofChange blameUnchangedWrong)

/-- 'changeforgelaw2.RenameSimilarityBounds': WHATEVER THE INPUT: true; the input reads as it did. -/
def renameSimilarityBoundsSpec : ChangeSpec := { name := "renameSimilarityBounds", fn := fun _ => fun
  | [d1, d2] => { results := [.lit (.bool true)], args := [d1, d2] }
  | _ => none }
def renameSimilarityBoundsRow : OpenClaim := { program := "ytnlleniemknjcaa", sum := "7a649b27ed267169df4275de45e53e703231b584f6c5f03a485bfdb35764c80f", func := "changeforge/changeforgelaw2.RenameSimilarityBounds", spec := "renameSimilarityBounds", inPlace := ["internal/bytealg.IndexByteString"], unfollowed := true, recurses := true, apart := false }
def RenameSimilarityBoundsSaid : Prop := renameSimilarityBoundsRow.holds Try.pinned (OpenSpec.ofChange renameSimilarityBoundsSpec)

/-- ITS FALSE NEIGHBOUR: 'it returns false'. Refute it at one input. -/
def renameSimilarityBoundsWrong : ChangeSpec := { name := "renameSimilarityBounds", fn := fun _ => fun
  | [d1, d2] => { results := [.lit (.bool false)], args := [d1, d2] }
  | _ => none }
def RenameSimilarityBoundsWrongFalsely : Prop := renameSimilarityBoundsRow.holds Try.pinned (OpenSpec.ofChange renameSimilarityBoundsWrong)

/-- 'changeforgelaw2.BlameNewest': WHATEVER THE INPUT: true; the input reads as it did. -/
def blameNewestSpec : ChangeSpec := { name := "blameNewest", fn := fun _ => fun
  | [d] => { results := [.lit (.bool true)], args := [d] }
  | _ => none }
def blameNewestRow : OpenClaim := { program := "ytnlleniemknjcaa", sum := "7a649b27ed267169df4275de45e53e703231b584f6c5f03a485bfdb35764c80f", func := "changeforge/changeforgelaw2.BlameNewest", spec := "blameNewest", inPlace := ["internal/bytealg.IndexByteString"], unfollowed := true, recurses := true, apart := false }
def BlameNewestSaid : Prop := blameNewestRow.holds Try.pinned (OpenSpec.ofChange blameNewestSpec)

/-- ITS FALSE NEIGHBOUR: 'it returns false'. Refute it at one input. -/
def blameNewestWrong : ChangeSpec := { name := "blameNewest", fn := fun _ => fun
  | [d] => { results := [.lit (.bool false)], args := [d] }
  | _ => none }
def BlameNewestWrongFalsely : Prop := blameNewestRow.holds Try.pinned (OpenSpec.ofChange blameNewestWrong)

/-- 'changeforgelaw2.RenameSketchUnion': WHATEVER THE INPUT: true; the input reads as it did. -/
def renameSketchUnionSpec : ChangeSpec := { name := "renameSketchUnion", fn := fun _ => fun
  | [d1, d2] => { results := [.lit (.bool true)], args := [d1, d2] }
  | _ => none }
def renameSketchUnionRow : OpenClaim := { program := "ytnlleniemknjcaa", sum := "7a649b27ed267169df4275de45e53e703231b584f6c5f03a485bfdb35764c80f", func := "changeforge/changeforgelaw2.RenameSketchUnion", spec := "renameSketchUnion", inPlace := ["internal/bytealg.IndexByteString"], unfollowed := true, recurses := true, apart := false }
def RenameSketchUnionSaid : Prop := renameSketchUnionRow.holds Try.pinned (OpenSpec.ofChange renameSketchUnionSpec)

/-- ITS FALSE NEIGHBOUR: 'it returns false'. Refute it at one input. -/
def renameSketchUnionWrong : ChangeSpec := { name := "renameSketchUnion", fn := fun _ => fun
  | [d1, d2] => { results := [.lit (.bool false)], args := [d1, d2] }
  | _ => none }
def RenameSketchUnionWrongFalsely : Prop := renameSketchUnionRow.holds Try.pinned (OpenSpec.ofChange renameSketchUnionWrong)

/-- 'changeforgelaw2.BlameEdited': WHATEVER THE INPUT: true; the input reads as it did. -/
def blameEditedSpec : ChangeSpec := { name := "blameEdited", fn := fun _ => fun
  | [d1, d2] => { results := [.lit (.bool true)], args := [d1, d2] }
  | _ => none }
def blameEditedRow : OpenClaim := { program := "ytnlleniemknjcaa", sum := "7a649b27ed267169df4275de45e53e703231b584f6c5f03a485bfdb35764c80f", func := "changeforge/changeforgelaw2.BlameEdited", spec := "blameEdited", inPlace := ["internal/bytealg.IndexByteString"], unfollowed := true, recurses := true, apart := false }
def BlameEditedSaid : Prop := blameEditedRow.holds Try.pinned (OpenSpec.ofChange blameEditedSpec)

/-- ITS FALSE NEIGHBOUR: 'it returns false'. Refute it at one input. -/
def blameEditedWrong : ChangeSpec := { name := "blameEdited", fn := fun _ => fun
  | [d1, d2] => { results := [.lit (.bool false)], args := [d1, d2] }
  | _ => none }
def BlameEditedWrongFalsely : Prop := blameEditedRow.holds Try.pinned (OpenSpec.ofChange blameEditedWrong)

/- THE SECOND FORM. 'bulk': how many values and letters a reading holds, each counted each time it is reached (what is shared counts as often as it is met; a slice's spare places count too). A statement '..UptoSaid' is the law's where the arguments, and the package variables that the reading takes, are together of bulk at most 1048576: NARROWER than '..Said'. Prove '..Said' where nothing that the law and all that it calls make is longer than what came in: it says more and counts as full. Else prove '..UptoSaid'. A law counts once. -/
mutual
def uptoBulk {H : Type} : DataW H → Nat
  | .lit (.string bytes) => bytes.length + 1
  | .lit _ => 1
  | .nil => 1
  | .ptr d => uptoBulk d + 1
  | .slice elems spare => uptoBulkAll elems + uptoBulkAll spare + 1
  | .agg parts => uptoBulkAll parts + 1
  | .iface _ d => uptoBulk d + 1
  | .map entries => uptoBulkEntries entries + 1
  | .held _ => 1
def uptoBulkAll {H : Type} : List (DataW H) → Nat
  | [] => 0
  | d :: r => uptoBulk d + uptoBulkAll r
def uptoBulkEntries {H : Type} : List (Lit × DataW H) → Nat
  | [] => 0
  | x :: r => uptoBulkEntry x + uptoBulkEntries r
def uptoBulkEntry {H : Type} : Lit × DataW H → Nat
  | (.string bytes, d) => bytes.length + uptoBulk d + 1
  | (_, d) => uptoBulk d + 1
 end
def uptoSmall : (H : Type) → List (DataW H) → Bool := fun _ ds => decide (uptoBulkAll ds ≤ 1048576)
def OpenSpec.upto (s : _root_.Go.ChangeSpec) : _root_.Go.OpenSpec := { _root_.Go.OpenSpec.ofChange s with cond := some uptoSmall }

/-- 'changeforgelaw2.BlameMatchesSpec', WHERE WHAT IT READS IS OF BULK AT MOST 1048576: true; the input reads as it did. -/
def blameMatchesSpecUptoRow : OpenClaim := { program := "ytnlleniemknjcaa", sum := "7a649b27ed267169df4275de45e53e703231b584f6c5f03a485bfdb35764c80f", func := "changeforge/changeforgelaw2.BlameMatchesSpec", spec := "blameMatchesSpec", inPlace := ["internal/bytealg.IndexByteString"], unfollowed := true, recurses := true, apart := false, narrowed := true }
def BlameMatchesSpecUptoSaid : Prop := blameMatchesSpecUptoRow.holds Try.pinned (OpenSpec.upto blameMatchesSpecSpec)

/-- 'changeforgelaw2.BlameOrigins', WHERE WHAT IT READS IS OF BULK AT MOST 1048576: true; the input reads as it did. -/
def blameOriginsUptoRow : OpenClaim := { program := "ytnlleniemknjcaa", sum := "7a649b27ed267169df4275de45e53e703231b584f6c5f03a485bfdb35764c80f", func := "changeforge/changeforgelaw2.BlameOrigins", spec := "blameOrigins", inPlace := ["internal/bytealg.IndexByteString"], unfollowed := true, recurses := true, apart := false, narrowed := true }
def BlameOriginsUptoSaid : Prop := blameOriginsUptoRow.holds Try.pinned (OpenSpec.upto blameOriginsSpec)

/-- 'changeforgelaw2.BlameUnchanged', WHERE WHAT IT READS IS OF BULK AT MOST 1048576: true; the input reads as it did. -/
def blameUnchangedUptoRow : OpenClaim := { program := "ytnlleniemknjcaa", sum := "7a649b27ed267169df4275de45e53e703231b584f6c5f03a485bfdb35764c80f", func := "changeforge/changeforgelaw2.BlameUnchanged", spec := "blameUnchanged", inPlace := ["internal/bytealg.IndexByteString"], unfollowed := true, recurses := true, apart := false, narrowed := true }
def BlameUnchangedUptoSaid : Prop := blameUnchangedUptoRow.holds Try.pinned (OpenSpec.upto blameUnchangedSpec)

/-- 'changeforgelaw2.RenameSimilarityBounds', WHERE WHAT IT READS IS OF BULK AT MOST 1048576: true; the input reads as it did. -/
def renameSimilarityBoundsUptoRow : OpenClaim := { program := "ytnlleniemknjcaa", sum := "7a649b27ed267169df4275de45e53e703231b584f6c5f03a485bfdb35764c80f", func := "changeforge/changeforgelaw2.RenameSimilarityBounds", spec := "renameSimilarityBounds", inPlace := ["internal/bytealg.IndexByteString"], unfollowed := true, recurses := true, apart := false, narrowed := true }
def RenameSimilarityBoundsUptoSaid : Prop := renameSimilarityBoundsUptoRow.holds Try.pinned (OpenSpec.upto renameSimilarityBoundsSpec)

/-- 'changeforgelaw2.BlameNewest', WHERE WHAT IT READS IS OF BULK AT MOST 1048576: true; the input reads as it did. -/
def blameNewestUptoRow : OpenClaim := { program := "ytnlleniemknjcaa", sum := "7a649b27ed267169df4275de45e53e703231b584f6c5f03a485bfdb35764c80f", func := "changeforge/changeforgelaw2.BlameNewest", spec := "blameNewest", inPlace := ["internal/bytealg.IndexByteString"], unfollowed := true, recurses := true, apart := false, narrowed := true }
def BlameNewestUptoSaid : Prop := blameNewestUptoRow.holds Try.pinned (OpenSpec.upto blameNewestSpec)

/-- 'changeforgelaw2.RenameSketchUnion', WHERE WHAT IT READS IS OF BULK AT MOST 1048576: true; the input reads as it did. -/
def renameSketchUnionUptoRow : OpenClaim := { program := "ytnlleniemknjcaa", sum := "7a649b27ed267169df4275de45e53e703231b584f6c5f03a485bfdb35764c80f", func := "changeforge/changeforgelaw2.RenameSketchUnion", spec := "renameSketchUnion", inPlace := ["internal/bytealg.IndexByteString"], unfollowed := true, recurses := true, apart := false, narrowed := true }
def RenameSketchUnionUptoSaid : Prop := renameSketchUnionUptoRow.holds Try.pinned (OpenSpec.upto renameSketchUnionSpec)

/-- 'changeforgelaw2.BlameEdited', WHERE WHAT IT READS IS OF BULK AT MOST 1048576: true; the input reads as it did. -/
def blameEditedUptoRow : OpenClaim := { program := "ytnlleniemknjcaa", sum := "7a649b27ed267169df4275de45e53e703231b584f6c5f03a485bfdb35764c80f", func := "changeforge/changeforgelaw2.BlameEdited", spec := "blameEdited", inPlace := ["internal/bytealg.IndexByteString"], unfollowed := true, recurses := true, apart := false, narrowed := true }
def BlameEditedUptoSaid : Prop := blameEditedUptoRow.holds Try.pinned (OpenSpec.upto blameEditedSpec)

end Rows
end Go.Proofs.Ytnlleniemknjcaa
