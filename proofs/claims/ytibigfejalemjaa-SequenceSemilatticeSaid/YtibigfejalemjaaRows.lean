/-
  No cell of these rows narrows 'for every input' (looked for: loops, veiled, ifaces, maps, wideKeys, modest, calm, conditions, laid).
  DERIVED. THE GIVEN ROWS OF THIS SEAT. 6 by the template 'for every input the law returns true; each argument reads behind the call as it read before'; 0 by the template 'total and deterministic' (their statements: YtibigfejalemjaaTotals.lean).
  GIVEN WITH THE SEED: the statements are not yours to turn. If you find one false, say at which input.
  Laid BY PROGRAM, IN A SANDBOX (cutbox-rows.mjs): the forced cells as the released guide's own fill.sh prints them over the translation 60e9a4ddc1370a6b… (all of the seat's roots in one cut). By AI agents, Wed Nov 11 2026. No macro, syntax, notation, axiom, sorry.
-/
import Derived.Test.YtibigfejalemjaaChecked
import GoSem.Claim
import GoSem.ClaimJoined
import GoSem.ClaimMapViews
import Derived.JoinedTies
import Derived.KernelRfl
namespace Go.Proofs.Ytibigfejalemjaa
/- THE CELL 'sum', in the pinned program and in every row, IS THE sha256 OF THE DUMP (.gsa) THAT YtibigfejalemjaaProg.lean LOADS. Nothing in Lean hashes anything: it is a label: what it is worth is what the hold of that sum in a sandbox is worth. -/
noncomputable def Try.pinned : Pinned := { name := "ytibigfejalemjaa", sum := "60e9a4ddc1370a6b355a839db7166619effa98a96d242fd8ff37e4dceaf3fd2c", checked := Try.checked }
namespace Rows
def none {H : Type} : Left H := { results := [], args := [] }

/-- 'changeforgelaw2.SequenceOrderFree': WHATEVER THE INPUT: true; the input reads as it did. -/
def sequenceOrderFreeSpec : ChangeSpec := { name := "sequenceOrderFree", fn := fun _ => fun
  | [d1, d2] => { results := [.lit (.bool true)], args := [d1, d2] }
  | _ => none }
def sequenceOrderFreeRow : OpenClaim := { program := "ytibigfejalemjaa", sum := "60e9a4ddc1370a6b355a839db7166619effa98a96d242fd8ff37e4dceaf3fd2c", func := "changeforge/changeforgelaw2.SequenceOrderFree", spec := "sequenceOrderFree", inPlace := ["internal/bytealg.IndexByteString"], unfollowed := true, recurses := true, plainKeys := false, apart := false }
def SequenceOrderFreeSaid : Prop := sequenceOrderFreeRow.holds Try.pinned (OpenSpec.ofChange sequenceOrderFreeSpec)

/-- ITS FALSE NEIGHBOUR: 'it returns false'. Refute it at one input. -/
def sequenceOrderFreeWrong : ChangeSpec := { name := "sequenceOrderFree", fn := fun _ => fun
  | [d1, d2] => { results := [.lit (.bool false)], args := [d1, d2] }
  | _ => none }
def SequenceOrderFreeWrongFalsely : Prop := sequenceOrderFreeRow.holds Try.pinned (OpenSpec.ofChange sequenceOrderFreeWrong)

/-- 'changeforgelaw2.SequenceInserts': WHATEVER THE INPUT: true; the input reads as it did. -/
def sequenceInsertsSpec : ChangeSpec := { name := "sequenceInserts", fn := fun _ => fun
  | [d1, d2] => { results := [.lit (.bool true)], args := [d1, d2] }
  | _ => none }
def sequenceInsertsRow : OpenClaim := { program := "ytibigfejalemjaa", sum := "60e9a4ddc1370a6b355a839db7166619effa98a96d242fd8ff37e4dceaf3fd2c", func := "changeforge/changeforgelaw2.SequenceInserts", spec := "sequenceInserts", inPlace := ["internal/bytealg.IndexByteString"], unfollowed := true, recurses := true, plainKeys := false, apart := false }
def SequenceInsertsSaid : Prop := sequenceInsertsRow.holds Try.pinned (OpenSpec.ofChange sequenceInsertsSpec)

/-- ITS FALSE NEIGHBOUR: 'it returns false'. Refute it at one input. -/
def sequenceInsertsWrong : ChangeSpec := { name := "sequenceInserts", fn := fun _ => fun
  | [d1, d2] => { results := [.lit (.bool false)], args := [d1, d2] }
  | _ => none }
def SequenceInsertsWrongFalsely : Prop := sequenceInsertsRow.holds Try.pinned (OpenSpec.ofChange sequenceInsertsWrong)

/-- 'changeforgelaw2.SequenceDeletes': WHATEVER THE INPUT: true; the input reads as it did. -/
def sequenceDeletesSpec : ChangeSpec := { name := "sequenceDeletes", fn := fun _ => fun
  | [d1, d2] => { results := [.lit (.bool true)], args := [d1, d2] }
  | _ => none }
def sequenceDeletesRow : OpenClaim := { program := "ytibigfejalemjaa", sum := "60e9a4ddc1370a6b355a839db7166619effa98a96d242fd8ff37e4dceaf3fd2c", func := "changeforge/changeforgelaw2.SequenceDeletes", spec := "sequenceDeletes", inPlace := ["internal/bytealg.IndexByteString"], unfollowed := true, recurses := true, plainKeys := false, apart := false }
def SequenceDeletesSaid : Prop := sequenceDeletesRow.holds Try.pinned (OpenSpec.ofChange sequenceDeletesSpec)

/-- ITS FALSE NEIGHBOUR: 'it returns false'. Refute it at one input. -/
def sequenceDeletesWrong : ChangeSpec := { name := "sequenceDeletes", fn := fun _ => fun
  | [d1, d2] => { results := [.lit (.bool false)], args := [d1, d2] }
  | _ => none }
def SequenceDeletesWrongFalsely : Prop := sequenceDeletesRow.holds Try.pinned (OpenSpec.ofChange sequenceDeletesWrong)

/-- 'changeforgelaw2.SequenceTyped': WHATEVER THE INPUT: true; the input reads as it did. -/
def sequenceTypedSpec : ChangeSpec := { name := "sequenceTyped", fn := fun _ => fun
  | [d1, d2] => { results := [.lit (.bool true)], args := [d1, d2] }
  | _ => none }
def sequenceTypedRow : OpenClaim := { program := "ytibigfejalemjaa", sum := "60e9a4ddc1370a6b355a839db7166619effa98a96d242fd8ff37e4dceaf3fd2c", func := "changeforge/changeforgelaw2.SequenceTyped", spec := "sequenceTyped", inPlace := ["internal/bytealg.IndexByteString"], unfollowed := true, recurses := true, plainKeys := false, apart := false }
def SequenceTypedSaid : Prop := sequenceTypedRow.holds Try.pinned (OpenSpec.ofChange sequenceTypedSpec)

/-- ITS FALSE NEIGHBOUR: 'it returns false'. Refute it at one input. -/
def sequenceTypedWrong : ChangeSpec := { name := "sequenceTyped", fn := fun _ => fun
  | [d1, d2] => { results := [.lit (.bool false)], args := [d1, d2] }
  | _ => none }
def SequenceTypedWrongFalsely : Prop := sequenceTypedRow.holds Try.pinned (OpenSpec.ofChange sequenceTypedWrong)

/-- 'changeforgelaw2.SequenceMatchesSpec': WHATEVER THE INPUT: true; the input reads as it did. -/
def sequenceMatchesSpecSpec : ChangeSpec := { name := "sequenceMatchesSpec", fn := fun _ => fun
  | [d1, d2] => { results := [.lit (.bool true)], args := [d1, d2] }
  | _ => none }
def sequenceMatchesSpecRow : OpenClaim := { program := "ytibigfejalemjaa", sum := "60e9a4ddc1370a6b355a839db7166619effa98a96d242fd8ff37e4dceaf3fd2c", func := "changeforge/changeforgelaw2.SequenceMatchesSpec", spec := "sequenceMatchesSpec", inPlace := ["internal/bytealg.IndexByteString"], unfollowed := true, recurses := true, plainKeys := false, apart := false }
def SequenceMatchesSpecSaid : Prop := sequenceMatchesSpecRow.holds Try.pinned (OpenSpec.ofChange sequenceMatchesSpecSpec)

/-- ITS FALSE NEIGHBOUR: 'it returns false'. Refute it at one input. -/
def sequenceMatchesSpecWrong : ChangeSpec := { name := "sequenceMatchesSpec", fn := fun _ => fun
  | [d1, d2] => { results := [.lit (.bool false)], args := [d1, d2] }
  | _ => none }
def SequenceMatchesSpecWrongFalsely : Prop := sequenceMatchesSpecRow.holds Try.pinned (OpenSpec.ofChange sequenceMatchesSpecWrong)

/-- 'changeforgelaw2.SequenceSemilattice': WHATEVER THE INPUT: true; the input reads as it did. -/
def sequenceSemilatticeSpec : ChangeSpec := { name := "sequenceSemilattice", fn := fun _ => fun
  | [d1, d2, d3] => { results := [.lit (.bool true)], args := [d1, d2, d3] }
  | _ => none }
def sequenceSemilatticeRow : OpenClaim := { program := "ytibigfejalemjaa", sum := "60e9a4ddc1370a6b355a839db7166619effa98a96d242fd8ff37e4dceaf3fd2c", func := "changeforge/changeforgelaw2.SequenceSemilattice", spec := "sequenceSemilattice", inPlace := ["internal/bytealg.IndexByteString"], unfollowed := true, recurses := true, plainKeys := false, apart := false }
def SequenceSemilatticeSaid : Prop := sequenceSemilatticeRow.holds Try.pinned (OpenSpec.ofChange sequenceSemilatticeSpec)

/-- ITS FALSE NEIGHBOUR: 'it returns false'. Refute it at one input. -/
def sequenceSemilatticeWrong : ChangeSpec := { name := "sequenceSemilattice", fn := fun _ => fun
  | [d1, d2, d3] => { results := [.lit (.bool false)], args := [d1, d2, d3] }
  | _ => none }
def SequenceSemilatticeWrongFalsely : Prop := sequenceSemilatticeRow.holds Try.pinned (OpenSpec.ofChange sequenceSemilatticeWrong)

/- THE SECOND FORM. 'bulk': how many values and letters a reading holds, each counted each time it is reached (what is shared counts as often as it is met; a slice's spare places count too). A statement '..UptoSaid' is the law's where the arguments, and the package variables that the reading takes, are together of bulk at most 1048576: NARROWER than '..Said'. Prove '..Said' where nothing that the law and all that it calls make is longer than what came in: it says more and counts as full. Else prove '..UptoSaid'. A law counts once. -/
mutual
def uptoBulk {H : Type} : DataW H → Nat
  | .lit (.string bytes) => bytes.length + 1
  | .lit _ => 1
  | .nil => 1
  | .ptr d => uptoBulk d + 1
  | .slice elems spare => uptoBulkAll elems + uptoBulkAll spare + 1
  | .agg parts => uptoBulkAll parts + 1
  | .iface _ d => uptoBulk d + 1
  | .map entries => uptoBulkEntries entries + 1
  | .held _ => 1
def uptoBulkAll {H : Type} : List (DataW H) → Nat
  | [] => 0
  | d :: r => uptoBulk d + uptoBulkAll r
def uptoBulkEntries {H : Type} : List (Lit × DataW H) → Nat
  | [] => 0
  | x :: r => uptoBulkEntry x + uptoBulkEntries r
def uptoBulkEntry {H : Type} : Lit × DataW H → Nat
  | (.string bytes, d) => bytes.length + uptoBulk d + 1
  | (_, d) => uptoBulk d + 1
 end
def uptoSmall : (H : Type) → List (DataW H) → Bool := fun _ ds => decide (uptoBulkAll ds ≤ 1048576)
def OpenSpec.upto (s : _root_.Go.ChangeSpec) : _root_.Go.OpenSpec := { _root_.Go.OpenSpec.ofChange s with cond := some uptoSmall }

/-- 'changeforgelaw2.SequenceOrderFree', WHERE WHAT IT READS IS OF BULK AT MOST 1048576: true; the input reads as it did. -/
def sequenceOrderFreeUptoRow : OpenClaim := { program := "ytibigfejalemjaa", sum := "60e9a4ddc1370a6b355a839db7166619effa98a96d242fd8ff37e4dceaf3fd2c", func := "changeforge/changeforgelaw2.SequenceOrderFree", spec := "sequenceOrderFree", inPlace := ["internal/bytealg.IndexByteString"], unfollowed := true, recurses := true, plainKeys := false, apart := false, narrowed := true }
def SequenceOrderFreeUptoSaid : Prop := sequenceOrderFreeUptoRow.holds Try.pinned (OpenSpec.upto sequenceOrderFreeSpec)

/-- 'changeforgelaw2.SequenceInserts', WHERE WHAT IT READS IS OF BULK AT MOST 1048576: true; the input reads as it did. -/
def sequenceInsertsUptoRow : OpenClaim := { program := "ytibigfejalemjaa", sum := "60e9a4ddc1370a6b355a839db7166619effa98a96d242fd8ff37e4dceaf3fd2c", func := "changeforge/changeforgelaw2.SequenceInserts", spec := "sequenceInserts", inPlace := ["internal/bytealg.IndexByteString"], unfollowed := true, recurses := true, plainKeys := false, apart := false, narrowed := true }
def SequenceInsertsUptoSaid : Prop := sequenceInsertsUptoRow.holds Try.pinned (OpenSpec.upto sequenceInsertsSpec)

/-- 'changeforgelaw2.SequenceDeletes', WHERE WHAT IT READS IS OF BULK AT MOST 1048576: true; the input reads as it did. -/
def sequenceDeletesUptoRow : OpenClaim := { program := "ytibigfejalemjaa", sum := "60e9a4ddc1370a6b355a839db7166619effa98a96d242fd8ff37e4dceaf3fd2c", func := "changeforge/changeforgelaw2.SequenceDeletes", spec := "sequenceDeletes", inPlace := ["internal/bytealg.IndexByteString"], unfollowed := true, recurses := true, plainKeys := false, apart := false, narrowed := true }
def SequenceDeletesUptoSaid : Prop := sequenceDeletesUptoRow.holds Try.pinned (OpenSpec.upto sequenceDeletesSpec)

/-- 'changeforgelaw2.SequenceTyped', WHERE WHAT IT READS IS OF BULK AT MOST 1048576: true; the input reads as it did. -/
def sequenceTypedUptoRow : OpenClaim := { program := "ytibigfejalemjaa", sum := "60e9a4ddc1370a6b355a839db7166619effa98a96d242fd8ff37e4dceaf3fd2c", func := "changeforge/changeforgelaw2.SequenceTyped", spec := "sequenceTyped", inPlace := ["internal/bytealg.IndexByteString"], unfollowed := true, recurses := true, plainKeys := false, apart := false, narrowed := true }
def SequenceTypedUptoSaid : Prop := sequenceTypedUptoRow.holds Try.pinned (OpenSpec.upto sequenceTypedSpec)

/-- 'changeforgelaw2.SequenceMatchesSpec', WHERE WHAT IT READS IS OF BULK AT MOST 1048576: true; the input reads as it did. -/
def sequenceMatchesSpecUptoRow : OpenClaim := { program := "ytibigfejalemjaa", sum := "60e9a4ddc1370a6b355a839db7166619effa98a96d242fd8ff37e4dceaf3fd2c", func := "changeforge/changeforgelaw2.SequenceMatchesSpec", spec := "sequenceMatchesSpec", inPlace := ["internal/bytealg.IndexByteString"], unfollowed := true, recurses := true, plainKeys := false, apart := false, narrowed := true }
def SequenceMatchesSpecUptoSaid : Prop := sequenceMatchesSpecUptoRow.holds Try.pinned (OpenSpec.upto sequenceMatchesSpecSpec)

/-- 'changeforgelaw2.SequenceSemilattice', WHERE WHAT IT READS IS OF BULK AT MOST 1048576: true; the input reads as it did. -/
def sequenceSemilatticeUptoRow : OpenClaim := { program := "ytibigfejalemjaa", sum := "60e9a4ddc1370a6b355a839db7166619effa98a96d242fd8ff37e4dceaf3fd2c", func := "changeforge/changeforgelaw2.SequenceSemilattice", spec := "sequenceSemilattice", inPlace := ["internal/bytealg.IndexByteString"], unfollowed := true, recurses := true, plainKeys := false, apart := false, narrowed := true }
def SequenceSemilatticeUptoSaid : Prop := sequenceSemilatticeUptoRow.holds Try.pinned (OpenSpec.upto sequenceSemilatticeSpec)

end Rows
end Go.Proofs.Ytibigfejalemjaa
