/-
  No cell of these rows narrows 'for every input' (looked for: loops, veiled, ifaces, maps, wideKeys, modest, calm, conditions, laid).
  DERIVED. THE GIVEN ROWS OF THIS SEAT. 6 by the template 'for every input the law returns true; each argument reads behind the call as it read before'; 0 by the template 'total and deterministic' (their statements: YtladljignaanfaaTotals.lean).
  GIVEN WITH THE SEED: the statements are not yours to turn. If you find one false, say at which input.
  Laid BY PROGRAM, IN A SANDBOX (cutbox-rows.mjs): the forced cells as the released guide's own fill.sh prints them over the translation 69dd6853847588d9… (all of the seat's roots in one cut). By AI agents, Wed Nov 11 2026. No macro, syntax, notation, axiom, sorry.
-/
import Derived.Test.YtladljignaanfaaChecked
import GoSem.Claim
import GoSem.ClaimJoined
import GoSem.ClaimMapViews
import Derived.JoinedTies
import Derived.KernelRfl
namespace Go.Proofs.Ytladljignaanfaa
/- THE CELL 'sum', in the pinned program and in every row, IS THE sha256 OF THE DUMP (.gsa) THAT YtladljignaanfaaProg.lean LOADS. Nothing in Lean hashes anything: it is a label: what it is worth is what the hold of that sum in a sandbox is worth. -/
noncomputable def Try.pinned : Pinned := { name := "ytladljignaanfaa", sum := "69dd6853847588d9d7d098270aaf1edd0ebedecda67bc37c5855f56e7665791c", checked := Try.checked }
namespace Rows
def none {H : Type} : Left H := { results := [], args := [] }

/-- 'changeforgelaw2.MultivalueMatchesSpec': WHATEVER THE INPUT: true; the input reads as it did. -/
def multivalueMatchesSpecSpec : ChangeSpec := { name := "multivalueMatchesSpec", fn := fun _ => fun
  | [d1, d2, d3, d4] => { results := [.lit (.bool true)], args := [d1, d2, d3, d4] }
  | _ => none }
def multivalueMatchesSpecRow : OpenClaim := { program := "ytladljignaanfaa", sum := "69dd6853847588d9d7d098270aaf1edd0ebedecda67bc37c5855f56e7665791c", func := "changeforge/changeforgelaw2.MultivalueMatchesSpec", spec := "multivalueMatchesSpec", unfollowed := true, recurses := true, apart := false }
def MultivalueMatchesSpecSaid : Prop := multivalueMatchesSpecRow.holds Try.pinned (OpenSpec.ofChange multivalueMatchesSpecSpec)

/-- ITS FALSE NEIGHBOUR: 'it returns false'. Refute it at one input. -/
def multivalueMatchesSpecWrong : ChangeSpec := { name := "multivalueMatchesSpec", fn := fun _ => fun
  | [d1, d2, d3, d4] => { results := [.lit (.bool false)], args := [d1, d2, d3, d4] }
  | _ => none }
def MultivalueMatchesSpecWrongFalsely : Prop := multivalueMatchesSpecRow.holds Try.pinned (OpenSpec.ofChange multivalueMatchesSpecWrong)

/-- 'changeforgelaw2.MultivalueSemilattice': WHATEVER THE INPUT: true; the input reads as it did. -/
def multivalueSemilatticeSpec : ChangeSpec := { name := "multivalueSemilattice", fn := fun _ => fun
  | [d1, d2, d3] => { results := [.lit (.bool true)], args := [d1, d2, d3] }
  | _ => none }
def multivalueSemilatticeRow : OpenClaim := { program := "ytladljignaanfaa", sum := "69dd6853847588d9d7d098270aaf1edd0ebedecda67bc37c5855f56e7665791c", func := "changeforge/changeforgelaw2.MultivalueSemilattice", spec := "multivalueSemilattice", unfollowed := true, recurses := true, apart := false }
def MultivalueSemilatticeSaid : Prop := multivalueSemilatticeRow.holds Try.pinned (OpenSpec.ofChange multivalueSemilatticeSpec)

/-- ITS FALSE NEIGHBOUR: 'it returns false'. Refute it at one input. -/
def multivalueSemilatticeWrong : ChangeSpec := { name := "multivalueSemilattice", fn := fun _ => fun
  | [d1, d2, d3] => { results := [.lit (.bool false)], args := [d1, d2, d3] }
  | _ => none }
def MultivalueSemilatticeWrongFalsely : Prop := multivalueSemilatticeRow.holds Try.pinned (OpenSpec.ofChange multivalueSemilatticeWrong)

/-- 'changeforgelaw2.MultivalueWriteWins': WHATEVER THE INPUT: true; the input reads as it did. -/
def multivalueWriteWinsSpec : ChangeSpec := { name := "multivalueWriteWins", fn := fun _ => fun
  | [d1, d2, d3] => { results := [.lit (.bool true)], args := [d1, d2, d3] }
  | _ => none }
def multivalueWriteWinsRow : OpenClaim := { program := "ytladljignaanfaa", sum := "69dd6853847588d9d7d098270aaf1edd0ebedecda67bc37c5855f56e7665791c", func := "changeforge/changeforgelaw2.MultivalueWriteWins", spec := "multivalueWriteWins", unfollowed := true, recurses := true, apart := false }
def MultivalueWriteWinsSaid : Prop := multivalueWriteWinsRow.holds Try.pinned (OpenSpec.ofChange multivalueWriteWinsSpec)

/-- ITS FALSE NEIGHBOUR: 'it returns false'. Refute it at one input. -/
def multivalueWriteWinsWrong : ChangeSpec := { name := "multivalueWriteWins", fn := fun _ => fun
  | [d1, d2, d3] => { results := [.lit (.bool false)], args := [d1, d2, d3] }
  | _ => none }
def MultivalueWriteWinsWrongFalsely : Prop := multivalueWriteWinsRow.holds Try.pinned (OpenSpec.ofChange multivalueWriteWinsWrong)

/-- 'changeforgelaw2.MultivalueConcurrent': WHATEVER THE INPUT: true; the input reads as it did. -/
def multivalueConcurrentSpec : ChangeSpec := { name := "multivalueConcurrent", fn := fun _ => fun
  | [d1, d2, d3, d4, d5] => { results := [.lit (.bool true)], args := [d1, d2, d3, d4, d5] }
  | _ => none }
def multivalueConcurrentRow : OpenClaim := { program := "ytladljignaanfaa", sum := "69dd6853847588d9d7d098270aaf1edd0ebedecda67bc37c5855f56e7665791c", func := "changeforge/changeforgelaw2.MultivalueConcurrent", spec := "multivalueConcurrent", unfollowed := true, recurses := true, apart := false }
def MultivalueConcurrentSaid : Prop := multivalueConcurrentRow.holds Try.pinned (OpenSpec.ofChange multivalueConcurrentSpec)

/-- ITS FALSE NEIGHBOUR: 'it returns false'. Refute it at one input. -/
def multivalueConcurrentWrong : ChangeSpec := { name := "multivalueConcurrent", fn := fun _ => fun
  | [d1, d2, d3, d4, d5] => { results := [.lit (.bool false)], args := [d1, d2, d3, d4, d5] }
  | _ => none }
def MultivalueConcurrentWrongFalsely : Prop := multivalueConcurrentRow.holds Try.pinned (OpenSpec.ofChange multivalueConcurrentWrong)

/-- 'changeforgelaw2.MultivalueCovers': WHATEVER THE INPUT: true; the input reads as it did. -/
def multivalueCoversSpec : ChangeSpec := { name := "multivalueCovers", fn := fun _ => fun
  | [d1, d2, d3] => { results := [.lit (.bool true)], args := [d1, d2, d3] }
  | _ => none }
def multivalueCoversRow : OpenClaim := { program := "ytladljignaanfaa", sum := "69dd6853847588d9d7d098270aaf1edd0ebedecda67bc37c5855f56e7665791c", func := "changeforge/changeforgelaw2.MultivalueCovers", spec := "multivalueCovers", unfollowed := true, recurses := true, apart := false }
def MultivalueCoversSaid : Prop := multivalueCoversRow.holds Try.pinned (OpenSpec.ofChange multivalueCoversSpec)

/-- ITS FALSE NEIGHBOUR: 'it returns false'. Refute it at one input. -/
def multivalueCoversWrong : ChangeSpec := { name := "multivalueCovers", fn := fun _ => fun
  | [d1, d2, d3] => { results := [.lit (.bool false)], args := [d1, d2, d3] }
  | _ => none }
def MultivalueCoversWrongFalsely : Prop := multivalueCoversRow.holds Try.pinned (OpenSpec.ofChange multivalueCoversWrong)

/-- 'changeforgelaw2.MultivalueResolves': WHATEVER THE INPUT: true; the input reads as it did. -/
def multivalueResolvesSpec : ChangeSpec := { name := "multivalueResolves", fn := fun _ => fun
  | [d1, d2, d3, d4] => { results := [.lit (.bool true)], args := [d1, d2, d3, d4] }
  | _ => none }
def multivalueResolvesRow : OpenClaim := { program := "ytladljignaanfaa", sum := "69dd6853847588d9d7d098270aaf1edd0ebedecda67bc37c5855f56e7665791c", func := "changeforge/changeforgelaw2.MultivalueResolves", spec := "multivalueResolves", unfollowed := true, recurses := true, apart := false }
def MultivalueResolvesSaid : Prop := multivalueResolvesRow.holds Try.pinned (OpenSpec.ofChange multivalueResolvesSpec)

/-- ITS FALSE NEIGHBOUR: 'it returns false'. Refute it at one input. -/
def multivalueResolvesWrong : ChangeSpec := { name := "multivalueResolves", fn := fun _ => fun
  | [d1, d2, d3, d4] => { results := [.lit (.bool false)], args := [d1, d2, d3, d4] }
  | _ => none }
def MultivalueResolvesWrongFalsely : Prop := multivalueResolvesRow.holds Try.pinned (OpenSpec.ofChange multivalueResolvesWrong)

/- THE SECOND FORM. 'bulk': how many values and letters a reading holds, each counted each time it is reached (what is shared counts as often as it is met; a slice's spare places count too). A statement '..UptoSaid' is the law's where the arguments, and the package variables that the reading takes, are together of bulk at most 1048576: NARROWER than '..Said'. Prove '..Said' where nothing that the law and all that it calls make is longer than what came in: it says more and counts as full. Else prove '..UptoSaid'. A law counts once. -/
mutual
def uptoBulk {H : Type} : DataW H → Nat
  | .lit (.string bytes) => bytes.length + 1
  | .lit _ => 1
  | .nil => 1
  | .ptr d => uptoBulk d + 1
  | .slice elems spare => uptoBulkAll elems + uptoBulkAll spare + 1
  | .agg parts => uptoBulkAll parts + 1
  | .iface _ d => uptoBulk d + 1
  | .map entries => uptoBulkEntries entries + 1
  | .held _ => 1
def uptoBulkAll {H : Type} : List (DataW H) → Nat
  | [] => 0
  | d :: r => uptoBulk d + uptoBulkAll r
def uptoBulkEntries {H : Type} : List (Lit × DataW H) → Nat
  | [] => 0
  | x :: r => uptoBulkEntry x + uptoBulkEntries r
def uptoBulkEntry {H : Type} : Lit × DataW H → Nat
  | (.string bytes, d) => bytes.length + uptoBulk d + 1
  | (_, d) => uptoBulk d + 1
 end
def uptoSmall : (H : Type) → List (DataW H) → Bool := fun _ ds => decide (uptoBulkAll ds ≤ 1048576)
def OpenSpec.upto (s : _root_.Go.ChangeSpec) : _root_.Go.OpenSpec := { _root_.Go.OpenSpec.ofChange s with cond := some uptoSmall }

/-- 'changeforgelaw2.MultivalueMatchesSpec', WHERE WHAT IT READS IS OF BULK AT MOST 1048576: true; the input reads as it did. -/
def multivalueMatchesSpecUptoRow : OpenClaim := { program := "ytladljignaanfaa", sum := "69dd6853847588d9d7d098270aaf1edd0ebedecda67bc37c5855f56e7665791c", func := "changeforge/changeforgelaw2.MultivalueMatchesSpec", spec := "multivalueMatchesSpec", unfollowed := true, recurses := true, apart := false, narrowed := true }
def MultivalueMatchesSpecUptoSaid : Prop := multivalueMatchesSpecUptoRow.holds Try.pinned (OpenSpec.upto multivalueMatchesSpecSpec)

/-- 'changeforgelaw2.MultivalueSemilattice', WHERE WHAT IT READS IS OF BULK AT MOST 1048576: true; the input reads as it did. -/
def multivalueSemilatticeUptoRow : OpenClaim := { program := "ytladljignaanfaa", sum := "69dd6853847588d9d7d098270aaf1edd0ebedecda67bc37c5855f56e7665791c", func := "changeforge/changeforgelaw2.MultivalueSemilattice", spec := "multivalueSemilattice", unfollowed := true, recurses := true, apart := false, narrowed := true }
def MultivalueSemilatticeUptoSaid : Prop := multivalueSemilatticeUptoRow.holds Try.pinned (OpenSpec.upto multivalueSemilatticeSpec)

/-- 'changeforgelaw2.MultivalueWriteWins', WHERE WHAT IT READS IS OF BULK AT MOST 1048576: true; the input reads as it did. -/
def multivalueWriteWinsUptoRow : OpenClaim := { program := "ytladljignaanfaa", sum := "69dd6853847588d9d7d098270aaf1edd0ebedecda67bc37c5855f56e7665791c", func := "changeforge/changeforgelaw2.MultivalueWriteWins", spec := "multivalueWriteWins", unfollowed := true, recurses := true, apart := false, narrowed := true }
def MultivalueWriteWinsUptoSaid : Prop := multivalueWriteWinsUptoRow.holds Try.pinned (OpenSpec.upto multivalueWriteWinsSpec)

/-- 'changeforgelaw2.MultivalueConcurrent', WHERE WHAT IT READS IS OF BULK AT MOST 1048576: true; the input reads as it did. -/
def multivalueConcurrentUptoRow : OpenClaim := { program := "ytladljignaanfaa", sum := "69dd6853847588d9d7d098270aaf1edd0ebedecda67bc37c5855f56e7665791c", func := "changeforge/changeforgelaw2.MultivalueConcurrent", spec := "multivalueConcurrent", unfollowed := true, recurses := true, apart := false, narrowed := true }
def MultivalueConcurrentUptoSaid : Prop := multivalueConcurrentUptoRow.holds Try.pinned (OpenSpec.upto multivalueConcurrentSpec)

/-- 'changeforgelaw2.MultivalueCovers', WHERE WHAT IT READS IS OF BULK AT MOST 1048576: true; the input reads as it did. -/
def multivalueCoversUptoRow : OpenClaim := { program := "ytladljignaanfaa", sum := "69dd6853847588d9d7d098270aaf1edd0ebedecda67bc37c5855f56e7665791c", func := "changeforge/changeforgelaw2.MultivalueCovers", spec := "multivalueCovers", unfollowed := true, recurses := true, apart := false, narrowed := true }
def MultivalueCoversUptoSaid : Prop := multivalueCoversUptoRow.holds Try.pinned (OpenSpec.upto multivalueCoversSpec)

/-- 'changeforgelaw2.MultivalueResolves', WHERE WHAT IT READS IS OF BULK AT MOST 1048576: true; the input reads as it did. -/
def multivalueResolvesUptoRow : OpenClaim := { program := "ytladljignaanfaa", sum := "69dd6853847588d9d7d098270aaf1edd0ebedecda67bc37c5855f56e7665791c", func := "changeforge/changeforgelaw2.MultivalueResolves", spec := "multivalueResolves", unfollowed := true, recurses := true, apart := false, narrowed := true }
def MultivalueResolvesUptoSaid : Prop := multivalueResolvesUptoRow.holds Try.pinned (OpenSpec.upto multivalueResolvesSpec)

end Rows
end Go.Proofs.Ytladljignaanfaa
