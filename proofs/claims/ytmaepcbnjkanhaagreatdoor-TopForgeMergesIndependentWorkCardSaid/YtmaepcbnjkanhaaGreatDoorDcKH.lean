import Derived.Test.YtmaepcbnjkanhaaGreatDoorDcK
namespace Go.Dc
open Go
variable {P : Program} {ρ : Option Nat} {n : Fw} {e : List (Nat × Value)}
variable {α : Type} [Rep α] [ORep α]
end Go.Dc
