import Derived.Test.YtmhjcomgbfonfaaGreatDoorDcV
set_option linter.unusedVariables false
namespace Go.Dc
open Go
variable {P : Program} {ρ : Option Nat} {n : Fw} {e : List (Nat × Value)} {C : World → Prop}
section
variable {α : Type} [Rep α]
end
end Go.Dc
