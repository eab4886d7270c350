/- A part of an owned slice under another name, while the slice itself is written: what it reads, what clear does to it. -/
import Derived.Test.YthpkobkngplbbaaDoorDcV
set_option linter.unusedVariables false
namespace Go.Dc
open Go
variable {P : Program} {ρ : Option Nat} {n : Fw} {e : List (Nat × Value)} {C : World → Prop}

section
variable {α : Type} [Rep α]

end
end Go.Dc
