/- slices.Sort at an owned slice of strings: what it holds behind is in order. -/
import Derived.Test.YtmhjcomgbfonfaaGreatDoorDcX
import Derived.Test.YtmhjcomgbfonfaaGreatDoorDcI
import Derived.Shelf.SortM.Plain
import Derived.Shelf.SortM.SortNone
set_option linter.unusedSimpArgs false
set_option linter.unusedVariables false
namespace Go.Dc
open Go Go.Sort Go.Proofs

/-! ## the world behind the sort -/
variable {P : Program} {ρ' : Go.Shelf.Ren}

end Go.Dc
