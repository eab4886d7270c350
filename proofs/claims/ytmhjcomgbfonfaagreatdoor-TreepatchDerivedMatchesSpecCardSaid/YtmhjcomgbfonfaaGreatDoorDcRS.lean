import Derived.Test.YtmhjcomgbfonfaaGreatDoorDcX
import Derived.Test.YtmhjcomgbfonfaaGreatDoorDcI
import Derived.Shelf.SortM.Plain
import Derived.Shelf.SortM.SortNone
set_option linter.unusedSimpArgs false
set_option linter.unusedVariables false
namespace Go.Dc
open Go Go.Sort Go.Proofs
variable {P : Program} {ρ' : Go.Shelf.Ren}
end Go.Dc
