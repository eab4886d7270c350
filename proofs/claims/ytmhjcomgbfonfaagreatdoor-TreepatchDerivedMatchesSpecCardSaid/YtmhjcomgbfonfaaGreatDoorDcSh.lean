import Derived.Shelf.SlSortCmp.WholeK
import Derived.Shelf.SortM.Plain
import Derived.Test.YtmhjcomgbfonfaaGreatDoorProg
namespace Go.Proofs
open Go.Shelf
end Go.Proofs
