import Derived.Test.YtmaepcbnjkanhaaGreatDoorDcO
import Derived.Test.YtmaepcbnjkanhaaGreatDoorDcI
import Derived.Shelf.SlSortCmp.WholeK
import Derived.Shelf.SlSortCmp.NoneTotal
namespace Go.Dc
open Go Go.Sort Go.Proofs
def ltM {δ:Type} (cm:δ→δ→Option Int) (x y:δ):Bool:=decide ((cm x y).getD 0 < 0)
structure CmpFit {δ:Type} (cm:δ→δ→Option Int) (l:List δ):Prop where
  some_:∀ x∈l,∀ y∈l,∃ r,cm x y=some r
  irrefl:∀ x∈l,ltM cm x x=false
  trans:∀ x∈l,∀ y∈l,∀ z∈l,ltM cm x y=true→ltM cm y z=true→ltM cm x z=true
  ntrans:∀ x∈l,∀ y∈l,∀ z∈l,ltM cm x y=false→ltM cm y z=false→ltM cm x z=false
  anti:∀ x∈l,∀ y∈l,ltM cm x y=false→ltM cm y x=false→x=y
section
variable {δ : Type} [Rep δ]
variable {P : Program} {ρ' : Go.Shelf.Ren}
end
end Go.Dc
