import Derived.Test.YtmaepcbnjkanhaaGreatDoorDcTab
import Derived.Test.YtmaepcbnjkanhaaGreatDoorDcM
namespace Go.Dc
open Go Go.Proofs
set_option maxRecDepth 100000
set_option maxHeartbeats 4000000
set_option linter.unusedVariables false
theorem Dd {g:Gh} {fr:Hl} {w:World} {r:Fault} (code:Int) (index:Int) (S:St g [] fr w) (hm:Cn code index=some r) :
  Calls Tryz.prog 30 [.i6 code,.i6 index].toArray w (fun en w'=>∃ v,en=.returned v∧∃ (g':Gh),Le g g'∧St g' [] fr w'∧.agg #[.i6 r.Code,.i6 r.Index]=v):=by
 unfold Cn at hm;refine A8 (fn:=Tryz.f30) Tryz.func30 Z Tryz.ntmps30 (lb Z) ?_;intro a F;replace F:Fr 8 a [(0,.i6 code),(1,.i6 index)]:=F;refine Af (Aa ?_);refine A6 (wn Z) Z Eg (cs:=[.i6 0,.i6 0]) Z F S Z Z ?_;clear F a S;rintro b1 a w F S;refine Ab (Ac (Af (Aa (wE (Ad Z) F S Z<|Y (Ad Z) S Z<|Y (Bd (parts:=[(0,.tmp 5),(1,.tmp 6)]) (vs:=[(0,.i6 code),(1,.i6 index)]) Z (fun w=>D8 code index w)) S Z fun a F=>An (wn Z) Z F S Z Z (vs:=[.i6 code,.i6 index]) Z Br (Aj Z (Aj Z Av)) (k:=0) Z (lb Z) (c':=#[.i6 code,.i6 index]) Z Z fun w S=>Ab (Ac (A5 ?_))))));obtain rfl:=Ax hm;refine A7 _ F Z (Al (Dz Z Cf Z (Ai (cells:=[.i6 code,.i6 index]) 0 Z 0 Z (lb Z) w S) Br) A4) ?_;replace S:St g [] fr w:=St.tail [] _ S;exact ⟨_,Z,g,(Le.refl _),S,Z⟩
end Go.Dc
