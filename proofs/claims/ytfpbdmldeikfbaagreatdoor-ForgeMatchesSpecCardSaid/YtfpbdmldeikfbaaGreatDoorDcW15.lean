import Derived.Test.YtfpbdmldeikfbaaGreatDoorDcTab
import Derived.Test.YtfpbdmldeikfbaaGreatDoorDcAU
import Derived.Test.YtfpbdmldeikfbaaGreatDoorDcM
import Derived.Test.YtfpbdmldeikfbaaGreatDoorDcW14
set_option linter.unusedSimpArgs false
set_option linter.unusedVariables false
namespace Go.Dc
open Go Go.Proofs
set_option maxRecDepth 100000
set_option maxHeartbeats 8000000
set_option linter.unusedVariables false
theorem Qs {g:Gh} {fr:Hl} {w:World} {r:Fault} (l_:Ab) (vl_1:Value) (hl_1:RepSl g l_ vl_1) (S:St g [] fr w) (hm:Bp l_=some r) :
  Calls Tryz.prog 72 [vl_1].toArray w (fun en w'=>∃ v,en=.returned v∧∃ (g':Gh),Le g g'∧St g' [] fr w'∧.agg #[.i6 r.Code,.i6 r.Index]=v):=by
 unfold Bp at hm;refine An (fn:=Tryz.f72) Tryz.func72 Z Tryz.ntmps72 (lb Z) ?_;intro a F;replace F:Fr 42 a [(0,vl_1)]:=F
 haveI:∀ (l_:Ab),LH (fun s=>Bp.l1 l_ s) [2,0] (fun g3 s e c=>e=[(3,.i6 s)]∧c=[]∧True):=fun _=>{}
 haveI:∀ (l_:Ab) (x1:Int),LH (fun s=>Bp.l2 l_ x1 s) [3,2,0] (fun g7 s e c=>e=[(4,.i6 s)]∧c=[]∧True):=fun _ _=>{}
 exact goC F S
instance:Con Tryz.prog 72 0 (type_of% @Qs):=⟨@Qs,tc72⟩
theorem Nr {g:Gh} {fr:Hl} {w:World} {r:Int} (l_:Ab) (vl_1:Value) (hl_1:RepSl g l_ vl_1) (S:St g [] fr w) (hm:Dl l_=some r) :
  Calls Tryz.prog 45 [vl_1].toArray w (fun en w'=>∃ v,en=.returned v∧∃ (g':Gh),Le g g'∧St g' [] fr w'∧.i6 r=v):=by
 unfold Dl at hm;refine An (fn:=Tryz.f45) Tryz.func45 Z Tryz.ntmps45 (lb Z) ?_;intro a F;replace F:Fr 6 a [(0,vl_1)]:=F;exact goC F S
instance:Con Tryz.prog 45 0 (type_of% @Nr):=⟨@Nr,tc45⟩
theorem Ms {g:Gh} {fr:Hl} {w:World} {r:Int} (h_:Hunk) (vh_1:Value) (hh_1:RepSl g h_.Old vh_1) (vh_2:Value) (hh_2:RepSl g h_.New vh_2) (S:St g [] fr w) (hm:Gv h_=some r) :
  Calls Tryz.prog 73 [.agg #[.i6 h_.At,vh_1,vh_2]].toArray w (fun en w'=>∃ v,en=.returned v∧∃ (g':Gh),Le g g'∧St g' [] fr w'∧.i6 r=v):=by
 unfold Gv at hm;refine An (fn:=Tryz.f73) Tryz.func73 Z Tryz.ntmps73 (lb Z) ?_;intro a F;replace F:Fr 9 a [(0,.agg #[.i6 h_.At,vh_1,vh_2])]:=F;exact goC F S
instance:Con Tryz.prog 73 0 (type_of% (fun {g} {fr} {w} {r} h1 h2 h3 vh_1 hh_1 vh_2 hh_2=>@Ms g fr w r ⟨h1,h2,h3⟩ vh_1 hh_1 vh_2 hh_2)):=⟨(fun {g} {fr} {w} {r} h1 h2 h3 vh_1 hh_1 vh_2 hh_2=>@Ms g fr w r ⟨h1,h2,h3⟩ vh_1 hh_1 vh_2 hh_2),tc73⟩
theorem Nf {g:Gh} {fr:Hl} {w:World} {r:Fault} (p_:Patch) (vp_1:Value) (hp_1:RepSl g p_.Hunks vp_1) (S:St g [] fr w) (hm:Dn p_=some r) :
  Calls Tryz.prog 46 [.agg #[vp_1]].toArray w (fun en w'=>∃ v,en=.returned v∧∃ (g':Gh),Le g g'∧St g' [] fr w'∧.agg #[.i6 r.Code,.i6 r.Index]=v):=by
 unfold Dn at hm;refine An (fn:=Tryz.f46) Tryz.func46 Z Tryz.ntmps46 (lb Z) ?_;intro a F;replace F:Fr 82 a [(0,.agg #[vp_1])]:=F
 haveI:∀ (p_:Patch),LH (fun s=>Dn.l1 p_ s) [2,1] (fun g3 s e c=>e=[(3,.i6 s)]∧c=[]∧True):=fun _=>{}
 exact goC F S
instance:Con Tryz.prog 46 0 (type_of% @Nf):=⟨@Nf,tc46⟩
theorem Qw {g:Gh} {fr:Hl} {w:World} {r:Int} (c_:TreeChange) (vc_1:Value) (hc_1:RepSl g c_.Lines vc_1) (vc_2:Value) (hc_2:RepSl g c_.Patch.Hunks vc_2) (S:St g [] fr w) (hm:Ln c_=some r) :
  Calls Tryz.prog 29 [.agg #[.i6 c_.Kind,.string c_.Path,.string c_.To,vc_1,vc_2]].toArray w (fun en w'=>∃ v,en=.returned v∧∃ (g':Gh),Le g g'∧St g' [] fr w'∧.i6 r=v):=by
 unfold Ln at hm;refine An (fn:=Tryz.f29) Tryz.func29 Z Tryz.ntmps29 (lb Z) ?_;intro a F;replace F:Fr 109 a [(0,.agg #[.i6 c_.Kind,.string c_.Path,.string c_.To,vc_1,vc_2])]:=F;exact goC F S
instance:Con Tryz.prog 29 0 (type_of% (fun {g} {fr} {w} {r} c1 c2 c3 c4 c5 vc_1 hc_1 vc_2 hc_2=>@Qw g fr w r ⟨c1,c2,c3,c4,⟨c5⟩⟩ vc_1 hc_1 vc_2 hc_2)):=⟨(fun {g} {fr} {w} {r} c1 c2 c3 c4 c5 vc_1 hc_1 vc_2 hc_2=>@Qw g fr w r ⟨c1,c2,c3,c4,⟨c5⟩⟩ vc_1 hc_1 vc_2 hc_2),tc29⟩
theorem Oe {g:Gh} {fr:Hl} {w:World} {r:Fault} (p_:TreePatch) (vp_1:Value) (hp_1:RepSl g p_.Changes vp_1) (S:St g [] fr w) (hm:C2 p_=some r) :
  Calls Tryz.prog 18 [.agg #[vp_1]].toArray w (fun en w'=>∃ v,en=.returned v∧∃ (g':Gh),Le g g'∧St g' [] fr w'∧.agg #[.i6 r.Code,.i6 r.Index]=v):=by
 unfold C2 at hm;refine An (fn:=Tryz.f18) Tryz.func18 Z Tryz.ntmps18 (lb Z) ?_;intro a F;replace F:Fr 29 a [(0,.agg #[vp_1])]:=F
 haveI:∀ (p_:TreePatch),LH (fun s=>C2.l1 p_ s) [2,1] (fun g3 s e c=>e=[(3,.i6 s)]∧c=[]∧True):=fun _=>{}
 exact goC F S
instance:Con Tryz.prog 18 0 (type_of% @Oe):=⟨@Oe,tc18⟩
end Go.Dc
