import Derived.Test.YtfpbdmldeikfbaaGreatDoorDcTab
import Derived.Test.YtfpbdmldeikfbaaGreatDoorDcAU
import Derived.Test.YtfpbdmldeikfbaaGreatDoorDcM
import Derived.Test.YtfpbdmldeikfbaaGreatDoorDcW14
import Derived.Test.YtfpbdmldeikfbaaGreatDoorDcW15
import Derived.Test.YtfpbdmldeikfbaaGreatDoorDcW17
import Derived.Test.YtfpbdmldeikfbaaGreatDoorDcW18
import Derived.Test.YtfpbdmldeikfbaaGreatDoorDcW20
set_option linter.unusedSimpArgs false
set_option linter.unusedVariables false
namespace Go.Dc
open Go Go.Proofs
set_option maxRecDepth 100000
set_option maxHeartbeats 8000000
set_option linter.unusedVariables false
theorem V0 {g:Gh} {fr:Hl} {w:World} {r:Bo×Fault} (base:Ab) (vbase1:Value) (hbase1:RepSl g base vbase1) (left:Ab) (vleft1:Value) (hleft1:RepSl g left vleft1) (right:Ab) (vright1:Value) (hright1:RepSl g right vright1) (S:St g [] fr w) (hm:Ax base left right=some r) :
  Calls Tryz.prog 114 [vbase1,vleft1,vright1].toArray w (fun en w'=>∃ v,en=.returned v∧∃ (g':Gh) (v1:Value) (c1:Hl),Le g g'∧St g' [c1] fr w'∧OwnS g' r.1 v1 c1∧.tuple #[v1,.agg #[.i6 r.2.Code,.i6 r.2.Index]]=v):=by
 unfold Ax at hm;refine An (fn:=Tryz.f114) Tryz.func114 Z Tryz.ntmps114 (lb Z) ?_;intro a F;replace F:Fr 149 a [(0,vbase1),(1,vleft1),(2,vright1)]:=F
 haveI:∀ (base:Ab) (y4:Patch) (y5:Patch) (y6:(List Int)),LH (fun s=>Ax.l1 base y4 y5 y6 s.1 s.2.1 s.2.2) [12,11,10,7,0] (fun g10 s e c=>∃ v9 v10 c7 c8,e=[(15,.i6 s.1),(14,v9),(13,v10)]∧c=[c7,c8]∧OwnS g10 s.2.1 v9 c7∧OwnS g10 s.2.2 v10 c8):=fun _ _ _ _=>{}
 haveI:∀ (base:Ab) (y4:Patch) (y5:Patch),LH (fun s=>Ax.l2 base y4 y5 s) [16,14,13,12,11,10,7,0] (fun g23 s e c=>e=[(15,.i6 s)]∧c=[]∧True):=fun _ _ _=>{}
 exact goC F S
instance:Con Tryz.prog 114 0 (type_of% @V0):=⟨@V0,tc114⟩
theorem Qp {g:Gh} {fr:Hl} {w:World} {r:Fault} (l_:Bo) (vl_1:Value) (hl_1:RepSl g l_ vl_1) (S:St g [] fr w) (hm:Bb l_=some r) :
  Calls Tryz.prog 156 [vl_1].toArray w (fun en w'=>∃ v,en=.returned v∧∃ (g':Gh),Le g g'∧St g' [] fr w'∧.agg #[.i6 r.Code,.i6 r.Index]=v):=by
 unfold Bb at hm;refine An (fn:=Tryz.f156) Tryz.func156 Z Tryz.ntmps156 (lb Z) ?_;intro a F;replace F:Fr 78 a [(0,vl_1)]:=F
 haveI:∀ (l_:Bo),LH (fun s=>Bb.l1 l_ s) [2,0] (fun g3 s e c=>e=[(3,.i6 s)]∧c=[]∧True):=fun _=>{}
 exact goC F S
instance:Con Tryz.prog 156 0 (type_of% @Qp):=⟨@Qp,tc156⟩
theorem Tb {g:Gh} {fr:Hl} {w:World} {r:Int} (l_:Bo) (vl_1:Value) (hl_1:RepSl g l_ vl_1) (S:St g [] fr w) (hm:Cz l_=some r) :
  Calls Tryz.prog 157 [vl_1].toArray w (fun en w'=>∃ v,en=.returned v∧∃ (g':Gh),Le g g'∧St g' [] fr w'∧.i6 r=v):=by
 unfold Cz at hm;refine An (fn:=Tryz.f157) Tryz.func157 Z Tryz.ntmps157 (lb Z) ?_;intro a F;replace F:Fr 19 a [(0,vl_1)]:=F
 haveI:∀ (l_:Bo),LH (fun s=>Cz.l1 l_ s.1 s.2) [0] (fun g2 s e c=>e=[(4,.i6 s.1),(3,.i6 s.2)]∧c=[]∧True):=fun _=>{}
 exact goC F S
instance:Con Tryz.prog 157 0 (type_of% @Tb):=⟨@Tb,tc157⟩
theorem Uj {g:Gh} {fr:Hl} {w:World} {r:Ab×Fault} (l_:Bo) (vl_1:Value) (hl_1:RepSl g l_ vl_1) (choices:(List Int)) (vchoices1:Value) (hchoices1:RepSl g choices vchoices1) (S:St g [] fr w) (hm:Be l_ choices=some r) :
  Calls Tryz.prog 158 [vl_1,vchoices1].toArray w (fun en w'=>∃ v,en=.returned v∧∃ (g':Gh) (v1:Value) (c1:Hl),Le g g'∧St g' [c1] fr w'∧OwnS g' r.1 v1 c1∧.tuple #[v1,.agg #[.i6 r.2.Code,.i6 r.2.Index]]=v):=by
 unfold Be at hm;refine An (fn:=Tryz.f158) Tryz.func158 Z Tryz.ntmps158 (lb Z) ?_;intro a F;replace F:Fr 104 a [(0,vl_1),(1,vchoices1)]:=F
 haveI:∀ (l_:Bo) (choices:(List Int)),LH (fun s=>Be.l1 l_ choices s.1 s.2.1 s.2.2) [5,0,1] (fun g7 s e c=>∃ v2 c2,e=[(10,.i6 s.1),(9,.i6 s.2.1),(8,v2)]∧c=[c2]∧OwnS g7 s.2.2 v2 c2):=fun _ _=>{}
 haveI:∀ (choices:(List Int)),LH (fun s=>Be.l2 choices s) [5,0,1] (fun g11 s e c=>e=[(7,.i6 s)]∧c=[]∧True):=fun _=>{}
 exact goC F S
instance:Con Tryz.prog 158 0 (type_of% @Uj):=⟨@Uj,tc158⟩
end Go.Dc
namespace Go.Dc
open Go Go.Proofs
set_option maxRecDepth 100000
set_option maxHeartbeats 8000000
set_option linter.unusedVariables false
theorem Vv {g:Gh} {fr:Hl} {w:World} {r:Ab×Bool×Fault} (l_:Bo) (vl_1:Value) (hl_1:RepSl g l_ vl_1) (S:St g [] fr w) (hm:L3 l_=some r) :
  Calls Tryz.prog 115 [vl_1].toArray w (fun en w'=>∃ v,en=.returned v∧∃ (g':Gh) (v1:Value) (c1:Hl),Le g g'∧St g' [c1] fr w'∧OwnS g' r.1 v1 c1∧.tuple #[v1,.bool r.2.1,.agg #[.i6 r.2.2.Code,.i6 r.2.2.Index]]=v):=by
 unfold L3 at hm;refine An (fn:=Tryz.f115) Tryz.func115 Z Tryz.ntmps115 (lb Z) ?_;intro a F;replace F:Fr 28 a [(0,vl_1)]:=F;exact goC F S
instance:Con Tryz.prog 115 0 (type_of% @Vv):=⟨@Vv,tc115⟩
theorem Ta {g:Gh} {fr:Hl} {w:World} {r:Ab×Bool} (base:FileTree) (vbase1:Value) (hbase1:RepSl g base.Files vbase1) (l_:FileTree) (vl_1:Value) (hl_1:RepSl g l_.Files vl_1) (r_:FileTree) (vr_1:Value) (hr_1:RepSl g r_.Files vr_1) (path:ByteArray) (S:St g [] fr w) (hm:Gw base l_ r_ path=some r) :
  Calls Tryz.prog 80 [.agg #[vbase1],.agg #[vl_1],.agg #[vr_1],.string path].toArray w (fun en w'=>∃ v,en=.returned v∧∃ (g':Gh) (v1:Value) (c1:Hl),Le g g'∧St g' [c1] fr w'∧OwnS g' r.1 v1 c1∧.tuple #[v1,.bool r.2]=v):=by
 unfold Gw at hm;refine An (fn:=Tryz.f80) Tryz.func80 Z Tryz.ntmps80 (lb Z) ?_;intro a F;replace F:Fr 74 a [(0,.agg #[vbase1]),(1,.agg #[vl_1]),(2,.agg #[vr_1]),(3,.string path)]:=F
 haveI:∀ (y7:Bo×Fault) ,DH (Gw.j1 y7) 25 [0,1,2,3,4,5,6,7,8,9,10,11,12,13,14,15,16,17,18,19,20,21,22,23] [] (fun g5 e c=>∃ (b3:Nat) (u0:Value) (b2:Nat) (u1:Value) (b1:Nat) (u2:Value),Kf e 49=some (bp b3 0)∧Kf e 43=some (bp b2 0)∧Kf e 37=some (bp b1 0)∧c=[[bx b3 #[u0] 26],[bx b2 #[u1] 26],[bx b1 #[u2] 26]]) (fun g5 e c=>∃ v5 b5 c2,e=[(13,v5),(14,bp b5 0),(57,.agg #[.i6 y7.2.Code,.i6 y7.2.Index])]∧c=[c2,[bx b5 #[.i6 0,.i6 0] 29]]∧OwnS g5 y7.1 v5 c2):=fun _=>{}
 exact goC F S
instance:Con Tryz.prog 80 0 (type_of% @Ta):=⟨@Ta,tc80⟩
theorem Ui {g:Gh} {fr:Hl} {w:World} {r:Bool} (c_:TreeChange) (vc_1:Value) (hc_1:RepSl g c_.Lines vc_1) (vc_2:Value) (hc_2:RepSl g c_.Patch.Hunks vc_2) (path:ByteArray) (S:St g [] fr w) (hm:Mi c_ path=some r) :
  Calls Tryz.prog 116 [.agg #[.i6 c_.Kind,.string c_.Path,.string c_.To,vc_1,vc_2],.string path].toArray w (fun en w'=>∃ v,en=.returned v∧∃ (g':Gh),Le g g'∧St g' [] fr w'∧.bool r=v):=by
 unfold Mi at hm;refine An (fn:=Tryz.f116) Tryz.func116 Z Tryz.ntmps116 (lb Z) ?_;intro a F;replace F:Fr 20 a [(0,.agg #[.i6 c_.Kind,.string c_.Path,.string c_.To,vc_1,vc_2]),(1,.string path)]:=F;exact goC F S
instance:Con Tryz.prog 116 0 (type_of% (fun {g} {fr} {w} {r} c1 c2 c3 c4 c5 vc_1 hc_1 vc_2 hc_2 path=>@Ui g fr w r ⟨c1,c2,c3,c4,⟨c5⟩⟩ vc_1 hc_1 vc_2 hc_2 path)):=⟨(fun {g} {fr} {w} {r} c1 c2 c3 c4 c5 vc_1 hc_1 vc_2 hc_2 path=>@Ui g fr w r ⟨c1,c2,c3,c4,⟨c5⟩⟩ vc_1 hc_1 vc_2 hc_2 path),tc116⟩
theorem Tf {g:Gh} {fr:Hl} {w:World} {r:Int} (p_:TreePatch) (vp_1:Value) (hp_1:RepSl g p_.Changes vp_1) (path:ByteArray) (S:St g [] fr w) (hm:Co p_ path=some r) :
  Calls Tryz.prog 81 [.agg #[vp_1],.string path].toArray w (fun en w'=>∃ v,en=.returned v∧∃ (g':Gh),Le g g'∧St g' [] fr w'∧.i6 r=v):=by
 unfold Co at hm;refine An (fn:=Tryz.f81) Tryz.func81 Z Tryz.ntmps81 (lb Z) ?_;intro a F;replace F:Fr 23 a [(0,.agg #[vp_1]),(1,.string path)]:=F
 haveI:∀ (p_:TreePatch) (path:ByteArray),LH (fun s=>Co.l1 p_ path s.1 s.2) [2,1] (fun g2 s e c=>e=[(6,.i6 s.1),(5,.i6 s.2)]∧c=[]∧True):=fun _ _=>{}
 exact goC F S
instance:Con Tryz.prog 81 0 (type_of% @Tf):=⟨@Tf,tc81⟩
end Go.Dc
