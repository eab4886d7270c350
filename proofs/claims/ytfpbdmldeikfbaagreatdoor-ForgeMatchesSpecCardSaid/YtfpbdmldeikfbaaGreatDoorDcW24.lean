import Derived.Test.YtfpbdmldeikfbaaGreatDoorDcTab
import Derived.Test.YtfpbdmldeikfbaaGreatDoorDcAU
import Derived.Test.YtfpbdmldeikfbaaGreatDoorDcM
import Derived.Test.YtfpbdmldeikfbaaGreatDoorDcW14
import Derived.Test.YtfpbdmldeikfbaaGreatDoorDcW17
import Derived.Test.YtfpbdmldeikfbaaGreatDoorDcW18
import Derived.Test.YtfpbdmldeikfbaaGreatDoorDcW23
set_option linter.unusedSimpArgs false
set_option linter.unusedVariables false
namespace Go.Dc
open Go Go.Proofs
set_option maxRecDepth 100000
set_option maxHeartbeats 8000000
set_option linter.unusedVariables false
theorem T4 {g:Gh} {fr:Hl} {w:World} {r:Forge_changeforgeref2×Int} (s_:Forge_changeforgeref2) (vs_1:Value) (cs_1:Hl) (hs_1:OwnS g s_.Versions vs_1 cs_1) (vs_2:Value) (cs_2:Hl) (hs_2:OwnS g s_.Log vs_2 cs_2) (vs_3:Value) (cs_3:Hl) (hs_3:OwnS g s_.Last vs_3 cs_3) (vs_4:Value) (cs_4:Hl) (hs_4:OwnS g s_.Base vs_4 cs_4) (vs_5:Value) (cs_5:Hl) (hs_5:OwnS g s_.Sent vs_5 cs_5) (vs_6:Value) (cs_6:Hl) (hs_6:OwnS g s_.Working vs_6 cs_6) (vs_7:Value) (hs_7:RepSl g s_.Flight vs_7) (m_:Letter_changeforgeref2) (vm_1:Value) (hm_1:RepSl g m_.Patch.Changes vm_1) (S:St g [cs_1,cs_2,cs_3,cs_4,cs_5,cs_6] fr w) (hm:Dr s_ m_=some r) :
  Calls Tryz.prog 31 [.agg #[vs_1,vs_2,vs_3,vs_4,vs_5,vs_6,vs_7],.agg #[.i6 m_.User,.i6 m_.Number,.i6 m_.Base,.i6 m_.Signature,.i6 m_.Right,vm_1]].toArray w (fun en w'=>∃ v,en=.returned v∧∃ (g':Gh) (v1 v2 v3 v4 v5 v6 v7:Value) (c1 c2 c3 c4 c5 c6:Hl),Le g g'∧St g' [c1,c2,c3,c4,c5,c6] fr w'∧OwnS g' r.1.Versions v1 c1∧OwnS g' r.1.Log v2 c2∧OwnS g' r.1.Last v3 c3∧OwnS g' r.1.Base v4 c4∧OwnS g' r.1.Sent v5 c5∧OwnS g' r.1.Working v6 c6∧RepSl g' r.1.Flight v7∧.tuple #[.agg #[v1,v2,v3,v4,v5,v6,v7],.i6 r.2]=v):=by
 unfold Dr at hm;refine An (fn:=Tryz.f31) Tryz.func31 Z Tryz.ntmps31 (lb Z) ?_;intro a F;replace F:Fr 114 a [(0,.agg #[vs_1,vs_2,vs_3,vs_4,vs_5,vs_6,vs_7]),(1,.agg #[.i6 m_.User,.i6 m_.Number,.i6 m_.Base,.i6 m_.Signature,.i6 m_.Right,vm_1])]:=F
 haveI:∀ (s_:Forge_changeforgeref2) (m_:Letter_changeforgeref2) (y2:FileTree) (y6:FileTree×Bq×Fault) ,DH (Dr.j2 s_ m_ y2 y6) 18 [0,1,2,3,4,5,6,7,8,9,10,11,12,13,14] [8,6,4,3,2] (fun g5 e c=>∃ (b8:Nat) (y4:TreePatch×Fault) (v4:Value) (c2:Hl),Kf e 7=some (bp b8 0)∧OwnS g5 y4.1.Changes v4 c2∧c=[[bx b8 #[v4] 60],c2]) (fun g5 e c=>∃ v8 v9 b10 c5 c6,e=[(9,bp b10 0),(66,.agg #[.i6 y6.2.2.Code,.i6 y6.2.2.Index]),(65,v8),(64,.agg #[v9])]∧c=[[bx b10 #[Ds] 26],c5,c6]∧OwnS g5 y6.2.1 v8 c5∧OwnS g5 y6.1.Files v9 c6):=fun _ _ _ _=>{}
 haveI:∀ (s_:Forge_changeforgeref2) (m_:Letter_changeforgeref2) (y2:FileTree) (y4:TreePatch×Fault) ,DH (Dr.j1 s_ m_ y2 y4) 15 [0,1,2,3,4,5,6,7,8,9,10,11,12] [6,4,3,2] (fun g2 e c=>c=[]) (fun g2 e c=>∃ v4 b7 b8 c2,e=[(8,bp b7 0),(7,bp b8 0),(46,.agg #[.i6 y4.2.Code,.i6 y4.2.Index]),(45,.agg #[v4])]∧c=[[bx b7 #[.i6 0,.i6 0] 29],[bx b8 #[Ds] 60],c2]∧OwnS g2 y4.1.Changes v4 c2):=fun _ _ _ _=>{}
 exact goC F S
instance:Con Tryz.prog 31 0 (type_of% (fun {g} {fr} {w} {r} s_ vs_1 cs_1 hs_1 vs_2 cs_2 hs_2 vs_3 cs_3 hs_3 vs_4 cs_4 hs_4 vs_5 cs_5 hs_5 vs_6 cs_6 hs_6 vs_7 hs_7 m1 m2 m3 m4 m5 m6 vm_1 hm_1=>@T4 g fr w r s_ vs_1 cs_1 hs_1 vs_2 cs_2 hs_2 vs_3 cs_3 hs_3 vs_4 cs_4 hs_4 vs_5 cs_5 hs_5 vs_6 cs_6 hs_6 vs_7 hs_7 ⟨m1,m2,m3,m4,m5,⟨m6⟩⟩ vm_1 hm_1)):=⟨(fun {g} {fr} {w} {r} s_ vs_1 cs_1 hs_1 vs_2 cs_2 hs_2 vs_3 cs_3 hs_3 vs_4 cs_4 hs_4 vs_5 cs_5 hs_5 vs_6 cs_6 hs_6 vs_7 hs_7 m1 m2 m3 m4 m5 m6 vm_1 hm_1=>@T4 g fr w r s_ vs_1 cs_1 hs_1 vs_2 cs_2 hs_2 vs_3 cs_3 hs_3 vs_4 cs_4 hs_4 vs_5 cs_5 hs_5 vs_6 cs_6 hs_6 vs_7 hs_7 ⟨m1,m2,m3,m4,m5,⟨m6⟩⟩ vm_1 hm_1),tc31⟩
theorem Tz {g:Gh} {fr:Hl} {w:World} {r:Bool} (a_:FileTree) (va_1:Value) (ha_1:RepSl g a_.Files va_1) (b_:FileTree) (vb_1:Value) (hb_1:RepSl g b_.Files vb_1) (S:St g [] fr w) (hm:Et a_ b_=some r) :
  Calls Tryz.prog 33 [.agg #[va_1],.agg #[vb_1]].toArray w (fun en w'=>∃ v,en=.returned v∧∃ (g':Gh),Le g g'∧St g' [] fr w'∧.bool r=v):=by
 unfold Et at hm;refine An (fn:=Tryz.f33) Tryz.func33 Z Tryz.ntmps33 (lb Z) ?_;intro a F;replace F:Fr 49 a [(0,.agg #[va_1]),(1,.agg #[vb_1])]:=F
 haveI:∀ (a_:FileTree) (b_:FileTree),LH (fun s=>Et.l1 a_ b_ s) [3,2] (fun g2 s e c=>e=[(5,.i6 s)]∧c=[]∧True):=fun _ _=>{}
 exact goC F S
instance:Con Tryz.prog 33 0 (type_of% @Tz):=⟨@Tz,tc33⟩
theorem Vo {g:Gh} {fr:Hl} {w:World} {r:Int} (a_:Int) (b_:Int) (S:St g [] fr w) (hm:Cr a_ b_=some r) :
  Calls Tryz.prog 88 [.i6 a_,.i6 b_].toArray w (fun en w'=>∃ v,en=.returned v∧∃ (g':Gh),Le g g'∧St g' [] fr w'∧.i6 r=v):=by
 unfold Cr at hm;refine An (fn:=Tryz.f88) Tryz.func88 Z Tryz.ntmps88 (lb Z) ?_;intro a F;replace F:Fr 22 a [(0,.i6 a_),(1,.i6 b_)]:=F
 haveI:LH (fun s=>Cr.l1 s.1 s.2.1 s.2.2) [] (fun g2 s e c=>e=[(5,.i6 s.1),(0,.i6 s.2.1),(1,.i6 s.2.2)]∧c=[]∧True):={}
 exact goC F S
instance:Con Tryz.prog 88 0 (type_of% @Vo):=⟨@Vo,tc88⟩
theorem Qv {g:Gh} {fr:Hl} {w:World} {r:Int} (a_:Int) (b_:Int) (S:St g [] fr w) (hm:Dy a_ b_=some r) :
  Calls Tryz.prog 56 [.i6 a_,.i6 b_].toArray w (fun en w'=>∃ v,en=.returned v∧∃ (g':Gh),Le g g'∧St g' [] fr w'∧.i6 r=v):=by
 unfold Dy at hm;refine An (fn:=Tryz.f56) Tryz.func56 Z Tryz.ntmps56 (lb Z) ?_;intro a F;replace F:Fr 12 a [(0,.i6 a_),(1,.i6 b_)]:=F;exact goC F S
instance:Con Tryz.prog 56 0 (type_of% @Qv):=⟨@Qv,tc56⟩
theorem T6 {g:Gh} {fr:Hl} {w:World} {r:Int} (data:(List UInt8)) (vdata1:Value) (hdata1:RepSl g data vdata1) (S:St g [] fr w) (hm:Cu data=some r) :
  Calls Tryz.prog 57 [vdata1].toArray w (fun en w'=>∃ v,en=.returned v∧∃ (g':Gh),Le g g'∧St g' [] fr w'∧.i6 r=v):=by
 unfold Cu at hm;refine An (fn:=Tryz.f57) Tryz.func57 Z Tryz.ntmps57 (lb Z) ?_;intro a F;replace F:Fr 22 a [(0,vdata1)]:=F
 haveI:∀ (data:(List UInt8)),LH (fun s=>Cu.l1 data s.1 s.2) [0] (fun g2 s e c=>e=[(4,.i6 s.1),(3,.i6 s.2)]∧c=[]∧True):=fun _=>{}
 exact goC F S
instance:Con Tryz.prog 57 0 (type_of% @T6):=⟨@T6,tc57⟩
theorem O4 {g:Gh} {fr:Hl} {w:World} {r:Int×Fault} (list:Ab) (vlist1:Value) (hlist1:RepSl g list vlist1) (S:St g [] fr w) (hm:C8 list=some r) :
  Calls Tryz.prog 87 [vlist1].toArray w (fun en w'=>∃ v,en=.returned v∧∃ (g':Gh),Le g g'∧St g' [] fr w'∧.tuple #[.i6 r.1,.agg #[.i6 r.2.Code,.i6 r.2.Index]]=v):=by
 unfold C8 at hm;refine An (fn:=Tryz.f87) Tryz.func87 Z Tryz.ntmps87 (lb Z) ?_;intro a F;replace F:Fr 34 a [(0,vlist1)]:=F
 haveI:∀ (list:Ab),LH (fun s=>C8.l1 list s.1 s.2) [3,0] (fun g3 s e c=>e=[(5,.i6 s.1),(4,.i6 s.2)]∧c=[]∧True):=fun _=>{}
 exact goC F S
instance:Con Tryz.prog 87 0 (type_of% @O4):=⟨@O4,tc87⟩
end Go.Dc
