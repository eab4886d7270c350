import Derived.Test.YtfpbdmldeikfbaaGreatDoorDcTab
import Derived.Test.YtfpbdmldeikfbaaGreatDoorDcAU
import Derived.Test.YtfpbdmldeikfbaaGreatDoorDcM
import Derived.Test.YtfpbdmldeikfbaaGreatDoorDcW10
import Derived.Test.YtfpbdmldeikfbaaGreatDoorDcW4
import Derived.Test.YtfpbdmldeikfbaaGreatDoorDcW5
import Derived.Test.YtfpbdmldeikfbaaGreatDoorDcW9
set_option linter.unusedSimpArgs false
set_option linter.unusedVariables false
namespace Go.Dc
open Go Go.Proofs
set_option maxRecDepth 100000
set_option maxHeartbeats 8000000
set_option linter.unusedVariables false
theorem merge3_check_ok {g:Gh} {fr:Hl} {w:World} {r:Fault} (chunks:Bo) (vchunks1:Value) (hchunks1:RepSl g chunks vchunks1) (S:St g [] fr w) (hm:Da chunks=some r) :
  Calls Tryz.prog 174 [vchunks1].toArray w (fun en w'=>∃ v,en=.returned v∧∃ (g':Gh),Le g g'∧St g' [] fr w'∧.agg #[.i6 r.Code,.i6 r.Index]=v):=by
 unfold Da at hm;refine An (fn:=Tryz.f174) Tryz.func174 Z Tryz.ntmps174 (lb Z) ?_;intro a F;replace F:Fr 78 a [(0,vchunks1)]:=F
 haveI:∀ (chunks:Bo),LH (fun s=>Da.l1 chunks s) [14,13,2] (fun g2 s e c=>e=[(15,.i6 s)]∧c=[]∧True):=fun _=>{}
 haveI:∀ (x1:Int) (y1:Chunk),LH (fun s=>Da.l2 x1 y1 s) [28,3,4,15,14,13,2] (fun g5 s e c=>e=[(29,.i6 s)]∧c=[]∧True):=fun _ _=>{}
 exact goC F S
instance:Con Tryz.prog 174 0 (type_of% @merge3_check_ok):=⟨@merge3_check_ok,tc174⟩
theorem merge3_whole_ok {g:Gh} {fr:Hl} {w:World} {r:Ab×Fault} (l_:Ab) (vl_1:Value) (hl_1:RepSl g l_ vl_1) (S:St g [] fr w) (hm:Wz l_=some r) :
  Calls Tryz.prog 175 [vl_1].toArray w (fun en w'=>∃ v,en=.returned v∧∃ (g':Gh) (v1:Value),Le g g'∧St g' [] fr w'∧RepSl g' r.1 v1∧.tuple #[v1,.agg #[.i6 r.2.Code,.i6 r.2.Index]]=v):=by
 unfold Wz at hm;refine An (fn:=Tryz.f175) Tryz.func175 Z Tryz.ntmps175 (lb Z) ?_;intro a F;replace F:Fr 10 a [(0,vl_1)]:=F;exact goC F S
instance:Con Tryz.prog 175 0 (type_of% @merge3_whole_ok):=⟨@merge3_whole_ok,tc175⟩
theorem merge3_Clean_ok {g:Gh} {fr:Hl} {w:World} {r:Ab×Bool×Fault} (chunks:Bo) (vchunks1:Value) (hchunks1:RepSl g chunks vchunks1) (S:St g [] fr w) (hm:Gz chunks=some r) :
  Calls Tryz.prog 147 [vchunks1].toArray w (fun en w'=>∃ v,en=.returned v∧∃ (g':Gh) (v1:Value),Le g g'∧St g' [] fr w'∧RepSl g' r.1 v1∧.tuple #[v1,.bool r.2.1,.agg #[.i6 r.2.2.Code,.i6 r.2.2.Index]]=v):=by
 unfold Gz at hm;refine An (fn:=Tryz.f147) Tryz.func147 Z Tryz.ntmps147 (lb Z) ?_;intro a F;replace F:Fr 40 a [(0,vchunks1)]:=F
 haveI:∀ (chunks:Bo),LH (fun s=>Gz.l1 chunks s.1 s.2) [17,16,4] (fun g5 s e c=>∃ v3 c2,e=[(18,.i6 s.1),(6,v3)]∧c=[c2]∧OwnS g5 s.2 v3 c2):=fun _=>{}
 exact goC F S
instance:Con Tryz.prog 147 0 (type_of% @merge3_Clean_ok):=⟨@merge3_Clean_ok,tc147⟩
theorem Xg {g:Gh} {fr:Hl} {w:World} {r:Version_treecommute×Bool} (base:Version_treecommute) (vbase1:Value) (hbase1:RepSl g base.lines vbase1) (left:Version_treecommute) (vleft1:Value) (hleft1:RepSl g left.lines vleft1) (right:Version_treecommute) (vright1:Value) (hright1:RepSl g right.lines vright1) (S:St g [] fr w) (hm:K5 base left right=some r) :
  Calls Tryz.prog 106 [.agg #[.bool base.is,vbase1],.agg #[.bool left.is,vleft1],.agg #[.bool right.is,vright1]].toArray w (fun en w'=>∃ v,en=.returned v∧∃ (g':Gh) (v1:Value),Le g g'∧St g' [] fr w'∧RepSl g' r.1.lines v1∧.tuple #[.agg #[.bool r.1.is,v1],.bool r.2]=v):=by
 unfold K5 at hm;refine An (fn:=Tryz.f106) Tryz.func106 Z Tryz.ntmps106 (lb Z) ?_;intro a F;replace F:Fr 64 a [(0,.agg #[.bool base.is,vbase1]),(1,.agg #[.bool left.is,vleft1]),(2,.agg #[.bool right.is,vright1])]:=F;exact goC F S
instance:Con Tryz.prog 106 0 (type_of% (fun {g} {fr} {w} {r} base1 base2 vbase1 hbase1 left1 left2 vleft1 hleft1 right1 right2 vright1 hright1=>@Xg g fr w r ⟨base1,base2⟩ vbase1 hbase1 ⟨left1,left2⟩ vleft1 hleft1 ⟨right1,right2⟩ vright1 hright1)):=⟨(fun {g} {fr} {w} {r} base1 base2 vbase1 hbase1 left1 left2 vleft1 hleft1 right1 right2 vright1 hright1=>@Xg g fr w r ⟨base1,base2⟩ vbase1 hbase1 ⟨left1,left2⟩ vleft1 hleft1 ⟨right1,right2⟩ vright1 hright1),tc106⟩
end Go.Dc
namespace Go.Dc
open Go Go.Proofs
set_option maxRecDepth 100000
set_option maxHeartbeats 8000000
set_option linter.unusedVariables false
theorem X3 {g:Gh} {fr:Hl} {w:World} {r:FileTree×Bq×Fault} (base:FileTree) (vbase1:Value) (hbase1:RepSl g base.Files vbase1) (left:TreePatch) (vleft1:Value) (hleft1:RepSl g left.Changes vleft1) (right:TreePatch) (vright1:Value) (hright1:RepSl g right.Changes vright1) (S:St g [] fr w) (hm:A9 base left right=some r) :
  Calls Tryz.prog 68 [.agg #[vbase1],.agg #[vleft1],.agg #[vright1]].toArray w (fun en w'=>∃ v,en=.returned v∧∃ (g':Gh) (v1 v2:Value) (c1 c2:Hl),Le g g'∧St g' [c1,c2] fr w'∧OwnS g' r.1.Files v1 c1∧OwnS g' r.2.1 v2 c2∧.tuple #[.agg #[v1],v2,.agg #[.i6 r.2.2.Code,.i6 r.2.2.Index]]=v):=by
 unfold A9 at hm;refine An (fn:=Tryz.f68) Tryz.func68 Z Tryz.ntmps68 (lb Z) ?_;intro a F;replace F:Fr 166 a [(0,.agg #[vbase1]),(1,.agg #[vleft1]),(2,.agg #[vright1])]:=F
 haveI:∀ (left:TreePatch) (right:TreePatch) (x2:Ai) (x5:Ai),LH (fun s=>A9.l1 left right x2 x5 s.1 s.2.1 s.2.2) [133,132,23,17,15,8,6] (fun g7 s e c=>∃ v11 v12 c10 c11 b10,e=[(134,.i6 s.1),(16,v11),(13,bp b10 0)]∧c=[c10,[bx b10 #[v12] 26],c11]∧OwnS g7 s.2.1 v11 c10∧OwnS g7 s.2.2 v12 c11):=fun _ _ _ _=>{}
 haveI:∀ (x3:Ai) (x4:Ai),LH (fun s=>A9.l2 x3 x4 s.1 s.2) [115,114,17,16,15,14,13,12,8,6] (fun g13 s e c=>∃ v19 c17,e=[(116,.i6 s.1),(23,v19)]∧c=[c17]∧OwnS g13 s.2 v19 c17):=fun _ _=>{}
 haveI:∀ (left:TreePatch) (right:TreePatch) (x18:Int) (x19:Bq) (x20:Ai) (x21:Ai) (y15:ByteArray) (y16:Version_treecommute) (y19:Version_treecommute×Bool) ,DH (A9.j7 left right x18 x19 x20 x21 y15 y16 y19) 14 [0,1,3,4,5,2,6,7,8,9,10,11] [20,19,68,67,66,17,16,15,14,13,12,10,8,6,3] (fun g26 e c=>c=[]) (fun g26 e c=>∃ v37 b17,e=[(21,bp b17 0),(85,.bool y19.2),(84,.agg #[.bool y19.1.is,v37])]∧c=[[bx b17 #[.bool false,Ds] 165]]∧RepSl g26 y19.1.lines v37):=fun _ _ _ _ _ _ _ _ _=>{}
 haveI:∀ (base:FileTree) (left:TreePatch) (right:TreePatch) (y2:FileTree×Fault) (y3:FileTree×Fault) (y14:Ab),LH (fun s=>A9.l3 base left right y2 y3 y14 s.1 s.2.1 s.2.2.1 s.2.2.2) [67,66,17,16,12,10,8,6,3] (fun g20 s e c=>∃ v27 v28 v29 c23 c24 c25 b11 b10,e=[(68,.i6 s.1),(15,v27),(14,bp b11 0),(13,bp b10 0)]∧c=[c23,[bx b11 #[v28] 26],[bx b10 #[v29] 26],c24,c25]∧OwnS g20 s.2.1 v27 c23∧OwnS g20 s.2.2.1 v28 c24∧OwnS g20 s.2.2.2 v29 c25):=fun _ _ _ _ _ _=>{}
 exact goC F S
instance:Con Tryz.prog 68 0 (type_of% @X3):=⟨@X3,tc68⟩
end Go.Dc
