import Derived.Test.YtfpbdmldeikfbaaGreatDoorDcTab
import Derived.Test.YtfpbdmldeikfbaaGreatDoorDcAU
import Derived.Test.YtfpbdmldeikfbaaGreatDoorDcM
import Derived.Test.YtfpbdmldeikfbaaGreatDoorDcW14
import Derived.Test.YtfpbdmldeikfbaaGreatDoorDcW18
import Derived.Test.YtfpbdmldeikfbaaGreatDoorDcW20
import Derived.Test.YtfpbdmldeikfbaaGreatDoorDcW24
import Derived.Test.YtfpbdmldeikfbaaGreatDoorDcW25
set_option linter.unusedSimpArgs false
set_option linter.unusedVariables false
namespace Go.Dc
open Go Go.Proofs
set_option maxRecDepth 100000
set_option maxHeartbeats 8000000
set_option linter.unusedVariables false
theorem Yr {g:Gh} {fr:Hl} {w:World} {r:Forge_changeforgeref2×Int} (s_:Forge_changeforgeref2) (vs_1:Value) (cs_1:Hl) (hs_1:OwnS g s_.Versions vs_1 cs_1) (vs_2:Value) (cs_2:Hl) (hs_2:OwnS g s_.Log vs_2 cs_2) (vs_3:Value) (cs_3:Hl) (hs_3:OwnS g s_.Last vs_3 cs_3) (vs_4:Value) (cs_4:Hl) (hs_4:OwnS g s_.Base vs_4 cs_4) (vs_5:Value) (cs_5:Hl) (hs_5:OwnS g s_.Sent vs_5 cs_5) (vs_6:Value) (cs_6:Hl) (hs_6:OwnS g s_.Working vs_6 cs_6) (vs_7:Value) (hs_7:RepSl g s_.Flight vs_7) (keys:(List Int)) (vkeys1:Value) (hkeys1:RepSl g keys vkeys1) (e_:ForgeEvent) (ve_1:Value) (he_1:RepSl g e_.Patch.Changes ve_1) (S:St g [cs_1,cs_2,cs_3,cs_4,cs_5,cs_6] fr w) (hm:B9 s_ keys e_=some r) :
  Calls Tryz.prog 23 [.agg #[vs_1,vs_2,vs_3,vs_4,vs_5,vs_6,vs_7],vkeys1,.agg #[.i6 e_.Kind,.i6 e_.User,.i6 e_.Key,.i6 e_.N,ve_1]].toArray w (fun en w'=>∃ v,en=.returned v∧∃ (g':Gh) (v1 v2 v3 v4 v5 v6 v7:Value) (c1 c2 c3 c4 c5 c6:Hl),Le g g'∧St g' [c1,c2,c3,c4,c5,c6] fr w'∧OwnS g' r.1.Versions v1 c1∧OwnS g' r.1.Log v2 c2∧OwnS g' r.1.Last v3 c3∧OwnS g' r.1.Base v4 c4∧OwnS g' r.1.Sent v5 c5∧OwnS g' r.1.Working v6 c6∧RepSl g' r.1.Flight v7∧.tuple #[.agg #[v1,v2,v3,v4,v5,v6,v7],.i6 r.2]=v):=by
 unfold B9 at hm;refine An (fn:=Tryz.f23) Tryz.func23 Z Tryz.ntmps23 (lb Z) ?_;intro a F;replace F:Fr 241 a [(0,.agg #[vs_1,vs_2,vs_3,vs_4,vs_5,vs_6,vs_7]),(1,vkeys1),(2,.agg #[.i6 e_.Kind,.i6 e_.User,.i6 e_.Key,.i6 e_.N,ve_1])]:=F
 haveI:∀ (s_:Forge_changeforgeref2) (e_:ForgeEvent) (y17:FileTree×Fault) ,DH (B9.j1 s_ e_ y17) 15 [0,1,2,3,4,5,6,7,8,9,10,11,12] [11,6,3] (fun g8 e c=>∃ (b5:Nat) (u0:Value) (b2:Nat) (u1:Value) (u2:Value) (u3:Value) (u4:Value) (u5:Value),Kf e 12=some (bp b5 0)∧Kf e 112=some (bp b2 0)∧c=[[bx b5 #[u0] 26],[bx b2 #[u1,u2,u3,u4,u5] 62]]) (fun g8 e c=>∃ v23 b8 b9,e=[(14,bp b8 0),(13,bp b9 0),(125,.agg #[.i6 y17.2.Code,.i6 y17.2.Index]),(124,.agg #[v23])]∧c=[[bx b8 #[.i6 0,.i6 0] 29],[bx b9 #[Ds] 26]]∧RepSl g8 y17.1.Files v23):=fun _ _ _=>{}
 haveI:∀ (s_:Forge_changeforgeref2) (y32:List Int) (y38:Dx)  (x4:Dx),DH (B9.j4 s_ y32 y38 x4) 9 [1,2,4,0,3,5] [6,3] (fun g16 e c=>∃ (b14:Nat) (u0:Value) (u1:Value) (u2:Value) (u3:Value) (u4:Value) (u5:Value) (b2:Nat) (u6:Value) (u7:Value) (u8:Value) (u9:Value) (u10:Value),Kf e 17=some (bp b14 0)∧Kf e 5=some (bp b2 0)∧c=[[bx b14 #[u0,u1,u2,u3,u4,u5] 87],[bx b2 #[u6,u7,u8,u9,u10] 62]]) (fun g16 e c=>∃ v33 v34 c27 c28,e=[(237,v33),(235,v34)]∧c=[c27,c28]∧OwnS g16 x4 v33 c27∧OwnS g16 y38 v34 c28):=fun _ _ _ _=>{}
 haveI:∀ (s_:Forge_changeforgeref2) (keys:(List Int)) (e_:ForgeEvent) (y29:TreePatch×Fault) ,DH (B9.j3 s_ keys e_ y29) 14 [0,1,2,3,4,5,6,7,8,9,10,11] [11,6,5,3,1] (fun g12 e c=>∃ (b5:Nat) (u0:Value),Kf e 12=some (bp b5 0)∧c=[[bx b5 #[u0] 26]]) (fun g12 e c=>∃ v29 b12 b13 c22,e=[(16,bp b12 0),(15,bp b13 0),(180,.agg #[.i6 y29.2.Code,.i6 y29.2.Index]),(179,.agg #[v29])]∧c=[[bx b12 #[.i6 0,.i6 0] 29],[bx b13 #[Ds] 60],c22]∧OwnS g12 y29.1.Changes v29 c22):=fun _ _ _ _=>{}
 exact goC F S
end Go.Dc
