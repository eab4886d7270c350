import Derived.Test.YtfpbdmldeikfbaaGreatDoorDcTab
import Derived.Test.YtfpbdmldeikfbaaGreatDoorDcAU
import Derived.Test.YtfpbdmldeikfbaaGreatDoorDcM
import Derived.Test.YtfpbdmldeikfbaaGreatDoorDcW14
import Derived.Test.YtfpbdmldeikfbaaGreatDoorDcW17
import Derived.Test.YtfpbdmldeikfbaaGreatDoorDcW19
import Derived.Test.YtfpbdmldeikfbaaGreatDoorDcW20
import Derived.Test.YtfpbdmldeikfbaaGreatDoorDcW22
set_option linter.unusedSimpArgs false
set_option linter.unusedVariables false
namespace Go.Dc
open Go Go.Proofs
set_option maxRecDepth 100000
set_option maxHeartbeats 8000000
set_option linter.unusedVariables false
theorem Qt {g:Gh} {fr:Hl} {w:World} {r:FileTree×Bq×Fault} (base:FileTree) (vbase1:Value) (hbase1:RepSl g base.Files vbase1) (left:TreePatch) (vleft1:Value) (hleft1:RepSl g left.Changes vleft1) (right:TreePatch) (vright1:Value) (hright1:RepSl g right.Changes vright1) (S:St g [] fr w) (hm:Ao base left right=some r) :
  Calls Tryz.prog 48 [.agg #[vbase1],.agg #[vleft1],.agg #[vright1]].toArray w (fun en w'=>∃ v,en=.returned v∧∃ (g':Gh) (v1 v2:Value) (c1 c2:Hl),Le g g'∧St g' [c1,c2] fr w'∧OwnS g' r.1.Files v1 c1∧OwnS g' r.2.1 v2 c2∧.tuple #[.agg #[v1],v2,.agg #[.i6 r.2.2.Code,.i6 r.2.2.Index]]=v):=by
 unfold Ao at hm;refine An (fn:=Tryz.f48) Tryz.func48 Z Tryz.ntmps48 (lb Z) ?_;intro a F;replace F:Fr 262 a [(0,.agg #[vbase1]),(1,.agg #[vleft1]),(2,.agg #[vright1])]:=F
 haveI:∀ (left:TreePatch) (right:TreePatch) (y4:FileTree×Fault) (x2:Ai) (x3:Ai),LH (fun s=>Ao.l1 left right y4 x2 x3 s.1 s.2.1 s.2.2) [16,15,12,8,6,5,4] (fun g14 s e c=>∃ v17 v18 c15 c16,e=[(24,.i6 s.1),(23,v17),(14,v18)]∧c=[c15,c16]∧OwnS g14 s.2.1 v17 c15∧OwnS g14 s.2.2 v18 c16):=fun _ _ _ _ _=>{}
 haveI:∀ (y4:FileTree×Fault) (x2:Ai) (x3:Ai) (x7:Int),LH (fun s=>Ao.l2 y4 x2 x3 x7 s.1 s.2) [24,23,16,15,14,12,8,6,5,4] (fun g19 s e c=>e=[(26,.i6 s.1),(25,.bool s.2)]∧c=[]∧True):=fun _ _ _ _=>{}
 haveI:∀ (base:FileTree) (left:TreePatch) (right:TreePatch) (y2:FileTree×Fault) (y4:FileTree×Fault) (y9:FileTree),LH (fun s=>Ao.l3 base left right y2 y4 y9 s.1 s.2.1 s.2.2.1 s.2.2.2) [13,12,10,8,6,5,4,3] (fun g22 s e c=>∃ v32 v33 v34 c23 c24 c25,e=[(17,.i6 s.1),(16,v32),(15,v33),(14,v34)]∧c=[c23,c24,c25]∧OwnS g22 s.2.1 v32 c23∧OwnS g22 s.2.2.1 v33 c24∧OwnS g22 s.2.2.2 v34 c25):=fun _ _ _ _ _ _=>{}
 haveI:∀ (base:FileTree) (left:TreePatch) (right:TreePatch) (y2:FileTree×Fault) (y4:FileTree×Fault) (y9:FileTree) ,DH (Ao.j1 base left right y2 y4 y9) 13 [1,2,4,5,7,8,0,3,6,9,10,11] [12,10,8,6,5,4,3] (fun g8 e c=>∃ (b8:Nat) (u0:Value) (u1:Value) (b6:Nat) (u2:Value) (u3:Value),Kf e 53=some (bp b8 0)∧Kf e 29=some (bp b6 0)∧c=[[bx b8 #[u0,u1] 29],[bx b6 #[u2,u3] 29]]) (fun g8 e c=>∃ v8 b11 c6,e=[(13,bp b11 0),(70,.agg #[v8])]∧c=[[bx b11 #[Ds] 26],c6]∧OwnS g8 y9.Files v8 c6):=fun _ _ _ _ _ _=>{}
 exact goC F S
instance:Con Tryz.prog 48 0 (type_of% @Qt):=⟨@Qt,tc48⟩
end Go.Dc
