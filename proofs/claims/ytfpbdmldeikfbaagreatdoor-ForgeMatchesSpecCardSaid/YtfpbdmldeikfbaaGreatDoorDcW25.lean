import Derived.Test.YtfpbdmldeikfbaaGreatDoorDcTab
import Derived.Test.YtfpbdmldeikfbaaGreatDoorDcAU
import Derived.Test.YtfpbdmldeikfbaaGreatDoorDcM
import Derived.Test.YtfpbdmldeikfbaaGreatDoorDcW24
set_option linter.unusedSimpArgs false
set_option linter.unusedVariables false
namespace Go.Dc
open Go Go.Proofs
set_option maxRecDepth 100000
set_option maxHeartbeats 8000000
set_option linter.unusedVariables false
theorem Qm {g:Gh} {fr:Hl} {w:World} {r:Int} (p_:TreePatch) (vp_1:Value) (hp_1:RepSl g p_.Changes vp_1) (S:St g [] fr w) (hm:Bi p_=some r) :
  Calls Tryz.prog 55 [.agg #[vp_1]].toArray w (fun en w'=>∃ v,en=.returned v∧∃ (g':Gh),Le g g'∧St g' [] fr w'∧.i6 r=v):=by
 unfold Bi at hm;refine An (fn:=Tryz.f55) Tryz.func55 Z Tryz.ntmps55 (lb Z) ?_;intro a F;replace F:Fr 84 a [(0,.agg #[vp_1])]:=F
 haveI:∀ (p_:TreePatch),LH (fun s=>Bi.l1 p_ s.1 s.2) [1] (fun g2 s e c=>e=[(4,.i6 s.1),(3,.i6 s.2)]∧c=[]∧True):=fun _=>{}
 haveI:∀ (y1:TreeChange),LH (fun s=>Bi.l2 y1 s.1 s.2) [5,4,1] (fun g15 s e c=>e=[(8,.i6 s.1),(3,.i6 s.2)]∧c=[]∧True):=fun _=>{}
 haveI:∀ (x2:Int) (y1:TreeChange) (y2:Int×Fault) (y3:Int)  (x6:List UInt8),DH (Bi.j3 x2 y1 y2 y3 x6) 10 [0,1,2,4,5,3,6] [6,5,4,3,1] (fun g7 e c=>∃ (b3:Nat) (u0:Value) (u1:Value),Kf e 7=some (bp b3 0)∧c=[[bx b3 #[u0,u1] 29]]) (fun g7 e c=>∃ v4,e=[(38,v4),(35,.i6 y3)]∧c=[]∧RepSl g7 x6 v4):=fun _ _ _ _ _=>{}
 exact goC F S
instance:Con Tryz.prog 55 0 (type_of% @Qm):=⟨@Qm,tc55⟩
theorem Vd {g:Gh} {fr:Hl} {w:World} {r:Int} (key:Int) (m_:Letter_changeforgeref2) (vm_1:Value) (hm_1:RepSl g m_.Patch.Changes vm_1) (S:St g [] fr w) (hm:Cc key m_=some r) :
  Calls Tryz.prog 35 [.i6 key,.agg #[.i6 m_.User,.i6 m_.Number,.i6 m_.Base,.i6 m_.Signature,.i6 m_.Right,vm_1]].toArray w (fun en w'=>∃ v,en=.returned v∧∃ (g':Gh),Le g g'∧St g' [] fr w'∧.i6 r=v):=by
 unfold Cc at hm;refine An (fn:=Tryz.f35) Tryz.func35 Z Tryz.ntmps35 (lb Z) ?_;intro a F;replace F:Fr 47 a [(0,.i6 key),(1,.agg #[.i6 m_.User,.i6 m_.Number,.i6 m_.Base,.i6 m_.Signature,.i6 m_.Right,vm_1])]:=F
 haveI:∀ (m_:Letter_changeforgeref2) (y1:Int),LH (fun s=>Cc.l1 m_ y1 s.1 s.2) [5,0] (fun g6 s e c=>∃ v3 c3,e=[(7,.i6 s.1),(6,v3)]∧c=[c3]∧OwnS g6 s.2 v3 c3):=fun _ _=>{}
 haveI:∀ (m_:Letter_changeforgeref2) (y1:Int) (x2:Int),LH (fun s=>Cc.l2 m_ y1 x2 s.1 s.2.1 s.2.2) [7,5,0] (fun g9 s e c=>∃ v6 c6,e=[(9,.i6 s.1),(8,.i6 s.2.1),(6,v6)]∧c=[c6]∧OwnS g9 s.2.2 v6 c6):=fun _ _ _=>{}
 exact goC F S
instance:Con Tryz.prog 35 0 (type_of% (fun {g} {fr} {w} {r} key m1 m2 m3 m4 m5 m6 vm_1 hm_1=>@Vd g fr w r key ⟨m1,m2,m3,m4,m5,⟨m6⟩⟩ vm_1 hm_1)):=⟨(fun {g} {fr} {w} {r} key m1 m2 m3 m4 m5 m6 vm_1 hm_1=>@Vd g fr w r key ⟨m1,m2,m3,m4,m5,⟨m6⟩⟩ vm_1 hm_1),tc35⟩
end Go.Dc
