import Derived.Test.YtfpbdmldeikfbaaGreatDoorDcTab
import Derived.Test.YtfpbdmldeikfbaaGreatDoorDcAU
import Derived.Test.YtfpbdmldeikfbaaGreatDoorDcM
import Derived.Test.YtfpbdmldeikfbaaGreatDoorDcW3
import Derived.Test.YtfpbdmldeikfbaaGreatDoorDcW7
set_option linter.unusedSimpArgs false
set_option linter.unusedVariables false
namespace Go.Dc
open Go Go.Proofs
set_option maxRecDepth 100000
set_option maxHeartbeats 8000000
set_option linter.unusedVariables false
theorem X9 {g:Gh} {fr:Hl} {w:World} {r:Int×Fault} (p_:TreePatch) (vp_1:Value) (hp_1:RepSl g p_.Changes vp_1) (S:St g [] fr w) (hm:Dh p_=some r) :
  Calls Tryz.prog 99 [.agg #[vp_1]].toArray w (fun en w'=>∃ v,en=.returned v∧∃ (g':Gh),Le g g'∧St g' [] fr w'∧.tuple #[.i6 r.1,.agg #[.i6 r.2.Code,.i6 r.2.Index]]=v):=by
 unfold Dh at hm;refine An (fn:=Tryz.f99) Tryz.func99 Z Tryz.ntmps99 (lb Z) ?_;intro a F;replace F:Fr 67 a [(0,.agg #[vp_1])]:=F
 haveI:∀ (p_:TreePatch),LH (fun s=>Dh.l1 p_ s.1 s.2) [20,19,6,5,3] (fun g3 s e c=>e=[(21,.i6 s.1),(7,.i6 s.2)]∧c=[]∧True):=fun _=>{}
 haveI:∀ (y2:TreeChange),LH (fun s=>Dh.l2 y2 s.1 s.2) [45,44,21,20,19,6,5,3] (fun g11 s e c=>e=[(46,.i6 s.1),(7,.i6 s.2)]∧c=[]∧True):=fun _=>{}
 exact goC F S
instance:Con Tryz.prog 99 0 (type_of% @X9):=⟨@X9,tc99⟩
theorem Y1 {g:Gh} {fr:Hl} {w:World} {r:Bool} (n_:Int) (S:St g [] fr w) (hm:N4 n_=some r) :
  Calls Tryz.prog 101 [.i6 n_].toArray w (fun en w'=>∃ v,en=.returned v∧∃ (g':Gh),Le g g'∧St g' [] fr w'∧.bool r=v):=by
 unfold N4 at hm;refine An (fn:=Tryz.f101) Tryz.func101 Z Tryz.ntmps101 (lb Z) ?_;intro a F;replace F:Fr 9 a [(0,.i6 n_)]:=F;exact goC F S
instance:Con Tryz.prog 101 0 (type_of% @Y1):=⟨@Y1,tc101⟩
theorem objects_Big_ok {g:Gh} {fr:Hl} {w:World} {r:(List UInt8)} (n_:Int) (S:St g [] fr w) (hm:My n_=some r) :
  Calls Tryz.prog 140 [.i6 n_].toArray w (fun en w'=>∃ v,en=.returned v∧∃ (g':Gh) (v1:Value) (c1:Hl),Le g g'∧St g' [c1] fr w'∧OwnS g' r v1 c1∧v1=v):=by
 unfold My at hm;refine An (fn:=Tryz.f140) Tryz.func140 Z Tryz.ntmps140 (lb Z) ?_;intro a F;replace F:Fr 17 a [(0,.i6 n_)]:=F
 haveI:∀ (n_:Int),LH (fun s=>My.l1 n_ s.1 s.2) [0] (fun g2 s e c=>∃ v2 c2,e=[(4,.i6 s.1),(3,v2)]∧c=[c2]∧OwnS g2 s.2 v2 c2):=fun _=>{}
 exact goC F S
instance:Con Tryz.prog 140 0 (type_of% @objects_Big_ok):=⟨@objects_Big_ok,tc140⟩
theorem Zr {g:Gh} {fr:Hl} {w:World} {r:(List UInt8)×Fault} (numbers:(List Int)) (vnumbers1:Value) (hnumbers1:RepSl g numbers vnumbers1) (S:St g [] fr w) (hm:Kh numbers=some r) :
  Calls Tryz.prog 100 [vnumbers1].toArray w (fun en w'=>∃ v,en=.returned v∧∃ (g':Gh) (v1:Value) (c1:Hl),Le g g'∧St g' [c1] fr w'∧OwnS g' r.1 v1 c1∧.tuple #[v1,.agg #[.i6 r.2.Code,.i6 r.2.Index]]=v):=by
 unfold Kh at hm;refine An (fn:=Tryz.f100) Tryz.func100 Z Tryz.ntmps100 (lb Z) ?_;intro a F;replace F:Fr 30 a [(0,vnumbers1)]:=F
 haveI:∀ (numbers:(List Int)),LH (fun s=>Kh.l1 numbers s.1 s.2) [12,11,3] (fun g2 s e c=>∃ v2 c2,e=[(13,.i6 s.1),(4,v2)]∧c=[c2]∧OwnS g2 s.2 v2 c2):=fun _=>{}
 exact goC F S
instance:Con Tryz.prog 100 0 (type_of% @Zr):=⟨@Zr,tc100⟩
theorem W1 {g:Gh} {fr:Hl} {w:World} {r:(List UInt8)} (m_:Message_forge) (vm_1:Value) (hm_1:RepSl g m_.patch.Changes vm_1) (S:St g [] fr w) (hm:Lz m_=some r) :
  Calls Tryz.prog 66 [.agg #[.i6 m_.user,.i6 m_.number,.i6 m_.base,.i6 m_.signature,vm_1]].toArray w (fun en w'=>∃ v,en=.returned v∧∃ (g':Gh) (v1:Value) (c1:Hl),Le g g'∧St g' [c1] fr w'∧OwnS g' r v1 c1∧v1=v):=by
 unfold Lz at hm;refine An (fn:=Tryz.f66) Tryz.func66 Z Tryz.ntmps66 (lb Z) ?_;intro a F;replace F:Fr 26 a [(0,.agg #[.i6 m_.user,.i6 m_.number,.i6 m_.base,.i6 m_.signature,vm_1])]:=F;exact goC F S
instance:Con Tryz.prog 66 0 (type_of% (fun {g} {fr} {w} {r} m1 m2 m3 m4 m5 vm_1 hm_1=>@W1 g fr w r ⟨m1,m2,m3,m4,⟨m5⟩⟩ vm_1 hm_1)):=⟨(fun {g} {fr} {w} {r} m1 m2 m3 m4 m5 vm_1 hm_1=>@W1 g fr w r ⟨m1,m2,m3,m4,⟨m5⟩⟩ vm_1 hm_1),tc66⟩
theorem Yg {g:Gh} {fr:Hl} {w:World} {r:Int×State_forge} (bs_:Nat) (s_:State_forge) (vs_1:Value) (hs_1:RepSl g s_.keys vs_1) (vs_2:Value) (cs_1:Hl) (hs_2:OwnS g s_.versions vs_2 cs_1) (vs_3:Value) (cs_2:Hl) (hs_3:OwnS g s_.developers vs_3 cs_2) (vs_4:Value) (cs_3:Hl) (hs_4:OwnS g s_.flight vs_4 cs_3) (vs_5:Value) (cs_4:Hl) (hs_5:OwnS g s_.log vs_5 cs_4) (user:Int) (key:Int) (S:St g [[bx bs_ #[vs_1,vs_2,vs_3,vs_4,vs_5] 55],cs_1,cs_2,cs_3,cs_4] fr w) (hm:L0 s_ user key=some r) :
  Calls Tryz.prog 39 [bp bs_ 0,.i6 user,.i6 key].toArray w (fun en w'=>∃ v,en=.returned v∧∃ (g':Gh) (v1 v2 v3 v4 v5:Value) (c1 c2 c3 c4:Hl),Le g g'∧St g' [[bx bs_ #[v1,v2,v3,v4,v5] 55],c1,c2,c3,c4] fr w'∧RepSl g' r.2.keys v1∧OwnS g' r.2.versions v2 c1∧OwnS g' r.2.developers v3 c2∧OwnS g' r.2.flight v4 c3∧OwnS g' r.2.log v5 c4∧.i6 r.1=v):=by
 unfold L0 at hm;refine An (fn:=Tryz.f39) Tryz.func39 Z Tryz.ntmps39 (lb Z) ?_;intro a F;replace F:Fr 89 a [(0,bp bs_ 0),(1,.i6 user),(2,.i6 key)]:=F
 haveI:∀ (s_:State_forge) (user:Int) (key:Int) (y1:Developer_forge) (y3:TreePatch×Fault) ,DH (L0.j1 s_ user key y1 y3) 22 [0,1,2,3,4,5,6,7,8,9,10,11,12,13,14,15,16,17,18,19] [7,0,1,2] (fun g2 e c=>c=[]) (fun g2 e c=>∃ v5 b3 b4 c2,e=[(9,bp b3 0),(8,bp b4 0),(34,.agg #[.i6 y3.2.Code,.i6 y3.2.Index]),(33,.agg #[v5])]∧c=[[bx b3 #[.i6 0,.i6 0] 29],[bx b4 #[Ds] 60],c2]∧OwnS g2 y3.1.Changes v5 c2):=fun _ _ _ _ _=>{}
 exact goC F S
instance:Con Tryz.prog 39 0 (type_of% @Yg):=⟨@Yg,tc39⟩
end Go.Dc
