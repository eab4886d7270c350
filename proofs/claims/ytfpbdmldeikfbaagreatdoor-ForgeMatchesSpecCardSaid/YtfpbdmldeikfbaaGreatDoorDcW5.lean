import Derived.Test.YtfpbdmldeikfbaaGreatDoorDcTab
import Derived.Test.YtfpbdmldeikfbaaGreatDoorDcAU
import Derived.Test.YtfpbdmldeikfbaaGreatDoorDcM
import Derived.Test.YtfpbdmldeikfbaaGreatDoorDcW1
import Derived.Test.YtfpbdmldeikfbaaGreatDoorDcW3
import Derived.Test.YtfpbdmldeikfbaaGreatDoorDcW4
set_option linter.unusedSimpArgs false
set_option linter.unusedVariables false
namespace Go.Dc
open Go Go.Proofs
set_option maxRecDepth 100000
set_option maxHeartbeats 8000000
set_option linter.unusedVariables false
theorem Zx {g:Gh} {fr:Hl} {w:World} {r:Ab×Fault} (p_:Patch) (vp_1:Value) (hp_1:RepSl g p_.Hunks vp_1) (text:Ab) (vtext1:Value) (htext1:RepSl g text vtext1) (S:St g [] fr w) (hm:Hi p_ text=some r) :
  Calls Tryz.prog 94 [.agg #[vp_1],vtext1].toArray w (fun en w'=>∃ v,en=.returned v∧∃ (g':Gh) (v1:Value) (c1:Hl),Le g g'∧St g' [c1] fr w'∧OwnS g' r.1 v1 c1∧.tuple #[v1,.agg #[.i6 r.2.Code,.i6 r.2.Index]]=v):=by
 unfold Hi at hm;refine An (fn:=Tryz.f94) Tryz.func94 Z Tryz.ntmps94 (lb Z) ?_;intro a F;replace F:Fr 53 a [(0,.agg #[vp_1]),(1,vtext1)]:=F
 haveI:∀ (p_:Patch) (text:Ab),LH (fun s=>Hi.l1 p_ text s) [25,24,5,2,1] (fun g5 s e c=>e=[(26,.i6 s)]∧c=[]∧True):=fun _ _=>{}
 exact goC F S
instance:Con Tryz.prog 94 0 (type_of% @Zx):=⟨@Zx,tc94⟩
theorem Z0 {g:Gh} {fr:Hl} {w:World} {r:Int×FileTree} (c_:TreeChange) (vc_1:Value) (hc_1:RepSl g c_.Lines vc_1) (vc_2:Value) (hc_2:RepSl g c_.Patch.Hunks vc_2) (bt_:Nat) (t_:FileTree) (vt_1:Value) (ct_1:Hl) (ht_1:OwnS g t_.Files vt_1 ct_1) (S:St g [[bx bt_ #[vt_1] 26],ct_1] fr w) (hm:Mc c_ t_=some r) :
  Calls Tryz.prog 63 [.agg #[.i6 c_.Kind,.string c_.Path,.string c_.To,vc_1,vc_2],bp bt_ 0].toArray w (fun en w'=>∃ v,en=.returned v∧∃ (g':Gh) (v1:Value) (c1:Hl),Le g g'∧St g' [[bx bt_ #[v1] 26],c1] fr w'∧OwnS g' r.2.Files v1 c1∧.i6 r.1=v):=by
 unfold Mc at hm;refine An (fn:=Tryz.f63) Tryz.func63 Z Tryz.ntmps63 (lb Z) ?_;intro a F;replace F:Fr 120 a [(0,.agg #[.i6 c_.Kind,.string c_.Path,.string c_.To,vc_1,vc_2]),(1,bp bt_ 0)]:=F;exact goC F S
instance:Con Tryz.prog 63 0 (type_of% (fun {g} {fr} {w} {r} c1 c2 c3 c4 c5 vc_1 hc_1 vc_2 hc_2 bt_ t_ vt_1 ct_1 ht_1=>@Z0 g fr w r ⟨c1,c2,c3,c4,⟨c5⟩⟩ vc_1 hc_1 vc_2 hc_2 bt_ t_ vt_1 ct_1 ht_1)):=⟨(fun {g} {fr} {w} {r} c1 c2 c3 c4 c5 vc_1 hc_1 vc_2 hc_2 bt_ t_ vt_1 ct_1 ht_1=>@Z0 g fr w r ⟨c1,c2,c3,c4,⟨c5⟩⟩ vc_1 hc_1 vc_2 hc_2 bt_ t_ vt_1 ct_1 ht_1),tc63⟩
theorem Z5 {g:Gh} {fr:Hl} {w:World} {r:FileTree×Fault} (p_:TreePatch) (vp_1:Value) (hp_1:RepSl g p_.Changes vp_1) (t_:FileTree) (vt_1:Value) (ht_1:RepSl g t_.Files vt_1) (S:St g [] fr w) (hm:Ha p_ t_=some r) :
  Calls Tryz.prog 38 [.agg #[vp_1],.agg #[vt_1]].toArray w (fun en w'=>∃ v,en=.returned v∧∃ (g':Gh) (v1:Value) (c1:Hl),Le g g'∧St g' [c1] fr w'∧OwnS g' r.1.Files v1 c1∧.tuple #[.agg #[v1],.agg #[.i6 r.2.Code,.i6 r.2.Index]]=v):=by
 unfold Ha at hm;refine An (fn:=Tryz.f38) Tryz.func38 Z Tryz.ntmps38 (lb Z) ?_;intro a F;replace F:Fr 47 a [(0,.agg #[vp_1]),(1,.agg #[vt_1])]:=F
 haveI:∀ (p_:TreePatch),LH (fun s=>Ha.l1 p_ s.1 s.2) [30,29,5,4] (fun g5 s e c=>∃ v3 c3 b7,e=[(31,.i6 s.1),(8,bp b7 0)]∧c=[[bx b7 #[v3] 26],c3]∧OwnS g5 s.2 v3 c3):=fun _=>{}
 exact goC F S
instance:Con Tryz.prog 38 0 (type_of% @Z5):=⟨@Z5,tc38⟩
theorem Aa8 {g:Gh} {fr:Hl} {w:World} {r:Fault} (a_:Ab) (va_1:Value) (ha_1:RepSl g a_ va_1) (b_:Ab) (vb_1:Value) (hb_1:RepSl g b_ vb_1) (S:St g [] fr w) (hm:Wf a_ b_=some r) :
  Calls Tryz.prog 126 [va_1,vb_1].toArray w (fun en w'=>∃ v,en=.returned v∧∃ (g':Gh),Le g g'∧St g' [] fr w'∧.agg #[.i6 r.Code,.i6 r.Index]=v):=by
 unfold Wf at hm;refine An (fn:=Tryz.f126) Tryz.func126 Z Tryz.ntmps126 (lb Z) ?_;intro a F;replace F:Fr 14 a [(0,va_1),(1,vb_1)]:=F;exact goC F S
instance:Con Tryz.prog 126 0 (type_of% @Aa8):=⟨@Aa8,tc126⟩
theorem diff_Align_s1_ok {g:Gh} {fr:Hl} {w:World} {r:Int} (i_:Int) (j:Int) (bu2:Nat) (u2:(List Int)) (vu21:Value) (cu21:Hl) (hu21:OwnS g u2 vu21 cu21) (bu3:Nat) (u3:Int) (S:St g [[bx bu2 #[vu21] 22],cu21,[bx bu3 #[.i6 u3] 3]] fr w) (hm:Nb i_ j u2 u3=some r) :
  Calls Tryz.prog 162 [.i6 i_,.i6 j,bp bu2 0,bp bu3 0].toArray w (fun en w'=>∃ v,en=.returned v∧∃ (g':Gh),Le g g'∧St g' [[bx bu2 #[vu21] 22],cu21,[bx bu3 #[.i6 u3] 3]] fr w'∧.i6 r=v):=by
 unfold Nb at hm;refine An (fn:=Tryz.f162) Tryz.func162 Z Tryz.ntmps162 (lb Z) ?_;intro a F;replace F:Fr 15 a [(0,.i6 i_),(1,.i6 j),(2,bp bu2 0),(3,bp bu3 0)]:=F;exact goC F S
instance:Con Tryz.prog 162 0 (type_of% @diff_Align_s1_ok):=⟨@diff_Align_s1_ok,tc162⟩
theorem diff_Align_ok {g:Gh} {fr:Hl} {w:World} {r:(List Int)} (a_:Ab) (va_1:Value) (ha_1:RepSl g a_ va_1) (b_:Ab) (vb_1:Value) (hb_1:RepSl g b_ vb_1) (S:St g [] fr w) (hm:Ex a_ b_=some r) :
  Calls Tryz.prog 127 [va_1,vb_1].toArray w (fun en w'=>∃ v,en=.returned v∧∃ (g':Gh) (v1:Value) (c1:Hl),Le g g'∧St g' [c1] fr w'∧OwnS g' r v1 c1∧v1=v):=by
 unfold Ex at hm;refine An (fn:=Tryz.f127) Tryz.func127 Z Tryz.ntmps127 (lb Z) ?_;intro a F;replace F:Fr 147 a [(0,va_1),(1,vb_1)]:=F
 haveI:∀ (a_:Ab) (b_:Ab) (z1:Int) (x1:List Int),LH (fun s=>Ex.l1 a_ b_ z1 x1 s.1 s.2.1 s.2.2) [7,0,1] (fun g3 s e c=>∃ v4 c4,e=[(13,.i6 s.1),(12,.i6 s.2.1),(11,v4)]∧c=[c4]∧OwnS g3 s.2.2 v4 c4):=fun _ _ _ _=>{}
 haveI:∀ (a_:Ab) (b_:Ab) (z1:Int),LH (fun s=>Ex.l2 a_ b_ z1 s.1 s.2) [0,1] (fun g8 s e c=>∃ v11 c11 b1 b2,e=[(8,.i6 s.1),(7,.func (.func 162) #[] #[bp b2 0,bp b1 0]),(6,bp b2 0),(5,bp b1 0)]∧c=[[bx b2 #[v11] 22],[bx b1 #[.i6 z1] 3],c11]∧OwnS g8 s.2 v11 c11):=fun _ _ _=>{}
 haveI:∀ (a_:Ab) (b_:Ab) (z1:Int) (x12:Int),LH (fun s=>Ex.l3 a_ b_ z1 x12 s.1 s.2) [8,0,1] (fun g11 s e c=>∃ v14 c14 b1 b2,e=[(9,.i6 s.1),(7,.func (.func 162) #[] #[bp b2 0,bp b1 0]),(6,bp b2 0),(5,bp b1 0)]∧c=[[bx b2 #[v14] 22],[bx b1 #[.i6 z1] 3],c14]∧OwnS g11 s.2 v14 c14):=fun _ _ _ _=>{}
 exact goC F S
instance:Con Tryz.prog 127 0 (type_of% @diff_Align_ok):=⟨@diff_Align_ok,tc127⟩
theorem Wn {g:Gh} {fr:Hl} {w:World} {r:Collector_diff} (bc_:Nat) (c_:Collector_diff) (vc_1:Value) (cc_1:Hl) (hc_1:OwnN g c_.hunks vc_1 cc_1) (n_:Int) (S:St g [[bx bc_ #[vc_1,.i6 c_.at_,.bool c_.open_] 195],cc_1] fr w) (hm:Ni c_ n_=some r) :
  Calls Tryz.prog 128 [bp bc_ 0,.i6 n_].toArray w (fun en w'=>∃ v,en=.returned v∧∃ (g':Gh) (v1:Value) (c1:Hl),Le g g'∧St g' [[bx bc_ #[v1,.i6 r.at_,.bool r.open_] 195],c1] fr w'∧OwnN g' r.hunks v1 c1∧.tuple #[]=v):=by
 unfold Ni at hm;refine An (fn:=Tryz.f128) Tryz.func128 Z Tryz.ntmps128 (lb Z) ?_;intro a F;replace F:Fr 18 a [(0,bp bc_ 0),(1,.i6 n_)]:=F;exact goC F S
instance:Con Tryz.prog 128 0 (type_of% (fun {g} {fr} {w} {r} bc_ c1 c2 c3 vc_1 cc_1 hc_1 n_=>@Wn g fr w r bc_ ⟨c1,c2,c3⟩ vc_1 cc_1 hc_1 n_)):=⟨(fun {g} {fr} {w} {r} bc_ c1 c2 c3 vc_1 cc_1 hc_1 n_=>@Wn g fr w r bc_ ⟨c1,c2,c3⟩ vc_1 cc_1 hc_1 n_),tc128⟩
end Go.Dc
