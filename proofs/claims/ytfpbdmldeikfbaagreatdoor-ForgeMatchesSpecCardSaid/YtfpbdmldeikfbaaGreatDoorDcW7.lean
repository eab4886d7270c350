import Derived.Test.YtfpbdmldeikfbaaGreatDoorDcTab
import Derived.Test.YtfpbdmldeikfbaaGreatDoorDcAU
import Derived.Test.YtfpbdmldeikfbaaGreatDoorDcM
import Derived.Test.YtfpbdmldeikfbaaGreatDoorDcW1
import Derived.Test.YtfpbdmldeikfbaaGreatDoorDcW3
import Derived.Test.YtfpbdmldeikfbaaGreatDoorDcW4
import Derived.Test.YtfpbdmldeikfbaaGreatDoorDcW6
set_option linter.unusedSimpArgs false
set_option linter.unusedVariables false
namespace Go.Dc
open Go Go.Proofs
set_option maxRecDepth 100000
set_option maxHeartbeats 8000000
set_option linter.unusedVariables false
theorem Aa3 {g:Gh} {fr:Hl} {w:World} {r:TreePatch×Fault} (old_:FileTree) (vold_1:Value) (hold_1:RepSl g old_.Files vold_1) (newer:FileTree) (vnewer1:Value) (hnewer1:RepSl g newer.Files vnewer1) (S:St g [] fr w) (hm:Cf old_ newer=some r) :
  Calls Tryz.prog 64 [.agg #[vold_1],.agg #[vnewer1]].toArray w (fun en w'=>∃ v,en=.returned v∧∃ (g':Gh) (v1:Value) (c1:Hl),Le g g'∧St g' [c1] fr w'∧OwnS g' r.1.Changes v1 c1∧.tuple #[.agg #[v1],.agg #[.i6 r.2.Code,.i6 r.2.Index]]=v):=by
 unfold Cf at hm;refine An (fn:=Tryz.f64) Tryz.func64 Z Tryz.ntmps64 (lb Z) ?_;intro a F;replace F:Fr 126 a [(0,.agg #[vold_1]),(1,.agg #[vnewer1])]:=F
 haveI:∀ (old_:FileTree) (newer:FileTree),LH (fun s=>Cf.l1 old_ newer s.1 s.2) [88,87,9,8,5,4,2] (fun g10 s e c=>∃ v6 c6,e=[(89,.i6 s.1),(10,v6)]∧c=[c6]∧OwnS g10 s.2 v6 c6):=fun _ _=>{}
 haveI:∀ (x8:Int) (x9:Ap) (x10:Ap) (y8:File) (y13:Patch×Fault) ,DH (Cf.j5 x8 x9 x10 y8 y13) 16 [0,1,2,3,4,5,6,7,8,9,10,11,12,13] [12,39,38,37,10,9,8,5,4,3,2] (fun g21 e c=>c=[]) (fun g21 e c=>∃ v22 b11 b12,e=[(16,bp b11 0),(15,bp b12 0),(73,.agg #[.i6 y13.2.Code,.i6 y13.2.Index]),(72,.agg #[v22])]∧c=[[bx b11 #[.i6 0,.i6 0] 29],[bx b12 #[Ds] 71]]∧RepSl g21 y13.1.Hunks v22):=fun _ _ _ _ _=>{}
 haveI:∀ (old_:FileTree) (newer:FileTree),LH (fun s=>Cf.l2 old_ newer s.1 s.2.1 s.2.2) [38,37,10,5,4,3,2] (fun g15 s e c=>∃ v12 v13 c11 c12,e=[(39,.i6 s.1),(9,v12),(8,v13)]∧c=[c11,c12]∧OwnS g15 s.2.1 v12 c11∧OwnS g15 s.2.2 v13 c12):=fun _ _=>{}
 exact goC F S
instance:Con Tryz.prog 64 0 (type_of% @Aa3):=⟨@Aa3,tc64⟩
theorem digest_mul_ok {g:Gh} {fr:Hl} {w:World} {r:Int} (a_:Int) (b_:Int) (S:St g [] fr w) (hm:G1 a_ b_=some r) :
  Calls Tryz.prog 164 [.i6 a_,.i6 b_].toArray w (fun en w'=>∃ v,en=.returned v∧∃ (g':Gh),Le g g'∧St g' [] fr w'∧.i6 r=v):=by
 unfold G1 at hm;refine An (fn:=Tryz.f164) Tryz.func164 Z Tryz.ntmps164 (lb Z) ?_;intro a F;replace F:Fr 21 a [(0,.i6 a_),(1,.i6 b_)]:=F
 haveI:LH (fun s=>G1.l1 s.1 s.2.1 s.2.2) [] (fun g2 s e c=>e=[(5,.i6 s.1),(0,.i6 s.2.1),(1,.i6 s.2.2)]∧c=[]∧True):={}
 exact goC F S
instance:Con Tryz.prog 164 0 (type_of% @digest_mul_ok):=⟨@digest_mul_ok,tc164⟩
theorem digest_next_ok {g:Gh} {fr:Hl} {w:World} {r:Int} (s_:Step_digest) (factor:Int) (S:St g [] fr w) (hm:Oy s_ factor=some r) :
  Calls Tryz.prog 133 [.agg #[.i6 s_.e0,.i6 s_.e1],.i6 factor].toArray w (fun en w'=>∃ v,en=.returned v∧∃ (g':Gh),Le g g'∧St g' [] fr w'∧.i6 r=v):=by
 unfold Oy at hm;refine An (fn:=Tryz.f133) Tryz.func133 Z Tryz.ntmps133 (lb Z) ?_;intro a F;replace F:Fr 13 a [(0,.agg #[.i6 s_.e0,.i6 s_.e1]),(1,.i6 factor)]:=F;exact goC F S
instance:Con Tryz.prog 133 0 (type_of% (fun {g} {fr} {w} {r} s1 s2 factor=>@digest_next_ok g fr w r ⟨s1,s2⟩ factor)):=⟨(fun {g} {fr} {w} {r} s1 s2 factor=>@digest_next_ok g fr w r ⟨s1,s2⟩ factor),tc133⟩
theorem digest_Of_ok {g:Gh} {fr:Hl} {w:World} {r:Int×Fault} (data:(List UInt8)) (vdata1:Value) (hdata1:RepSl g data vdata1) (S:St g [] fr w) (hm:H0 data=some r) :
  Calls Tryz.prog 97 [vdata1].toArray w (fun en w'=>∃ v,en=.returned v∧∃ (g':Gh),Le g g'∧St g' [] fr w'∧.tuple #[.i6 r.1,.agg #[.i6 r.2.Code,.i6 r.2.Index]]=v):=by
 unfold H0 at hm;refine An (fn:=Tryz.f97) Tryz.func97 Z Tryz.ntmps97 (lb Z) ?_;intro a F;replace F:Fr 26 a [(0,vdata1)]:=F
 haveI:∀ (data:(List UInt8)),LH (fun s=>H0.l1 data s.1 s.2) [12,11,3] (fun g2 s e c=>e=[(13,.i6 s.1),(4,.i6 s.2)]∧c=[]∧True):=fun _=>{}
 exact goC F S
instance:Con Tryz.prog 97 0 (type_of% @digest_Of_ok):=⟨@digest_Of_ok,tc97⟩
theorem digest_is_ok {g:Gh} {fr:Hl} {w:World} {r:Bool} (a_:Int) (S:St g [] fr w) (hm:digest_is a_=some r) :
  Calls Tryz.prog 134 [.i6 a_].toArray w (fun en w'=>∃ v,en=.returned v∧∃ (g':Gh),Le g g'∧St g' [] fr w'∧.bool r=v):=by
 unfold digest_is at hm;refine An (fn:=Tryz.f134) Tryz.func134 Z Tryz.ntmps134 (lb Z) ?_;intro a F;replace F:Fr 9 a [(0,.i6 a_)]:=F;exact goC F S
instance:Con Tryz.prog 134 0 (type_of% @digest_is_ok):=⟨@digest_is_ok,tc134⟩
theorem digest_pair_ok {g:Gh} {fr:Hl} {w:World} {r:Int} (a_:Int) (b_:Int) (S:St g [] fr w) (hm:N1 a_ b_=some r) :
  Calls Tryz.prog 135 [.i6 a_,.i6 b_].toArray w (fun en w'=>∃ v,en=.returned v∧∃ (g':Gh),Le g g'∧St g' [] fr w'∧.i6 r=v):=by
 unfold N1 at hm;refine An (fn:=Tryz.f135) Tryz.func135 Z Tryz.ntmps135 (lb Z) ?_;intro a F;replace F:Fr 11 a [(0,.i6 a_),(1,.i6 b_)]:=F;exact goC F S
instance:Con Tryz.prog 135 0 (type_of% @digest_pair_ok):=⟨@digest_pair_ok,tc135⟩
theorem digest_Pair_ok {g:Gh} {fr:Hl} {w:World} {r:Int×Fault} (a_:Int) (b_:Int) (S:St g [] fr w) (hm:Gp a_ b_=some r) :
  Calls Tryz.prog 98 [.i6 a_,.i6 b_].toArray w (fun en w'=>∃ v,en=.returned v∧∃ (g':Gh),Le g g'∧St g' [] fr w'∧.tuple #[.i6 r.1,.agg #[.i6 r.2.Code,.i6 r.2.Index]]=v):=by
 unfold Gp at hm;refine An (fn:=Tryz.f98) Tryz.func98 Z Tryz.ntmps98 (lb Z) ?_;intro a F;replace F:Fr 25 a [(0,.i6 a_),(1,.i6 b_)]:=F
 haveI:∀ (a_:Int) (b_:Int),LH (fun s=>Gp.l1 a_ b_ s) [10,5,0,1] (fun g3 s e c=>e=[(11,.i6 s)]∧c=[]∧True):=fun _ _=>{}
 exact goC F S
instance:Con Tryz.prog 98 0 (type_of% @digest_Pair_ok):=⟨@digest_Pair_ok,tc98⟩
theorem signing_Sign_ok {g:Gh} {fr:Hl} {w:World} {r:Int×Fault} (key:Int) (data:(List UInt8)) (vdata1:Value) (hdata1:RepSl g data vdata1) (S:St g [] fr w) (hm:Uw key data=some r) :
  Calls Tryz.prog 65 [.i6 key,vdata1].toArray w (fun en w'=>∃ v,en=.returned v∧∃ (g':Gh),Le g g'∧St g' [] fr w'∧.tuple #[.i6 r.1,.agg #[.i6 r.2.Code,.i6 r.2.Index]]=v):=by
 unfold Uw at hm;refine An (fn:=Tryz.f65) Tryz.func65 Z Tryz.ntmps65 (lb Z) ?_;intro a F;replace F:Fr 26 a [(0,.i6 key),(1,vdata1)]:=F;exact goC F S
instance:Con Tryz.prog 65 0 (type_of% @signing_Sign_ok):=⟨@signing_Sign_ok,tc65⟩
theorem Wh {g:Gh} {fr:Hl} {w:World} {r:Int} (s_:ByteArray) (S:St g [] fr w) (hm:Ml s_=some r) :
  Calls Tryz.prog 136 [.string s_].toArray w (fun en w'=>∃ v,en=.returned v∧∃ (g':Gh),Le g g'∧St g' [] fr w'∧.i6 r=v):=by
 unfold Ml at hm;refine An (fn:=Tryz.f136) Tryz.func136 Z Tryz.ntmps136 (lb Z) ?_;intro a F;replace F:Fr 12 a [(0,.string s_)]:=F;exact goC F S
instance:Con Tryz.prog 136 0 (type_of% @Wh):=⟨@Wh,tc136⟩
theorem Aah {g:Gh} {fr:Hl} {w:World} {r:Int×Fault} (list:Ab) (vlist1:Value) (hlist1:RepSl g list vlist1) (S:St g [] fr w) (hm:Kj list=some r) :
  Calls Tryz.prog 138 [vlist1].toArray w (fun en w'=>∃ v,en=.returned v∧∃ (g':Gh),Le g g'∧St g' [] fr w'∧.tuple #[.i6 r.1,.agg #[.i6 r.2.Code,.i6 r.2.Index]]=v):=by
 unfold Kj at hm;refine An (fn:=Tryz.f138) Tryz.func138 Z Tryz.ntmps138 (lb Z) ?_;intro a F;replace F:Fr 39 a [(0,vlist1)]:=F
 haveI:∀ (list:Ab),LH (fun s=>Kj.l1 list s.1 s.2) [14,13,3] (fun g2 s e c=>e=[(15,.i6 s.1),(4,.i6 s.2)]∧c=[]∧True):=fun _=>{}
 exact goC F S
instance:Con Tryz.prog 138 0 (type_of% @Aah):=⟨@Aah,tc138⟩
theorem Wl {g:Gh} {fr:Hl} {w:World} {r:Int} (l_:Ab) (vl_1:Value) (hl_1:RepSl g l_ vl_1) (S:St g [] fr w) (hm:Lo l_=some r) :
  Calls Tryz.prog 137 [vl_1].toArray w (fun en w'=>∃ v,en=.returned v∧∃ (g':Gh),Le g g'∧St g' [] fr w'∧.i6 r=v):=by
 unfold Lo at hm;refine An (fn:=Tryz.f137) Tryz.func137 Z Tryz.ntmps137 (lb Z) ?_;intro a F;replace F:Fr 11 a [(0,vl_1)]:=F;exact goC F S
instance:Con Tryz.prog 137 0 (type_of% @Wl):=⟨@Wl,tc137⟩
theorem forge_combine_ok {g:Gh} {fr:Hl} {w:World} {r:Int} (h_:Int) (list:(List Int)) (vlist1:Value) (hlist1:RepSl g list vlist1) (S:St g [] fr w) (hm:Ky h_ list=some r) :
  Calls Tryz.prog 139 [.i6 h_,vlist1].toArray w (fun en w'=>∃ v,en=.returned v∧∃ (g':Gh),Le g g'∧St g' [] fr w'∧.i6 r=v):=by
 unfold Ky at hm;refine An (fn:=Tryz.f139) Tryz.func139 Z Tryz.ntmps139 (lb Z) ?_;intro a F;replace F:Fr 21 a [(0,.i6 h_),(1,vlist1)]:=F
 haveI:∀ (list:(List Int)),LH (fun s=>Ky.l1 list s.1 s.2) [8,7] (fun g2 s e c=>e=[(9,.i6 s.1),(0,.i6 s.2)]∧c=[]∧True):=fun _=>{}
 exact goC F S
instance:Con Tryz.prog 139 0 (type_of% @forge_combine_ok):=⟨@forge_combine_ok,tc139⟩
end Go.Dc
