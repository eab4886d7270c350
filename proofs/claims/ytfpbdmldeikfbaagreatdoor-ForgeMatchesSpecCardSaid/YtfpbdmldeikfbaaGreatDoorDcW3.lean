import Derived.Test.YtfpbdmldeikfbaaGreatDoorDcTab
import Derived.Test.YtfpbdmldeikfbaaGreatDoorDcAU
import Derived.Test.YtfpbdmldeikfbaaGreatDoorDcM
import Derived.Test.YtfpbdmldeikfbaaGreatDoorDcW1
set_option linter.unusedSimpArgs false
set_option linter.unusedVariables false
namespace Go.Dc
open Go Go.Proofs
set_option maxRecDepth 100000
set_option maxHeartbeats 8000000
set_option linter.unusedVariables false
theorem Zy {g:Gh} {fr:Hl} {w:World} {r:Int} (c_:TreeChange) (vc_1:Value) (hc_1:RepSl g c_.Lines vc_1) (vc_2:Value) (hc_2:RepSl g c_.Patch.Hunks vc_2) (S:St g [] fr w) (hm:Th c_=some r) :
  Calls Tryz.prog 47 [.agg #[.i6 c_.Kind,.string c_.Path,.string c_.To,vc_1,vc_2]].toArray w (fun en w'=>∃ v,en=.returned v∧∃ (g':Gh),Le g g'∧St g' [] fr w'∧.i6 r=v):=by
 unfold Th at hm;refine An (fn:=Tryz.f47) Tryz.func47 Z Tryz.ntmps47 (lb Z) ?_;intro a F;replace F:Fr 84 a [(0,.agg #[.i6 c_.Kind,.string c_.Path,.string c_.To,vc_1,vc_2])]:=F;exact goC F S
instance:Con Tryz.prog 47 0 (type_of% (fun {g} {fr} {w} {r} c1 c2 c3 c4 c5 vc_1 hc_1 vc_2 hc_2=>@Zy g fr w r ⟨c1,c2,c3,c4,⟨c5⟩⟩ vc_1 hc_1 vc_2 hc_2)):=⟨(fun {g} {fr} {w} {r} c1 c2 c3 c4 c5 vc_1 hc_1 vc_2 hc_2=>@Zy g fr w r ⟨c1,c2,c3,c4,⟨c5⟩⟩ vc_1 hc_1 vc_2 hc_2),tc47⟩
theorem Uf {g:Gh} {fr:Hl} {w:World} {r:Fault} (p_:TreePatch) (vp_1:Value) (hp_1:RepSl g p_.Changes vp_1) (S:St g [] fr w) (hm:En p_=some r) :
  Calls Tryz.prog 30 [.agg #[vp_1]].toArray w (fun en w'=>∃ v,en=.returned v∧∃ (g':Gh),Le g g'∧St g' [] fr w'∧.agg #[.i6 r.Code,.i6 r.Index]=v):=by
 unfold En at hm;refine An (fn:=Tryz.f30) Tryz.func30 Z Tryz.ntmps30 (lb Z) ?_;intro a F;replace F:Fr 28 a [(0,.agg #[vp_1])]:=F
 haveI:∀ (p_:TreePatch),LH (fun s=>En.l1 p_ s) [13,12,2] (fun g2 s e c=>e=[(14,.i6 s)]∧c=[]∧True):=fun _=>{}
 exact goC F S
instance:Con Tryz.prog 30 0 (type_of% @Uf):=⟨@Uf,tc30⟩
theorem Y2 {g:Gh} {fr:Hl} {w:World} {r:Int} (e_:ForgeEvent) (ve_1:Value) (he_1:RepSl g e_.Patch.Changes ve_1) (developers:Int) (S:St g [] fr w) (hm:Eu e_ developers=some r) :
  Calls Tryz.prog 20 [.agg #[.i6 e_.Kind,.i6 e_.User,.i6 e_.Key,.i6 e_.N,ve_1],.i6 developers].toArray w (fun en w'=>∃ v,en=.returned v∧∃ (g':Gh),Le g g'∧St g' [] fr w'∧.i6 r=v):=by
 unfold Eu at hm;refine An (fn:=Tryz.f20) Tryz.func20 Z Tryz.ntmps20 (lb Z) ?_;intro a F;replace F:Fr 52 a [(0,.agg #[.i6 e_.Kind,.i6 e_.User,.i6 e_.Key,.i6 e_.N,ve_1]),(1,.i6 developers)]:=F;exact goC F S
instance:Con Tryz.prog 20 0 (type_of% (fun {g} {fr} {w} {r} e1 e2 e3 e4 e5 ve_1 he_1 developers=>@Y2 g fr w r ⟨e1,e2,e3,e4,⟨e5⟩⟩ ve_1 he_1 developers)):=⟨(fun {g} {fr} {w} {r} e1 e2 e3 e4 e5 ve_1 he_1 developers=>@Y2 g fr w r ⟨e1,e2,e3,e4,⟨e5⟩⟩ ve_1 he_1 developers),tc20⟩
theorem Aaz {g:Gh} {fr:Hl} {w:World} {r:Fault} (keys:(List Int)) (vkeys1:Value) (hkeys1:RepSl g keys vkeys1) (events:Cx) (vevents1:Value) (hevents1:RepSl g events vevents1) (S:St g [] fr w) (hm:E9 keys events=some r) :
  Calls Tryz.prog 7 [vkeys1,vevents1].toArray w (fun en w'=>∃ v,en=.returned v∧∃ (g':Gh),Le g g'∧St g' [] fr w'∧.agg #[.i6 r.Code,.i6 r.Index]=v):=by
 unfold E9 at hm;refine An (fn:=Tryz.f7) Tryz.func7 Z Tryz.ntmps7 (lb Z) ?_;intro a F;replace F:Fr 55 a [(0,vkeys1),(1,vevents1)]:=F
 haveI:∀ (keys:(List Int)) (events:Cx),LH (fun s=>E9.l1 keys events s) [38,37,4,0] (fun g3 s e c=>e=[(39,.i6 s)]∧c=[]∧True):=fun _ _=>{}
 haveI:∀ (keys:(List Int)),LH (fun s=>E9.l2 keys s) [20,19,4,0,1] (fun g5 s e c=>e=[(21,.i6 s)]∧c=[]∧True):=fun _=>{}
 exact goC F S
theorem Ws {g:Gh} {fr:Hl} {w:World} {r:FileTree} (bs_:Nat) (s_:State_forge) (vs_1:Value) (hs_1:RepSl g s_.keys vs_1) (vs_2:Value) (cs_1:Hl) (hs_2:OwnS g s_.versions vs_2 cs_1) (vs_3:Value) (cs_2:Hl) (hs_3:OwnS g s_.developers vs_3 cs_2) (vs_4:Value) (cs_3:Hl) (hs_4:OwnS g s_.flight vs_4 cs_3) (vs_5:Value) (cs_4:Hl) (hs_5:OwnS g s_.log vs_5 cs_4) (S:St g [[bx bs_ #[vs_1,vs_2,vs_3,vs_4,vs_5] 55],cs_1,cs_2,cs_3,cs_4] fr w) (hm:Lf s_=some r) :
  Calls Tryz.prog 16 [bp bs_ 0].toArray w (fun en w'=>∃ v,en=.returned v∧∃ (g':Gh) (v1:Value),Le g g'∧St g' [[bx bs_ #[vs_1,vs_2,vs_3,vs_4,vs_5] 55],cs_1,cs_2,cs_3,cs_4] fr w'∧RepSl g' r.Files v1∧.agg #[v1]=v):=by
 unfold Lf at hm;refine An (fn:=Tryz.f16) Tryz.func16 Z Tryz.ntmps16 (lb Z) ?_;intro a F;replace F:Fr 15 a [(0,bp bs_ 0)]:=F;exact goC F S
instance:Con Tryz.prog 16 0 (type_of% @Ws):=⟨@Ws,tc16⟩
theorem Yk {g:Gh} {fr:Hl} {w:World} {r:Bool} (s1_:Ab) (vs1_1:Value) (hs1_1:RepSl g s1_ vs1_1) (s2_:Ab) (vs2_1:Value) (hs2_1:RepSl g s2_ vs2_1) (S:St g [] fr w) (hm:H1 s1_ s2_=some r) :
  Calls Tryz.prog 61 [vs1_1,vs2_1].toArray w (fun en w'=>∃ v,en=.returned v∧∃ (g':Gh),Le g g'∧St g' [] fr w'∧.bool r=v):=by
 unfold H1 at hm;refine An (fn:=Tryz.f61) Tryz.func61 Z Tryz.ntmps61 (lb Z) ?_;intro a F;replace F:Fr 26 a [(0,vs1_1),(1,vs2_1)]:=F
 haveI:∀ (s1_:Ab) (s2_:Ab),LH (fun s=>H1.l1 s1_ s2_ s) [12,0,1] (fun g2 s e c=>e=[(13,.i6 s)]∧c=[]∧True):=fun _ _=>{}
 exact goC F S
instance:Con Tryz.prog 61 0 (type_of% @Yk):=⟨@Yk,tc61⟩
theorem Yf {g:Gh} {fr:Hl} {w:World} {r:Bool} (x_:File) (vx_1:Value) (hx_1:RepSl g x_.Lines vx_1) (y:File) (vy1:Value) (hy1:RepSl g y.Lines vy1) (S:St g [] fr w) (hm:Oq x_ y=some r) :
  Calls Tryz.prog 60 [.agg #[.string x_.Path,vx_1],.agg #[.string y.Path,vy1]].toArray w (fun en w'=>∃ v,en=.returned v∧∃ (g':Gh),Le g g'∧St g' [] fr w'∧.bool r=v):=by
 unfold Oq at hm;refine An (fn:=Tryz.f60) Tryz.func60 Z Tryz.ntmps60 (lb Z) ?_;intro a F;replace F:Fr 17 a [(0,.agg #[.string x_.Path,vx_1]),(1,.agg #[.string y.Path,vy1])]:=F;exact goC F S
instance:Con Tryz.prog 60 0 (type_of% (fun {g} {fr} {w} {r} x1 x2 vx_1 hx_1 y1 y2 vy1 hy1=>@Yf g fr w r ⟨x1,x2⟩ vx_1 hx_1 ⟨y1,y2⟩ vy1 hy1)):=⟨(fun {g} {fr} {w} {r} x1 x2 vx_1 hx_1 y1 y2 vy1 hy1=>@Yf g fr w r ⟨x1,x2⟩ vx_1 hx_1 ⟨y1,y2⟩ vy1 hy1),tc60⟩
theorem Aa0 {g:Gh} {fr:Hl} {w:World} {r:Bool} (a_:FileTree) (va_1:Value) (ha_1:RepSl g a_.Files va_1) (b_:FileTree) (vb_1:Value) (hb_1:RepSl g b_.Files vb_1) (S:St g [] fr w) (hm:Hq a_ b_=some r) :
  Calls Tryz.prog 37 [.agg #[va_1],.agg #[vb_1]].toArray w (fun en w'=>∃ v,en=.returned v∧∃ (g':Gh),Le g g'∧St g' [] fr w'∧.bool r=v):=by
 unfold Hq at hm;refine An (fn:=Tryz.f37) Tryz.func37 Z Tryz.ntmps37 (lb Z) ?_;intro a F;replace F:Fr 10 a [(0,.agg #[va_1]),(1,.agg #[vb_1])]:=F
 haveI:∀ (a_:FileTree) (b_:FileTree),LH (fun s=>Hq.l1 a_ b_ s) [16,15,1,2] (fun g3 s e c=>e=[(17,.i6 s)]∧c=[]∧True):=fun _ _=>{}
 exact goC F S
instance:Con Tryz.prog 37 0 (type_of% @Aa0):=⟨@Aa0,tc37⟩
theorem Yj {g:Gh} {fr:Hl} {w:World} {r:Ab} (s_:Ab) (vs_1:Value) (hs_1:RepSl g s_ vs_1) (S:St g [] fr w) (m:Nw s_=some r) :
  Calls Tryz.prog 28 [vs_1].toArray w (fun en w'=>∃ v,en=.returned v∧∃ (g':Gh) (v1:Value) (c1:Hl),Le g g'∧St g' [c1] fr w'∧OwnS g' r v1 c1∧v1=v):=by
 unfold Nw at m;refine An (fn:=Tryz.f28) Tryz.func28 Z Tryz.ntmps28 (lb Z) ?_;intro a F;refine sr (wa1 Z F Z Z fun a F=>nn (Cy (sr (wm Z F Z Z fun a F=>?_))));obtain ⟨nb1,hnb1,he1⟩:=ev_nileqlS (P:=Tryz.prog) (n:=8) (e:=[(3,vs_1),(2,Ds),(0,vs_1)]) (C:=fun w=>St g [] fr w) (x:=.tmp 3) (y:=.const (Ds)) hs_1 Kz Z Z;refine wE he1 F S Z fun a F=>Av (Aw ?_);obtain ⟨d1,m⟩ | ⟨d1,m⟩:=nil_or hnb1 m
 ·obtain rfl:=D7 m;refine Cl F Z d1 (sr (wa1 Z F Z Z fun a F=>nn (G8 (Ht ?_))));replace S:St g [[]] fr w:=S;exact po F Z (rT Z) ⟨_,Z,g,(Ds),[],(Le.refl _),S,(OwnS.nil _),Z⟩
 ·refine Ck F Z d1 (Dm (Aw (Cy (B1 ?_))));refine Og (l:=([]:Ab)) (vs:=[]) (parts:=[]) (wn Z) Z Z Z Kz te9 Oj Z (Cat.nil _) Nd Z F S Z Z ?_;rintro v1 c1 a w h1 F S;refine wm Z F Z Z fun a F=>?_;obtain ⟨cs1,hk1,o1⟩:=RepSl.reads hs_1;obtain ⟨y1,k1,m⟩:=Ah m;refine Lk (wn rfl) rfl Kz Kz te9 (by decide) (by decide) F S rfl rfl (k:=0) rfl h1 hk1 rfl (o1 _ _ S) k1 rfl rfl ?_;rintro v2 c2 a w h2 S F;replace S:=S.n1;obtain rfl:=D7 m;exact wa1 Z F Z Z fun a F=>nn (G8 (po F Z (rT Z) ⟨_,Z,g,v2,c2,(Le.refl _),S,h2,Z⟩))
instance:Con Tryz.prog 28 0 (type_of% @Yj):=⟨@Yj,tc28⟩
theorem Xm {g:Gh} {fr:Hl} {w:World} {r:FileTree} (t_:FileTree) (vt_1:Value) (ht_1:RepSl g t_.Files vt_1) (S:St g [] fr w) (hm:Ez t_=some r) :
  Calls Tryz.prog 15 [.agg #[vt_1]].toArray w (fun en w'=>∃ v,en=.returned v∧∃ (g':Gh) (v1:Value) (c1:Hl),Le g g'∧St g' [c1] fr w'∧OwnS g' r.Files v1 c1∧.agg #[v1]=v):=by
 unfold Ez at hm;refine An (fn:=Tryz.f15) Tryz.func15 Z Tryz.ntmps15 (lb Z) ?_;intro a F;replace F:Fr 26 a [(0,.agg #[vt_1])]:=F
 haveI:∀ (t_:FileTree),LH (fun s=>Ez.l1 t_ s.1 s.2) [8,7,2] (fun g2 s e c=>∃ v2 c2 b3,e=[(9,.i6 s.1),(3,bp b3 0)]∧c=[[bx b3 #[v2] 26],c2]∧OwnS g2 s.2 v2 c2):=fun _=>{}
 exact goC F S
instance:Con Tryz.prog 15 0 (type_of% @Xm):=⟨@Xm,tc15⟩
theorem Z8 {g:Gh} {fr:Hl} {w:World} {r:Bool} (files:Ai) (vfiles1:Value) (hfiles1:RepSl g files vfiles1) (path:ByteArray) (except:Int) (S:St g [] fr w) (hm:Gr files path except=some r) :
  Calls Tryz.prog 91 [vfiles1,.string path,.i6 except].toArray w (fun en w'=>∃ v,en=.returned v∧∃ (g':Gh),Le g g'∧St g' [] fr w'∧.bool r=v):=by
 unfold Gr at hm;refine An (fn:=Tryz.f91) Tryz.func91 Z Tryz.ntmps91 (lb Z) ?_;intro a F;replace F:Fr 26 a [(0,vfiles1),(1,.string path),(2,.i6 except)]:=F
 haveI:∀ (files:Ai) (path:ByteArray) (except:Int),LH (fun s=>Gr.l1 files path except s) [10,9,1,2] (fun g2 s e c=>e=[(11,.i6 s)]∧c=[]∧True):=fun _ _ _=>{}
 exact goC F S
instance:Con Tryz.prog 91 0 (type_of% @Z8):=⟨@Z8,tc91⟩
end Go.Dc
