import Derived.Test.YtfpbdmldeikfbaaGreatDoorDcTab
import Derived.Test.YtfpbdmldeikfbaaGreatDoorDcAU
import Derived.Test.YtfpbdmldeikfbaaGreatDoorDcM
import Derived.Test.YtfpbdmldeikfbaaGreatDoorDcW14
import Derived.Test.YtfpbdmldeikfbaaGreatDoorDcW15
import Derived.Test.YtfpbdmldeikfbaaGreatDoorDcW17
import Derived.Test.YtfpbdmldeikfbaaGreatDoorDcW19
set_option linter.unusedSimpArgs false
set_option linter.unusedVariables false
namespace Go.Dc
open Go Go.Proofs
set_option maxRecDepth 100000
set_option maxHeartbeats 8000000
set_option linter.unusedVariables false
theorem Tj {g:Gh} {fr:Hl} {w:World} {r:FileTree×Fault} (p_:TreePatch) (vp_1:Value) (hp_1:RepSl g p_.Changes vp_1) (t_:FileTree) (vt_1:Value) (ht_1:RepSl g t_.Files vt_1) (S:St g [] fr w) (hm:Df p_ t_=some r) :
  Calls Tryz.prog 32 [.agg #[vp_1],.agg #[vt_1]].toArray w (fun en w'=>∃ v,en=.returned v∧∃ (g':Gh) (v1:Value),Le g g'∧St g' [] fr w'∧RepSl g' r.1.Files v1∧.tuple #[.agg #[v1],.agg #[.i6 r.2.Code,.i6 r.2.Index]]=v):=by
 unfold Df at hm;refine An (fn:=Tryz.f32) Tryz.func32 Z Tryz.ntmps32 (lb Z) ?_;intro a F;replace F:Fr 51 a [(0,.agg #[vp_1]),(1,.agg #[vt_1])]:=F
 haveI:∀ (p_:TreePatch),LH (fun s=>Df.l1 p_ s.1 s.2) [5,4,2] (fun g5 s e c=>∃ v2 b2,e=[(9,.i6 s.1),(3,bp b2 0)]∧c=[[bx b2 #[v2] 26]]∧RepSl g5 s.2 v2):=fun _=>{}
 exact goC F S
instance:Con Tryz.prog 32 0 (type_of% @Tj):=⟨@Tj,tc32⟩
theorem U9 {g:Gh} {fr:Hl} {w:World} {r:Bool} (a_:FileTree) (va_1:Value) (ha_1:RepSl g a_.Files va_1) (b_:FileTree) (vb_1:Value) (hb_1:RepSl g b_.Files vb_1) (path:ByteArray) (S:St g [] fr w) (hm:K8 a_ b_ path=some r) :
  Calls Tryz.prog 79 [.agg #[va_1],.agg #[vb_1],.string path].toArray w (fun en w'=>∃ v,en=.returned v∧∃ (g':Gh),Le g g'∧St g' [] fr w'∧.bool r=v):=by
 unfold K8 at hm;refine An (fn:=Tryz.f79) Tryz.func79 Z Tryz.ntmps79 (lb Z) ?_;intro a F;replace F:Fr 40 a [(0,.agg #[va_1]),(1,.agg #[vb_1]),(2,.string path)]:=F;exact goC F S
instance:Con Tryz.prog 79 0 (type_of% @U9):=⟨@U9,tc79⟩
theorem Tw {g:Gh} {fr:Hl} {w:World} {r:Fault} (a_:Ab) (va_1:Value) (ha_1:RepSl g a_ va_1) (b_:Ab) (vb_1:Value) (hb_1:RepSl g b_ vb_1) (S:St g [] fr w) (hm:Hm a_ b_=some r) :
  Calls Tryz.prog 152 [va_1,vb_1].toArray w (fun en w'=>∃ v,en=.returned v∧∃ (g':Gh),Le g g'∧St g' [] fr w'∧.agg #[.i6 r.Code,.i6 r.Index]=v):=by
 unfold Hm at hm;refine An (fn:=Tryz.f152) Tryz.func152 Z Tryz.ntmps152 (lb Z) ?_;intro a F;replace F:Fr 20 a [(0,va_1),(1,vb_1)]:=F;exact goC F S
instance:Con Tryz.prog 152 0 (type_of% @Tw):=⟨@Tw,tc152⟩
theorem Vc {g:Gh} {fr:Hl} {w:World} {r:(List Int)} (base:Ab) (vbase1:Value) (hbase1:RepSl g base vbase1) (p_:Patch) (vp_1:Value) (hp_1:RepSl g p_.Hunks vp_1) (q_:Patch) (vq_1:Value) (hq_1:RepSl g q_.Hunks vq_1) (S:St g [] fr w) (hm:A5 base p_ q_=some r) :
  Calls Tryz.prog 153 [vbase1,.agg #[vp_1],.agg #[vq_1]].toArray w (fun en w'=>∃ v,en=.returned v∧∃ (g':Gh) (v1:Value) (c1:Hl),Le g g'∧St g' [c1] fr w'∧OwnS g' r v1 c1∧v1=v):=by
 unfold A5 at hm;refine An (fn:=Tryz.f153) Tryz.func153 Z Tryz.ntmps153 (lb Z) ?_;intro a F;replace F:Fr 51 a [(0,vbase1),(1,.agg #[vp_1]),(2,.agg #[vq_1])]:=F
 haveI:∀ (p_:Patch) (q_:Patch),LH (fun s=>A5.l1 p_ q_ s.1 s.2) [5,4] (fun g2 s e c=>∃ v3 c3,e=[(8,.i6 s.1),(7,v3)]∧c=[c3]∧OwnS g2 s.2 v3 c3):=fun _ _=>{}
 haveI:∀ (x6:A7),LH (fun s=>A5.l2 x6 s.1 s.2) [9,8,5,4] (fun g6 s e c=>∃ v7 c6,e=[(10,.i6 s.1),(7,v7)]∧c=[c6]∧OwnS g6 s.2 v7 c6):=fun _=>{}
 haveI:∀ (x6:A7) (x8:Int),LH (fun s=>A5.l3 x6 x8 s.1 s.2) [10,9,8,5,4] (fun g9 s e c=>∃ v12 c9,e=[(11,.i6 s.1),(7,v12)]∧c=[c9]∧OwnS g9 s.2 v12 c9):=fun _ _=>{}
 exact goC F S
instance:Con Tryz.prog 153 0 (type_of% @Vc):=⟨@Vc,tc153⟩
theorem U8 {g:Gh} {fr:Hl} {w:World} {r:Bool} (p_:Patch) (vp_1:Value) (hp_1:RepSl g p_.Hunks vp_1) (q_:Patch) (vq_1:Value) (hq_1:RepSl g q_.Hunks vq_1) (k_:Int) (S:St g [] fr w) (m:Cp p_ q_ k_=some r) :
  Calls Tryz.prog 154 [.agg #[vp_1],.agg #[vq_1],.i6 k_].toArray w (fun en w'=>∃ v,en=.returned v∧∃ (g':Gh),Le g g'∧St g' [] fr w'∧.bool r=v):=by
 unfold Cp at m;refine An (fn:=Tryz.f154) Tryz.func154 Z Tryz.ntmps154 (lb Z) ?_;intro a F;refine sr (wb Z Z Z F S Z fun b1 a w F S=>wb Z Z Z F S Z fun b2 a w F S=>wa1 Z F Z Z fun a F=>nn (Mf (fun a w=>∃ (g1:Gh),Fr 59 a [(4,bp b2 0),(2,.i6 k_)]∧Le g g1∧St g1 [[bx b2 #[vq_1] 71]] fr w∧Cp.j1 q_ k_=some r) ?_ ?_))
 ·obtain ⟨r2,o4,m⟩:=Ah m;refine sr (wa1 Z F Z Z fun a F=>nn (El ?_));have j2:=m;refine wj o4 (fun x4 a w=>∃ (g6:Gh),Fr 59 a [(7,.i6 x4),(4,bp b2 0),(3,bp b1 0),(2,.i6 k_)]∧Le g g6∧St g6 [[bx b2 #[vq_1] 71],[bx b1 #[vp_1] 71]] fr w) ?_ ?_
  ·exact ⟨g,F.s,(Le.refl _),S⟩
  ·rintro x4 a w x5 ⟨g6,F,l6,S⟩ t3 f2;have m:Cp.l2 p_ k_ x4=some x5:=t3;clear t3;unfold Cp.l2 at m;refine Cy (sr (wm Z F Z Z<|Y (eF Wq Vl Xb) S Z<|Y (e1 M6 vp_1 1 0) S Z<|Y (Lw hp_1 Z M6) S Z<|Y (B3 Z Z (M4 _ _ _ _)) S Z fun a F=>Av (Aw ?_)));obtain ⟨d4,m⟩ | ⟨d4,m⟩:=Dd m
   ·obtain ⟨y4,k4,m⟩:=Ah m;refine Cl F Z d4 (Dm (Aw (Cy (El (sr (wE (eF Wq Vl Xb) F S Z<|Y (e1 M6 vp_1 1 0) S Z<|mv Z Z Z fun a F=>?_))))));obtain ⟨cs3,o5,p4⟩:=Ul (hp_1.mono l6) k4;obtain ⟨v5,v6,rfl,h5,h6⟩:=Zt o5;refine wE (Nm (hp_1.mono l6) k4 M6 Y6 Z Z) F S Z fun a F=>?_;have p5:=PtrC.field p4 0 1 (lb Z);have p5:PtrC g6 (N8 (Eq vp_1 x4 3) 0) [.i6 y4.At]:=p5;obtain ⟨x6,t4,m⟩:=Ah m;refine wE (E6 Uh tf133_0 (z:=0) ts3 Z p4.ptr Z) F S Z<|Y (Gs tu3 Z Z (Mr p5 (Le.refl _))) S Z<|mv Z Z Z<|Y (B3 Z Z (bo_leq _ _ _ _)) S Z<|mv Z Z Z fun a F=>Wb 9 (fun a w=>∃ g7,Fr 59 a [(33,.bool x6),(7,.i6 x4),(4,bp b2 0),(3,bp b1 0),(2,.i6 k_)]∧Le g6 g7∧St g7 [[bx b2 #[vq_1] 71],[bx b1 #[vp_1] 71]] fr w) ?_ ?_
    ·clear m;obtain ⟨d5,m⟩ | ⟨d5,m⟩:=Dd t4
     ·obtain ⟨y5,k5,m⟩:=Ah m;refine gE d5 (Bj Z) F S Z<|Ge d5 (eF Wq Vl Xb) S Z<|Ge d5 (e1 M6 vp_1 1 0) S Z<|Ge d5 (Bj Z) S Z fun a F=>?_;obtain ⟨cs4,o6,p6⟩:=Ul (hp_1.mono l6) k5;obtain ⟨v7,v8,rfl,h7,h8⟩:=Zt o6;obtain ⟨y6,k6,m⟩:=Ah m;refine gE d5 (Nm (hp_1.mono l6) k5 M6 Y6 Z Z) F S Z<|Ge d5 (Lg Uh Z (cs:=[.i6 y5.At,v7,v8]) Y6 Z (Mr p6 (Le.refl _))) S Z fun a F=>?_;refine Ug (wg F Z Z Z Z d5) Z F Z (Ms y5 v7 h7 v8 h8 S.z k6) Z tc73 Z Z ?_;rintro _ a w ⟨g8,l8,S,rfl⟩ F;replace S:=S.y;cases D7 m;refine gE d5 (B3 Z Z (M4 _ _ _ _)) F S Z<|Y (Kn Z d5 Z) S Z fun a F=>?_;exact Av (Aw ⟨g8,F.s,l8,S⟩)
     ·cases D7 m;refine wk (D6 d5) F Z<|Wk (D6 d5) Z<|Wk (D6 d5) Z<|Wk (D6 d5) Z<|Wk (D6 d5) Z<|Wk (D6 d5) Z<|Wk (D6 d5) Z<|Wk (D6 d5) Z<|Y (Hy Z d5 Z) S Z fun a F=>?_;exact Av (Aw ⟨g6,F.s,(Le.refl _),S⟩)
    clear F S;rintro a w ⟨g7,F,l7,S⟩;refine Av (Aw ?_);obtain ⟨d6,m⟩ | ⟨d6,m⟩:=Dd m
    ·cases D7 m;refine Cl F Z d6 (sr (wa1 Z F Z Z fun a F=>nn (G8 (Nu (Ht (Ht (Nu (Ht ?_))))))));obtain rfl:=f2 _ Z;have m:(some true:Option Bool)=some _:=j2;cases D7 m;exact po F Z (rT Z) ⟨_,Z,g7,(l6.trans l7),S.t,Z⟩
    ·obtain ⟨z2,u2,m⟩:=Ah m;cases D7 m;refine Ck F Z d6 (Dm (L7 (Aw (B1 (wm Z F Z Z<|Y (B3 Z Z (He u2)) S Z<|ma Z Z Z fun a F=>Av (Aw ?_))))));refine ⟨_,Z,?_⟩;exact ⟨g7,F.s,(l6.trans l7),S⟩
   ·cases D7 m;refine Ck F Z d4 (Mp (Kg (Kg (Tu (Aw ?_)))));obtain rfl:=f2 _ Z;exact ⟨g6,F.s,l6,S.pm [0],j2⟩
 ·rintro a w ⟨g1,F,l1,S,m⟩;refine Mf (fun a w=>∃ (g2:Gh),Fr 59 a []∧Le g1 g2∧St g2 [] fr w∧Cp.j2=some r) ?_ ?_
  ·obtain ⟨r1,o1,m⟩:=Ah m;refine sr (wa1 Z F Z Z fun a F=>nn (El ?_));have j1:=m;refine wj o1 (fun x1 a w=>∃ (g3:Gh),Fr 59 a [(8,.i6 x1),(4,bp b2 0),(2,.i6 k_)]∧Le g1 g3∧St g3 [[bx b2 #[vq_1] 71]] fr w) ?_ ?_
   ·exact ⟨g1,F.s,(Le.refl _),S⟩
   ·rintro x1 a w x2 ⟨g3,F,l3,S⟩ t1 f1;have m:Cp.l1 q_ k_ x1=some x2:=t1;clear t1;unfold Cp.l1 at m;refine Cy (sr (wm Z F Z Z<|Y (eF Wq Vl Xb) S Z<|Y (e1 M6 vq_1 0 0) S Z<|Y (Lw hq_1 Z M6) S Z<|Y (B3 Z Z (M4 _ _ _ _)) S Z fun a F=>Av (Aw ?_)));obtain ⟨d1,m⟩ | ⟨d1,m⟩:=Dd m
    ·obtain ⟨y1,k1,m⟩:=Ah m;refine Cl F Z d1 (Dm (Aw (Cy (El (sr (wE (eF Wq Vl Xb) F S Z<|Y (e1 M6 vq_1 0 0) S Z<|mv Z Z Z fun a F=>?_))))));obtain ⟨cs1,o2,p1⟩:=Ul (hq_1.mono (l1.trans l3)) k1;obtain ⟨v1,v2,rfl,h1,h2⟩:=Zt o2;refine wE (Nm (hq_1.mono (l1.trans l3)) k1 M6 Y6 Z Z) F S Z fun a F=>?_;have p2:=PtrC.field p1 0 1 (lb Z);have p2:PtrC g3 (N8 (Eq vq_1 x1 3) 0) [.i6 y1.At]:=p2;obtain ⟨x3,t2,m⟩:=Ah m;refine wE (E6 Uh tf133_0 (z:=0) ts3 Z p1.ptr Z) F S Z<|Y (Gs tu3 Z Z (Mr p2 (Le.refl _))) S Z<|mv Z Z Z<|Y (B3 Z Z (bo_leq _ _ _ _)) S Z<|mv Z Z Z fun a F=>Wb 9 (fun a w=>∃ g4,Fr 59 a [(58,.bool x3),(8,.i6 x1),(4,bp b2 0),(2,.i6 k_)]∧Le g3 g4∧St g4 [[bx b2 #[vq_1] 71]] fr w) ?_ ?_
     ·clear m;obtain ⟨d2,m⟩ | ⟨d2,m⟩:=Dd t2
      ·obtain ⟨y2,k2,m⟩:=Ah m;refine gE d2 (Bj Z) F S Z<|Ge d2 (eF Wq Vl Xb) S Z<|Ge d2 (e1 M6 vq_1 0 0) S Z<|Ge d2 (Bj Z) S Z fun a F=>?_;obtain ⟨cs2,o3,p3⟩:=Ul (hq_1.mono (l1.trans l3)) k2;obtain ⟨v3,v4,rfl,h3,h4⟩:=Zt o3;obtain ⟨y3,k3,m⟩:=Ah m;refine gE d2 (Nm (hq_1.mono (l1.trans l3)) k2 M6 Y6 Z Z) F S Z<|Ge d2 (Lg Uh Z (cs:=[.i6 y2.At,v3,v4]) Y6 Z (Mr p3 (Le.refl _))) S Z fun a F=>?_;refine Ug (wg F Z Z Z Z d2) Z F Z (Ms y2 v3 h3 v4 h4 S.z k3) Z tc73 Z Z ?_;rintro _ a w ⟨g5,l5,S,rfl⟩ F;replace S:=S.y;cases D7 m;refine gE d2 (B3 Z Z (M4 _ _ _ _)) F S Z<|Y (Kn Z d2 Z) S Z fun a F=>?_;exact Av (Aw ⟨g5,F.s,l5,S⟩)
      ·cases D7 m;refine wk (D6 d2) F Z<|Wk (D6 d2) Z<|Wk (D6 d2) Z<|Wk (D6 d2) Z<|Wk (D6 d2) Z<|Wk (D6 d2) Z<|Wk (D6 d2) Z<|Wk (D6 d2) Z<|Y (Hy Z d2 Z) S Z fun a F=>?_;exact Av (Aw ⟨g3,F.s,(Le.refl _),S⟩)
     clear F S;rintro a w ⟨g4,F,l4,S⟩;refine Av (Aw ?_);obtain ⟨d3,m⟩ | ⟨d3,m⟩:=Dd m
     ·cases D7 m;refine Cl F Z d3 (sr (wa1 Z F Z Z fun a F=>nn (G8 (Nu (Ht (Ht (Nu (Ht ?_))))))));obtain rfl:=f1 _ Z;have m:(some true:Option Bool)=some _:=j1;cases D7 m;exact po F Z (rT Z) ⟨_,Z,g4,((l1.trans l3).trans l4),S.t,Z⟩
     ·obtain ⟨z1,u1,m⟩:=Ah m;cases D7 m;refine Ck F Z d3 (Dm (L7 (Aw (B1 (wm Z F Z Z<|Y (B3 Z Z (He u1)) S Z<|ma Z Z Z fun a F=>Av (Aw ?_))))));refine ⟨_,Z,?_⟩;exact ⟨g4,F.s,(l3.trans l4),S⟩
    ·cases D7 m;refine Ck F Z d1 (Mp (Kg (Kg (Tu (Aw ?_)))));obtain rfl:=f1 _ Z;exact ⟨g3,F.sub trivial,l3,S.t,j1⟩
  ·rintro a w ⟨g2,F,l2,S,m⟩;cases D7 m;exact sr (wa1 Z F Z Z fun a F=>nn (G8 (po F Z (rT Z) ⟨_,Z,g2,(l1.trans l2),S,Z⟩)))
instance:Con Tryz.prog 154 0 (type_of% @U8):=⟨@U8,tc154⟩
theorem T9 {g:Gh} {fr:Hl} {w:World} {r:Ab×Bool} (base:Ab) (vbase1:Value) (hbase1:RepSl g base vbase1) (p_:Patch) (vp_1:Value) (hp_1:RepSl g p_.Hunks vp_1) (low:Int) (high:Int) (S:St g [] fr w) (hm:A1 base p_ low high=some r) :
  Calls Tryz.prog 155 [vbase1,.agg #[vp_1],.i6 low,.i6 high].toArray w (fun en w'=>∃ v,en=.returned v∧∃ (g':Gh) (v1:Value) (c1:Hl),Le g g'∧St g' [c1] fr w'∧OwnS g' r.1 v1 c1∧.tuple #[v1,.bool r.2]=v):=by
 unfold A1 at hm;refine An (fn:=Tryz.f155) Tryz.func155 Z Tryz.ntmps155 (lb Z) ?_;intro a F;replace F:Fr 86 a [(0,vbase1),(1,.agg #[vp_1]),(2,.i6 low),(3,.i6 high)]:=F
 haveI:∀ (base:Ab) (p_:Patch) (high:Int),LH (fun s=>A1.l1 base p_ high s.1 s.2.1 s.2.2) [5,0,3] (fun g2 s e c=>∃ v2 c2,e=[(12,.i6 s.1),(11,.bool s.2.1),(10,v2)]∧c=[c2]∧OwnS g2 s.2.2 v2 c2):=fun _ _ _=>{}
 haveI:∀ (p_:Patch) (x3:Int),LH (fun s=>A1.l2 p_ x3 s.1 s.2) [12,11,10,5,0,3] (fun g6 s e c=>e=[(15,.i6 s.1),(14,.bool s.2)]∧c=[]∧True):=fun _ _=>{}
 haveI:∀ (p_:Patch) (x3:Int),LH (fun s=>A1.l3 p_ x3 s.1 s.2.1 s.2.2) [12,5,0,3] (fun g10 s e c=>∃ v11 c7,e=[(13,.i6 s.1),(11,.bool s.2.1),(10,v11)]∧c=[c7]∧OwnS g10 s.2.2 v11 c7):=fun _ _=>{}
 exact goC F S
instance:Con Tryz.prog 155 0 (type_of% @T9):=⟨@T9,tc155⟩
end Go.Dc
