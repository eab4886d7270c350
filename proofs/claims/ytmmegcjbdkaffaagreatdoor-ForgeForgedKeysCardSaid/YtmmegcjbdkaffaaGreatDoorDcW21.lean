import Derived.Test.YtmmegcjbdkaffaaGreatDoorDcTab
import Derived.Test.YtmmegcjbdkaffaaGreatDoorDcM
import Derived.Test.YtmmegcjbdkaffaaGreatDoorDcW14
import Derived.Test.YtmmegcjbdkaffaaGreatDoorDcW15
set_option linter.unusedSimpArgs false
namespace Go.Dc
open Go Go.Proofs
set_option maxRecDepth 100000
set_option maxHeartbeats 4000000
set_option linter.unusedVariables false
theorem N7 {g:Gh} {fr:Hl} {w:World} {r:Bool} (keys:(List Int)) (vkeys1:Value) (hkeys1:RepSl g keys vkeys1) (events:(List ForgeEvent)) (vevents1:Value) (hevents1:RepSl g events vevents1) (S:St g [] fr w) (m:Bu keys events=some r) :
  Calls Tryz.prog 7 [vkeys1,vevents1].toArray w (fun en w'=>∃ v,en=.returned v∧∃ (g':Gh),Le g g'∧St g' [] fr w'∧.bool r=v):=by
 unfold Bu at m;refine An (fn:=Tryz.f7) Tryz.func7 Z Tryz.ntmps7 (lb Z) ?_;intro a F;obtain ⟨y1,k1,m⟩:=Aa m;refine sr (wa1 Z F Z Z fun a F=>nq (wm Z F Z Z<|mv Z Z Z fun a F=>?_));refine wc F (Hq keys vkeys1 hkeys1 events vevents1 hevents1 S k1) tc9 ?_;rintro _ a w ⟨g1,v1,v2,v3,c1,c2,c3,l1,S,h1,h2,h3,rfl⟩ F;replace S:=S.n3;refine wm Z F Z Z<|Y (Ak Z Z) S Z<|Y (Ak Z Z) S Z<|Y (Ak Z Z) S Z<|Y (Ak Z Z) S Z fun a F=>wA Z Mf [A4] F S Z fun b1 a w F S=>wA Z D5 [.i6 0,.i6 0] F S Z fun b2 a w F S=>ws Z F S Z [v1] Cm (Ag (OwnS.one h1) A2) 1 Z #[v1] fun w S=>wa1 Z F Z Z<|ma Z Z Z fun a F=>ws Z F S Z [.i6 y1.2.2.2.Code,.i6 y1.2.2.2.Index] Bc (on Z) 0 Z #[.i6 y1.2.2.2.Code,.i6 y1.2.2.2.Index] fun w S=>nn (Af (sr (wE (eF B7 Ho ts3) F S Z<|Y (e1 tu3 (.i6 y1.2.2.2.Code) 0 0) S Z<|Y (Ah Z Z (Gw _ _ _ _)) S Z fun a F=>Ab (Ac ?_))));obtain ⟨d1,m⟩ | ⟨d1,m⟩:=Al m
 ·obtain ⟨y2,k2,m⟩:=Aa m;refine Aj F Z d1 (Af (Ad ?_));refine wc F (B4  S.z k2) tc10 ?_;rintro _ a w ⟨g2,l2,S,rfl⟩ F;replace S:=S.y;cases Am m;exact wa1 Z F Z Z fun a F=>nn (rr (po F Z (rT Z) ⟨_,Z,g2,(l1.trans l2),S.t,Z⟩))
 ·refine Ai F Z d1 (Ao (Ac (Cc (fun a w=>∃ (g3:Gh),Fr 63 a [(6,v2),(5,bp b1 0)]∧Le g1 g3∧St g3 [c2,[bx b1 #[v1] 26],c1] fr w∧Bu.j1 y1=some r) ?_ ?_)))
  ·obtain ⟨r1,o1,m⟩:=Aa m;refine sr (wa1 Z F Z Z fun a F=>nn (Au ?_));have j1:=m;refine wj o1 (fun x3 a w=>∃ (g6:Gh),Fr 63 a [(9,.i6 x3),(6,v2),(5,bp b1 0),(0,vkeys1),(1,vevents1)]∧Le g1 g6∧St g6 [c2,[bx b1 #[v1] 26],c1] fr w) ?_ ?_
   ·exact ⟨g1,F.s,(Le.refl _),S.pm [3,1,2]⟩
   ·rintro x3 a w x4 ⟨g6,F,l6,S⟩ t3 f1;have m:Bu.l1 keys events x3=some x4:=t3;clear t3;unfold Bu.l1 at m;refine Af (sr (wm Z F Z Z<|mv Z Z Z<|Y (A6 hevents1 Z Ls) S Z<|Y (Ah Z Z (Cs _ _ _ _)) S Z fun a F=>Ab (Ac ?_)));obtain ⟨d4,m⟩ | ⟨d4,m⟩:=Al m
    ·obtain ⟨y4,k4,m⟩:=Aa m;refine Aj F rfl d4 (Ao (Ac (Af (Au (Af (Eq mo (by kernel_rfl) S (qE (Ae rfl) F rfl<|Qe (Ae rfl) rfl fun a F=>?_)))))));obtain ⟨cs1,o2,p1⟩:=Dz (hevents1.mono (l1.trans l6)) k4;obtain ⟨v4,rfl,h4⟩:=Hm o2;refine qE (B5 (hevents1.mono (l1.trans l6)) k4 Ls Tf Z Z) F Z fun a F=>?_;have p2:=PtrC.field p1 0 1 (lb Z);have p2:PtrC g6 (Ld (Dr vevents1 x3 5) 0) [.i6 y4.Kind]:=p2;obtain ⟨x5,t4,m⟩:=Aa m;refine qE (Aq Lh Q0 (z:=0) ts3 Z p1.ptr Z) F Z<|Qe (A3 tu3 Z Z (Bm p2 (Le.refl _))) Z<|Qe (Ah Z Z (C3 _ _ _ _)) Z<|Qe (Ae Z) Z fun a F=>T0 15 (fun a=>Fr 63 a [(49,.bool x5),(9,.i6 x3),(6,v2),(5,bp b1 0),(0,vkeys1),(1,vevents1)]) ?_ ?_
     ·clear m;obtain ⟨d5,m⟩ | ⟨d5,m⟩:=Al t4
      ·obtain ⟨y5,k5,m⟩:=Aa m;refine Bw (wg F Z Z Z Z d5) (Ae Z) F Z Z fun a F=>Bw (wg F Z Z Z Z d5) (Ae Z) F Z Z fun a F=>?_;obtain ⟨cs2,o3,p3⟩:=Dz (hevents1.mono (l1.trans l6)) k5;obtain ⟨v5,rfl,h5⟩:=Hm o3;refine Bw (wg F Z Z Z Z d5) (B5 (hevents1.mono (l1.trans l6)) k5 Ls Tf Z Z) F Z Z fun a F=>?_;have p4:=PtrC.field p3 2 1 (lb Z);have p4:PtrC g6 (Ld (Dr vevents1 x3 5) 2) [.i6 y5.Key]:=p4;obtain ⟨y6,k6,m⟩:=Aa m;refine Bw (wg F Z Z Z Z d5) (Aq Lh tf44_2 (z:=0) ts3 Z p3.ptr Z) F Z Z fun a F=>Bw (wg F Z Z Z Z d5) (A3 tu3 Z Z (Bm p4 (Le.refl _))) F Z Z fun a F=>Bw (wg F Z Z Z Z d5) (Ae Z) F Z Z fun a F=>Bw (wg F Z Z Z Z d5) (Ae Z) F Z Z fun a F=>Bw (wg F Z Z Z Z d5) (Ae Z) F Z Z fun a F=>?_;obtain ⟨cs3,o4,p5⟩:=Dz (hevents1.mono (l1.trans l6)) k6;obtain ⟨v6,rfl,h6⟩:=Hm o4;refine Bw (wg F Z Z Z Z d5) (B5 (hevents1.mono (l1.trans l6)) k6 Ls Tf Z Z) F Z Z fun a F=>?_;have p6:=PtrC.field p5 1 1 (lb Z);have p6:PtrC g6 (Ld (Dr vevents1 x3 5) 1) [.i6 y6.User]:=p6;obtain ⟨y7,k7,m⟩:=Aa m;refine Bw (wg F Z Z Z Z d5) (Aq Lh tf44_1 (z:=0) ts3 Z p5.ptr Z) F Z Z fun a F=>Bw (wg F Z Z Z Z d5) (A3 tu3 Z Z (Bm p6 (Le.refl _))) F Z Z fun a F=>?_;obtain ⟨cs4,o5,p7⟩:=Dz (hkeys1.mono (l1.trans l6)) k7;obtain rfl:=H6 o5;cases Am m;refine Bw (wg F Z Z Z Z d5) (B5 (hkeys1.mono (l1.trans l6)) k7 Gn ts3 Z Z) F Z Z fun a F=>Bw (wg F Z Z Z Z d5) (A3 tu3 Z Z (Bm p7 (Le.refl _))) F Z Z fun a F=>Bw (wg F Z Z Z Z d5) (Ah Z Z (C3 _ _ _ _)) F Z Z<|Qe (A7 Z d5 Z) Z fun a F=>?_;refine D9 ?_;exact F.s
      ·cases Am m;refine Be Z Z Z Z (Az d5) F Z Z fun a F=>Be Z Z Z Z (Az d5) F Z Z fun a F=>Be Z Z Z Z (Az d5) F Z Z fun a F=>Be Z Z Z Z (Az d5) F Z Z fun a F=>Be Z Z Z Z (Az d5) F Z Z fun a F=>Be Z Z Z Z (Az d5) F Z Z fun a F=>Be Z Z Z Z (Az d5) F Z Z fun a F=>Be Z Z Z Z (Az d5) F Z Z fun a F=>Be Z Z Z Z (Az d5) F Z Z fun a F=>Be Z Z Z Z (Az d5) F Z Z fun a F=>Be Z Z Z Z (Az d5) F Z Z fun a F=>Be Z Z Z Z (Az d5) F Z Z fun a F=>Be Z Z Z Z (Az d5) F Z Z fun a F=>Be Z Z Z Z (Az d5) F Z Z<|Qe (A5 Z d5 Z) Z fun a F=>?_;refine D9 ?_;exact F.s
     clear F;intro a F;refine D9 fun w S=>Ac ?_;obtain ⟨d6,m⟩ | ⟨d6,m⟩:=Al m
     ·obtain ⟨y8,k8,m⟩:=Aa m;refine Aj F Z d6 (Af (Ad ?_));refine wc F (B4  S.z k8) tc10 ?_;rintro _ a w ⟨g7,l7,S,rfl⟩ F;replace S:=S.y;cases Am m;refine wa1 Z F Z Z fun a F=>nn (Ax (Cg (A1 (A1 (Cg (A1 ?_))))));obtain rfl:=f1 _ Z;have m:(some y8:Option Bool)=some _:=j1;cases Am m;exact po F Z (rT Z) ⟨_,Z,g7,((l1.trans l6).trans l7),S.t,Z⟩
     ·obtain ⟨z1,u1,m⟩:=Aa m;cases Am m;refine Ai F Z d6 (Ao (Cf (Ac (Ad (wm Z F Z Z<|Y (Ah Z Z (Bv u1)) S Z<|ma Z Z Z fun a F=>Ab (Ac ?_))))));refine ⟨_,Z,?_⟩;exact ⟨g6,F.s,l6,S⟩
    ·cases Am m;refine Ai F Z d4 (Cn (Bj (Bj (Ek (Ac ?_)))));obtain rfl:=f1 _ Z;exact ⟨g6,F.s,l6,S,j1⟩
  ·rintro a w ⟨g3,F,l3,S,m⟩;obtain ⟨x1,t1,m⟩:=Aa m;refine sr (wE (eF Cz Ex Lc) F S Z<|Y (e1 Di v1 1 0) S Z<|Y (Ef h1 Z Di) S Z<|Y (Ah Z Z (C3 _ _ _ _)) S Z<|mv Z Z Z fun a F=>Ca 4 (fun a w'=>w=w'∧Fr 63 a [(59,.bool x1)]) ?_ ?_)
   ·clear m;obtain ⟨d2,m⟩ | ⟨d2,m⟩:=Al t1
    ·cases Am m;refine gE d2 (Ae Z) F S Z<|Ge d2 (Ef h2 Z Ua) S Z<|Ge d2 (Ah Z Z (C3 _ _ _ _)) S Z<|Y (A7 Z d2 Z) S Z fun a F=>?_;exact Ab (Ac ⟨Z,F.s⟩)
    ·cases Am m;refine wk (Az d2) F Z<|Wk (Az d2) Z<|Wk (Az d2) Z<|Y (A5 Z d2 Z) S Z fun a F=>?_;exact Ab (Ac ⟨Z,F.s⟩)
   clear F;rintro a w' ⟨rfl,F⟩;obtain ⟨x2,t2,m⟩:=Aa m;refine wm Z F Z Z fun a F=>Ca 2 (fun a w=>∃ g4,Fr 63 a [(62,.bool x2)]∧Le g3 g4∧St g4 [c2,[bx b1 #[v1] 26],c1] fr w) ?_ ?_
   ·clear m;obtain ⟨d3,m⟩ | ⟨d3,m⟩:=Al t2
    ·obtain ⟨y3,k3,m⟩:=Aa m;refine Cu (wg F Z Z Z Z d3) Z F Z (B4  S.z k3) Z tc10 Z Z ?_;rintro _ a w ⟨g5,l5,S,rfl⟩ F;replace S:=S.y;cases Am m;refine wE (A7 Z d3 Z) F S Z fun a F=>?_;exact Ab (Ac ⟨g5,F.s,l5,S⟩)
    ·cases Am m;refine wk (Az d3) F Z<|Y (A5 Z d3 Z) S Z fun a F=>?_;exact Ab (Ac ⟨g3,F.s,(Le.refl _),S⟩)
   clear F S;rintro a w ⟨g4,F,l4,S⟩;cases Am m;exact wa1 Z F Z Z fun a F=>nn (Ax (po F Z (rT Z) ⟨_,Z,g4,((l1.trans l3).trans l4),S.t,Z⟩))
end Go.Dc
