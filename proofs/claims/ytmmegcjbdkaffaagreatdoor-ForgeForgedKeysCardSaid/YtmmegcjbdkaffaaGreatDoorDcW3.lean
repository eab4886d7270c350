import Derived.Test.YtmmegcjbdkaffaaGreatDoorDcTab
import Derived.Test.YtmmegcjbdkaffaaGreatDoorDcM
import Derived.Test.YtmmegcjbdkaffaaGreatDoorDcW1
set_option linter.unusedSimpArgs false
namespace Go.Dc
open Go Go.Proofs
set_option maxRecDepth 100000
set_option maxHeartbeats 4000000
set_option linter.unusedVariables false
theorem treepatch_check_ok {g:Gh} {fr:Hl} {w:World} {r:Int} (c_:TreeChange) (vc_1:Value) (hc_1:RepSl g c_.Lines vc_1) (vc_2:Value) (hc_2:RepSl g c_.Patch.Hunks vc_2) (S:St g [] fr w) (m:Mt c_=some r) :
  Calls Tryz.prog 37 [.agg #[.i6 c_.Kind,.string c_.Path,.string c_.To,vc_1,vc_2]].toArray w (fun en w'=>∃ v,en=.returned v∧∃ (g':Gh),Le g g'∧St g' [] fr w'∧.i6 r=v):=by
 unfold Mt at m;refine An (fn:=Tryz.f37) Tryz.func37 Z Tryz.ntmps37 (lb Z) ?_;intro a F;obtain ⟨x1,t1,m⟩:=Aa m;refine sr (wb rfl rfl rfl F S rfl fun b1 a w F S=>wa1 rfl F rfl rfl fun a F=>nn (Af (Eq mo (by kernel_rfl) S (qE (eF H2 Ut ts3) F rfl<|Qe (e1 tu3 (.i6 c_.Kind) 0 0) rfl<|Qe (Ah rfl rfl (C3 _ _ _ _)) rfl<|Qe (eF H2 Ut ts3) rfl<|Qe (e1 tu3 (.i6 c_.Kind) 0 0) rfl<|Qe (Ah rfl rfl (C3 _ _ _ _)) rfl<|Qe (A0 rfl) rfl<|Qe (A0 rfl) rfl fun a F=>D9 fun w S=>Ac (Af (Au (sr (wE (eF H2 Ut ts3) F S rfl<|Y (e1 tu3 (.i6 c_.Kind) 0 0) S rfl<|Y (Ah rfl rfl (Cs _ _ _ _)) S rfl<|mv rfl rfl rfl fun a F=>Ca 4 (fun a w'=>w=w'∧Fr 84 a [(20,.bool x1),(4,.bool (decide (c_.Kind=3))),(3,.bool (decide (c_.Kind=4))),(1,bp b1 0)]) ?_ ?_))))))))
 ·clear m;obtain ⟨d1,m⟩ | ⟨d1,m⟩:=Al t1
  ·cases Am m;refine wk (Ba d1) F Z<|Wk (Ba d1) Z<|Wk (Ba d1) Z<|Y (A7 Z d1 Z) S Z fun a F=>?_;exact Ab (Ac ⟨Z,F.s⟩)
  ·cases Am m;refine gE d1 (eF H2 Ut ts3) F S Z<|Ge d1 (e1 tu3 (.i6 c_.Kind) 0 0) S Z<|Ge d1 (Ah Z Z (Gu _ _ _ _)) S Z<|Y (A5 Z d1 Z) S Z fun a F=>?_;exact Ab (Ac ⟨Z,F.s⟩)
 clear F;rintro a w' ⟨rfl,F⟩;refine wa1 Z F Z Z fun a F=>Ab (Ac ?_);obtain ⟨d2,m⟩ | ⟨d2,m⟩:=Al m
 ·cases Am m;exact Aj F Z d2 (sr (wa1 Z F Z Z fun a F=>nn (Ax (Cg (A1 (po F Z (rT Z) ⟨_,Z,g,(Le.refl _),S.t,Z⟩))))))
 ·obtain ⟨y1,k1,m⟩:=Aa m;refine Ai F Z d2 (sr (wE (eF H2 Uq ts9) F S Z<|Y (e1 tu9 (.string c_.Path) 0 1) S Z fun a F=>?_));refine wc F (Me c_.Path S.z k1) tc29 ?_;rintro _ a w ⟨g1,l1,S,rfl⟩ F;replace S:=S.y;obtain ⟨x2,t2,m⟩:=Aa m;refine wE (E4 Z) F S Z<|mv Z Z Z fun a F=>Ca 8 (fun a w=>∃ g2,Fr 84 a [(34,.bool x2),(4,.bool (decide (c_.Kind=3))),(3,.bool (decide (c_.Kind=4))),(1,bp b1 0)]∧Le g1 g2∧St g2 [[bx b1 #[.i6 c_.Kind,.string c_.Path,.string c_.To,vc_1,vc_2] 67]] fr w) ?_ ?_
  ·clear m;obtain ⟨d3,m⟩ | ⟨d3,m⟩:=Al t2
   ·cases Am m;refine wk (Ba d3) F Z<|Wk (Ba d3) Z fun a F=>Dw Z Z Z Z F Z Z fun a F=>Dw Z Z Z Z F Z Z fun a F=>Dw Z Z Z Z F Z Z fun a F=>Dw Z Z Z Z F Z Z<|Wk (Ba d3) Z<|Y (A7 Z d3 Z) S Z fun a F=>?_;exact Ab (Ac ⟨g1,F.s,(Le.refl _),S⟩)
   ·obtain ⟨x3,t3,m⟩:=Aa m;refine gE d3 (Ae Z) F S Z<|Ge d3 (Ae Z) S Z fun a F=>Ca 5 (fun a w=>∃ g3,Fr 84 a [(33,.bool x3),(26,.bool !y1),(4,.bool (decide (c_.Kind=3))),(3,.bool (decide (c_.Kind=4))),(1,bp b1 0)]∧Le g1 g3∧St g3 [[bx b1 #[.i6 c_.Kind,.string c_.Path,.string c_.To,vc_1,vc_2] 67]] fr w) ?_ ?_
    ·clear m;obtain ⟨d4,m⟩ | ⟨d4,m⟩:=Al t3
     ·obtain ⟨y2,k2,m⟩:=Aa m;refine gE d4 (eF H2 Vo ts9) F S Z<|Ge d4 (e1 tu9 (.string c_.To) 0 2) S Z fun a F=>?_;refine Cu (wg F Z Z Z Z d4) Z F Z (Me c_.To S.z k2) Z tc29 Z Z ?_;rintro _ a w ⟨g4,l4,S,rfl⟩ F;replace S:=S.y;cases Am m;refine gE d4 (E4 Z) F S Z<|Ge d3 (A7 Z d4 Z) S Z fun a F=>?_;exact Ab (Ac ⟨g4,F.s,l4,S⟩)
     ·cases Am m;refine wk (Az d4) F Z<|Wk (Az d4) Z<|Wk (Az d4) Z<|Wk (Az d4) Z<|Ge d3 (A5 Z d4 Z) S Z fun a F=>?_;exact Ab (Ac ⟨g1,F.s,(Le.refl _),S⟩)
    clear F S;rintro a w ⟨g3,F,l3,S⟩;cases Am m;refine wE (A5 Z d3 Z) F S Z fun a F=>?_;exact Ab (Ac ⟨g3,F.s,l3,S⟩)
  clear F S;rintro a w ⟨g2,F,l2,S⟩;refine wa1 Z F Z Z fun a F=>Ab (Ac ?_);obtain ⟨d5,m⟩ | ⟨d5,m⟩:=Al m
  ·cases Am m;exact Aj F Z d5 (sr (wa1 Z F Z Z fun a F=>nn (Ax (Cg (A1 (po F Z (rT Z) ⟨_,Z,g2,(l1.trans l2),S.t,Z⟩))))))
  ·obtain ⟨x4,t4,m⟩:=Aa m;refine Ai F Z d5 (sr (wm Z F Z Z<|Y (E4 Z) S Z<|mv Z Z Z fun a F=>Ca 4 (fun a w'=>w=w'∧Fr 84 a [(42,.bool x4),(4,.bool (decide (c_.Kind=3))),(3,.bool (decide (c_.Kind=4))),(1,bp b1 0)]) ?_ ?_))
   ·clear m;obtain ⟨d6,m⟩ | ⟨d6,m⟩:=Al t4
    ·cases Am m;refine gE d6 (eF H2 Vo ts9) F S Z<|Ge d6 (e1 tu9 (.string c_.To) 0 2) S Z<|Ge d6 (K1 Z Z (bs_neq _ _ _)) S Z<|Y (A7 Z d6 Z) S Z fun a F=>?_;exact Ab (Ac ⟨Z,F.s⟩)
    ·cases Am m;refine wk (Az d6) F Z<|Wk (Az d6) Z<|Wk (Az d6) Z<|Y (A5 Z d6 Z) S Z fun a F=>?_;exact Ab (Ac ⟨Z,F.s⟩)
   clear F;rintro a w' ⟨rfl,F⟩;obtain ⟨x5,t5,m⟩:=Aa m;refine wm Z F Z Z fun a F=>Ca 9 (fun a w=>∃ g5,Fr 84 a [(52,.bool x5),(4,.bool (decide (c_.Kind=3))),(3,.bool (decide (c_.Kind=4))),(1,bp b1 0)]∧Le g2 g5∧St g5 [[bx b1 #[.i6 c_.Kind,.string c_.Path,.string c_.To,vc_1,vc_2] 67]] fr w) ?_ ?_
   ·clear m;obtain ⟨d7,m⟩ | ⟨d7,m⟩:=Al t5
    ·cases Am m;refine wk (Ba d7) F Z<|Wk (Ba d7) Z fun a F=>Dw Z Z Z Z F Z Z fun a F=>Dw Z Z Z Z F Z Z fun a F=>Dw Z Z Z Z F Z Z fun a F=>Dw Z Z Z Z F Z Z fun a F=>Dw Z Z Z Z F Z Z<|Wk (Ba d7) Z<|Y (A7 Z d7 Z) S Z fun a F=>?_;exact Ab (Ac ⟨g2,F.s,(Le.refl _),S⟩)
    ·obtain ⟨x6,t6,m⟩:=Aa m;refine gE d7 (Ae Z) F S Z<|Ge d7 (Ae Z) S Z fun a F=>Ca 6 (fun a w=>∃ g6,Fr 84 a [(51,.bool x6),(43,.bool x4),(4,.bool (decide (c_.Kind=3))),(3,.bool (decide (c_.Kind=4))),(1,bp b1 0)]∧Le g2 g6∧St g6 [[bx b1 #[.i6 c_.Kind,.string c_.Path,.string c_.To,vc_1,vc_2] 67]] fr w) ?_ ?_
     ·clear m;obtain ⟨d8,m⟩ | ⟨d8,m⟩:=Al t6
      ·obtain ⟨y3,k3,m⟩:=Aa m;refine gE d8 (eF H2 Uq ts9) F S Z<|Ge d8 (e1 tu9 (.string c_.Path) 0 1) S Z<|Ge d8 (eF H2 Vo ts9) S Z<|Ge d8 (e1 tu9 (.string c_.To) 0 2) S Z fun a F=>?_;refine Cu (wg F Z Z Z Z d8) Z F Z (Lk c_.Path c_.To S.z k3) Z tc45 Z Z ?_;rintro _ a w ⟨g7,l7,S,rfl⟩ F;replace S:=S.y;cases Am m;refine gE d7 (A7 Z d8 Z) F S Z fun a F=>?_;exact Ab (Ac ⟨g7,F.s,l7,S⟩)
      ·cases Am m;refine wk (Az d8) F Z<|Wk (Az d8) Z<|Wk (Az d8) Z<|Wk (Az d8) Z<|Wk (Az d8) Z<|Ge d7 (A5 Z d8 Z) S Z fun a F=>?_;exact Ab (Ac ⟨g2,F.s,(Le.refl _),S⟩)
     clear F S;rintro a w ⟨g6,F,l6,S⟩;cases Am m;refine wE (A5 Z d7 Z) F S Z fun a F=>?_;exact Ab (Ac ⟨g6,F.s,l6,S⟩)
   clear F S;rintro a w ⟨g5,F,l5,S⟩;refine wa1 Z F Z Z fun a F=>Ab (Ac ?_);obtain ⟨d9,m⟩ | ⟨d9,m⟩:=Al m
   ·cases Am m;exact Aj F Z d9 (sr (wa1 Z F Z Z fun a F=>nn (Ax (Cg (A1 (po F Z (rT Z) ⟨_,Z,g5,((l1.trans l2).trans l5),S.t,Z⟩))))))
   ·obtain ⟨x7,t7,m⟩:=Aa m;refine Ai F Z d9 (sr (wE (eF H2 tf67_3 Gt) F S Z<|Y (e1 Ch vc_1 0 3) S Z<|Y (A6 hc_1 Z Ch) S Z<|Y (Ah Z Z (Gu _ _ _ _)) S Z<|mv Z Z Z fun a F=>Ca 5 (fun a w'=>w=w'∧Fr 84 a [(63,.bool x7),(3,.bool (decide (c_.Kind=4))),(1,bp b1 0)]) ?_ ?_))
    ·clear m;obtain ⟨d10,m⟩ | ⟨d10,m⟩:=Al t7
     ·obtain ⟨x8,t8,m⟩:=Aa m;refine gE d10 (Ae Z) F S Z<|Ge d10 (Ae Z) S Z fun a F=>Ca 2 (fun a w'=>w=w'∧Fr 84 a [(62,.bool x8),(58,.bool (decide ((c_.Lines.length:Int) > 0))),(3,.bool (decide (c_.Kind=4))),(1,bp b1 0)]) ?_ ?_
      ·clear m;obtain ⟨d11,m⟩ | ⟨d11,m⟩:=Al t8
       ·cases Am m;refine wk (Ba d11) F Z<|Ge d10 (A7 Z d11 Z) S Z fun a F=>?_;exact Ab (Ac ⟨Z,F.s⟩)
       ·cases Am m;refine gE d11 (Ae Z) F S Z<|Ge d10 (A5 Z d11 Z) S Z fun a F=>?_;exact Ab (Ac ⟨Z,F.s⟩)
      clear F;rintro a w' ⟨rfl,F⟩;cases Am m;refine wE (A7 Z d10 Z) F S Z fun a F=>?_;exact Ab (Ac ⟨Z,F.s⟩)
     ·cases Am m;refine wk (Az d10) F Z<|Wk (Az d10) Z fun a F=>Dw Z Z Z Z F Z Z<|Wk (Az d10) Z<|Y (A5 Z d10 Z) S Z fun a F=>?_;exact Ab (Ac ⟨Z,F.s⟩)
    clear F;rintro a w' ⟨rfl,F⟩;refine wa1 Z F Z Z fun a F=>Ab (Ac ?_);obtain ⟨d12,m⟩ | ⟨d12,m⟩:=Al m
    ·cases Am m;exact Aj F Z d12 (sr (wa1 Z F Z Z fun a F=>nn (Ax (Cg (A1 (po F Z (rT Z) ⟨_,Z,g5,((l1.trans l2).trans l5),S.t,Z⟩))))))
    ·refine Ai F Z d12 (sr (wm Z F Z Z<|Y (eF H2 tf67_4 Oy) S Z<|Y (eF M7 Mz On) S Z<|Y (e1 Gv vc_2 0 4) S Z<|Y (A6 hc_2 Z Gv) S Z<|Y (Ah Z Z (Gu _ _ _ _)) S Z<|Y (ev_neB tu4 Z Z) S Z<|ma Z Z Z fun a F=>Ab (Ac ?_)));obtain ⟨d13,m⟩ | ⟨d13,m⟩:=Al m
     ·cases Am m;exact Aj F Z d13 (sr (wa1 Z F Z Z fun a F=>nn (Ax (Cg (A1 (po F Z (rT Z) ⟨_,Z,g5,((l1.trans l2).trans l5),S.t,Z⟩))))))
     ·obtain ⟨y4,k4,m⟩:=Aa m;refine Ai F Z d13 (Ao (Cf (Ac (Af (sr (wE (eF H2 tf67_3 Gt) F S Z<|Y (e1 Ch vc_1 0 3) S Z fun a F=>?_))))));refine wc F (M5 c_.Lines vc_1 (hc_1.mono ((l1.trans l2).trans l5)) S.z k4) tc46 ?_;rintro _ a w ⟨g8,l8,S,rfl⟩ F;replace S:=S.y;refine wA Z D5 [.i6 0,.i6 0] F S Z fun b2 a w F S=>ws Z F S Z [.i6 y4.Code,.i6 y4.Index] Bc (on Z) 0 Z #[.i6 y4.Code,.i6 y4.Index] fun w S=>nq (wE (eA B7 [.i6 y4.Code,.i6 y4.Index] Bc 0 0) F S Z<|Y (eB El) S Z<|Y (nE y4.Code y4.Index 0 0) S Z fun a F=>Ab (Ac ?_));obtain ⟨d14,m⟩ | ⟨d14,m⟩:=Al m
      ·cases Am m;exact Aj F Z d14 (sr (wE (eF B7 Ho ts3) F S Z<|Y (e1 tu3 (.i6 y4.Code) 0 0) S Z<|ma Z Z Z fun a F=>nn (rr (po F Z (rT Z) ⟨_,Z,g8,(((l1.trans l2).trans l5).trans l8),S.t,Z⟩))))
      ·obtain ⟨y5,k5,m⟩:=Aa m;refine Ai F Z d14 (Ao (Ac (sr (wE (eF H2 tf67_4 Oy) F S Z<|Y (eA M7 [vc_2] Oy 1 4) S Z fun a F=>?_))));refine wc F (O0 c_.Patch vc_2 (hc_2.mono (((l1.trans l2).trans l5).trans l8)) S.z k5) tc55 ?_;rintro _ a w ⟨g9,l9,S,rfl⟩ F;replace S:=S.y;cases Am m;exact wE (ev_field1 B7 Ho tu3 Z (cs:=[.i6 y5.Code,.i6 y5.Index]) Z Z) F S Z<|ma Z Z Z fun a F=>nn (Ax (po F Z (rT Z) ⟨_,Z,g9,((((l1.trans l2).trans l5).trans l8).trans l9),S.t,Z⟩))
theorem K4 {g:Gh} {fr:Hl} {w:World} {r:Fault} (p_:TreePatch) (vp_1:Value) (hp_1:RepSl g p_.Changes vp_1) (S:St g [] fr w) (m:Ce p_=some r) :
  Calls Tryz.prog 25 [.agg #[vp_1]].toArray w (fun en w'=>∃ v,en=.returned v∧∃ (g':Gh),Le g g'∧St g' [] fr w'∧.agg #[.i6 r.Code,.i6 r.Index]=v):=by
 unfold Ce at m;refine An (fn:=Tryz.f25) Tryz.func25 Z Tryz.ntmps25 (lb Z) ?_;intro a F;refine sr (wb Z Z Z F S Z fun b1 a w F S=>wA Z D5 [.i6 0,.i6 0] F S Z fun b2 a w F S=>nn (Af (sr (wE (eF Ky T8 ts35) F S Z<|Y (e1 Hy vp_1 1 0) S Z<|Y (A6 hp_1 Z Hy) S Z<|Y (Ah Z Z (Gu _ _ _ _)) S Z fun a F=>Ab (Ac ?_)))));obtain ⟨d1,m⟩ | ⟨d1,m⟩:=Al m
 ·cases Am m;exact Aj F Z d1 (sr (wE (eB (D6 2 (-1))) F S Z fun a F=>ws Z F S Z [.i6 2,.i6 (-1)] Bc (on Z) 0 Z #[.i6 2,.i6 (-1)] fun w S=>nn (rr (po F Z (Ar (rA B7 [.i6 2,.i6 (-1)] Bc 0 0 S) Bl) ⟨_,Z,g,(Le.refl _),S.t,Z⟩))))
 ·refine Ai F Z d1 (Ao (Ac (Cc (fun a w=>∃ (g1:Gh),Fr 28 a [(2,bp b2 0)]∧Le g g1∧St g1 [[bx b2 #[.i6 0,.i6 0] 29]] fr w∧Ce.j1=some r) ?_ ?_)))
  ·obtain ⟨r1,o1,m⟩:=Aa m;refine sr (wE (eF Ky T8 ts35) F S Z<|Y (e1 Hy vp_1 1 0) S Z<|Y (A6 hp_1 Z Hy) S Z<|mv Z Z Z fun a F=>nn (Au ?_));have j1:=m;refine wj o1 (fun x1 a w=>∃ (g2:Gh),Fr 28 a [(14,.i6 x1),(13,.i6 (p_.Changes.length:Int)),(12,vp_1),(2,bp b2 0)]∧Le g g2∧St g2 [[bx b2 #[.i6 0,.i6 0] 29]] fr w) ?_ ?_
   ·exact ⟨g,F.s,(Le.refl _),S.pm [0]⟩
   ·rintro x1 a w x2 ⟨g2,F,l2,S⟩ t1 f1;have m:Ce.l1 p_ x1=some x2:=t1;clear t1;unfold Ce.l1 at m;refine sr (wE (Ah Z Z (Cs _ _ _ _)) F S Z fun a F=>nn (Af ?_));obtain ⟨d2,m⟩ | ⟨d2,m⟩:=Al m
    ·obtain ⟨y1,k1,m⟩:=Aa m;refine Aj F Z d2 (Ao (Ac (Af (Au (sr (wm Z F Z Z fun a F=>?_))))));obtain ⟨cs1,o2,p1⟩:=Dz (hp_1.mono l2) k1;obtain ⟨v1,v2,rfl,h1,h2⟩:=K7 o2;obtain ⟨y2,k2,m⟩:=Aa m;refine wE (B5 (hp_1.mono l2) k1 Hy Ql Z Z) F S Z<|Y (Bi H2 Z (cs:=[.i6 y1.Kind,.string y1.Path,.string y1.To,v1,v2]) Ql Z (Bm p1 (Le.refl _))) S Z fun a F=>wA Z tz67 [.i6 0,.string ByteArray.empty,.string ByteArray.empty,A4,A4] F S Z fun b3 a w F S=>wa1 Z F Z Z fun a F=>ws Z F S Z [.i6 y1.Kind,.string y1.Path,.string y1.To,v1,v2] Ql (Ag Z (Ag Z (Ag Z (Ag h1.one (Ag h2.one A2))))) 0 Z #[.i6 y1.Kind,.string y1.Path,.string y1.To,v1,v2] fun w S=>nq (wE (eA H2 [.i6 y1.Kind,.string y1.Path,.string y1.To,v1,v2] Ql 0 0) F S Z fun a F=>?_);refine wc F (treepatch_check_ok y1 v1 h1 v2 h2 S.z k2) tc37 ?_;rintro _ a w ⟨g3,l3,S,rfl⟩ F;replace S:=S.y;refine wa1 Z F Z Z fun a F=>nq (wm Z F Z Z<|Y (Ah Z Z (Gw _ _ _ _)) S Z fun a F=>Ab (Ac ?_));obtain ⟨d3,m⟩ | ⟨d3,m⟩:=Al m
     ·cases Am m;refine Aj F Z d3 (sr (wm Z F Z Z<|mv Z Z Z<|Y (eB (D6 y2 x1)) S Z fun a F=>ws Z F S Z [.i6 y2,.i6 x1] Bc (on Z) 1 Z #[.i6 y2,.i6 x1] fun w S=>nn (Ax (Cg (A1 (A1 (Cg (A1 ?_))))))));obtain rfl:=f1 _ Z;have m:(some ({ Code:=y2,Index:=x1 }:Fault):Option Fault)=some _:=j1;cases Am m;exact po F Z (Ar (rA B7 [.i6 y2,.i6 x1] Bc 1 0 S) Bl) ⟨_,Z,g3,(l2.trans l3),S.t,Z⟩
     ·obtain ⟨z1,u1,m⟩:=Aa m;cases Am m;refine Ai F Z d3 (Ao (Cf (Ac (Ad (wE (Ah Z Z (Bv u1)) F S Z<|mv Z Z Z fun a F=>Ab (Ac ?_))))));refine ⟨_,Z,?_⟩;exact ⟨g3,F.s,(l2.trans l3),S.pm [1]⟩
    ·cases Am m;refine Ai F Z d2 (Cn (Bj (Bj (Ek (Ac ?_)))));obtain rfl:=f1 _ Z;exact ⟨g2,F.s,l2,S,j1⟩
  ·rintro a w ⟨g1,F,l1,S,m⟩;cases Am m;exact sr (wE (eB El) F S Z fun a F=>ws Z F S Z [.i6 0,.i6 0] Bc (on Z) 0 Z #[.i6 0,.i6 0] fun w S=>nn (Ax (po F Z (Ar (rA B7 [.i6 0,.i6 0] Bc 0 0 S) Bl) ⟨_,Z,g1,l1,S.t,Z⟩)))
theorem forge_checkEvent_ok {g:Gh} {fr:Hl} {w:World} {r:Int} (e_:ForgeEvent) (ve_1:Value) (he_1:RepSl g e_.Patch.Changes ve_1) (developers:Int) (S:St g [] fr w) (m:Cl e_ developers=some r) :
  Calls Tryz.prog 49 [.agg #[.i6 e_.Kind,.i6 e_.User,.i6 e_.Key,.i6 e_.N,ve_1],.i6 developers].toArray w (fun en w'=>∃ v,en=.returned v∧∃ (g':Gh),Le g g'∧St g' [] fr w'∧.i6 r=v):=by
 unfold Cl at m;refine An (fn:=Tryz.f49) Tryz.func49 Z Tryz.ntmps49 (lb Z) ?_;intro a F;refine sr (wb Z Z Z F S Z fun b1 a w F S=>wa1 Z F Z Z fun a F=>nn (Af (sr (wE (eF Lh Q0 ts3) F S Z<|Y (e1 tu3 (.i6 e_.Kind) 0 0) S Z fun a F=>nn (Au (Cc (fun a w=>∃ (x1:Bool) (g1:Gh),Fr 52 a [(7,.bool x1),(6,.i6 e_.Kind),(2,bp b1 0),(1,.i6 developers)]∧Le g g1∧St g1 [[bx b1 #[.i6 e_.Kind,.i6 e_.User,.i6 e_.Key,.i6 e_.N,ve_1] 44]] fr w∧Cl.j1 e_ developers x1=some r) ?_ ?_))))))
 ·refine sr (wE (Ah Z Z (C3 _ _ _ _)) F S Z<|ma Z Z Z fun a F=>Ab (Ac ?_));obtain ⟨d13,m⟩ | ⟨d13,m⟩:=Al m
  ·exact Aj F Z d13 (Ao (Ac (⟨(decide (e_.Kind=4)),g,F.s,(Le.refl _),S,m⟩)))
  ·refine Ai F Z d13 (sr (wE (Ah Z Z (C3 _ _ _ _)) F S Z<|ma Z Z Z fun a F=>Ab (Ac ?_)));obtain ⟨d14,m⟩ | ⟨d14,m⟩:=Al m
   ·exact Aj F Z d14 (Ao (Ac (⟨(decide (e_.Kind=5)),g,F.s,(Le.refl _),S,m⟩)))
   ·refine Ai F Z d14 (sr (wE (Ah Z Z (C3 _ _ _ _)) F S Z<|ma Z Z Z fun a F=>Ab (Ac ?_)));obtain ⟨d15,m⟩ | ⟨d15,m⟩:=Al m
    ·exact Aj F Z d15 (Ao (Ac (⟨(decide (e_.Kind=6)),g,F.s,(Le.refl _),S,m⟩)))
    ·exact Ai F Z d15 (Ad (wE (Ah Z Z (C3 _ _ _ _)) F S Z<|ma Z Z Z fun a F=>nn (⟨(decide (e_.Kind=7)),g,F.s,(Le.refl _),S,m⟩)))
 ·rintro a w ⟨x1,g1,F,l1,S,m⟩;obtain ⟨d1,m⟩ | ⟨d1,m⟩:=Al m
  ·obtain ⟨x2,t1,m⟩:=Aa m;refine Aj F Z d1 (Af (sr (wE (eF Lh Ur ts3) F S Z<|Y (e1 tu3 (.i6 e_.N) 0 3) S Z<|Y (Ah Z Z (Cs _ _ _ _)) S Z<|mv Z Z Z fun a F=>Ca 4 (fun a w'=>w=w'∧Fr 52 a [(19,.bool x2)]) ?_ ?_)))
   ·clear m;obtain ⟨d2,m⟩ | ⟨d2,m⟩:=Al t1
    ·cases Am m;refine wk (Ba d2) F Z<|Wk (Ba d2) Z<|Wk (Ba d2) Z<|Y (A7 Z d2 Z) S Z fun a F=>?_;exact Ab (Ac ⟨Z,F.s⟩)
    ·cases Am m;refine gE d2 (eF Lh Ur ts3) F S Z<|Ge d2 (e1 tu3 (.i6 e_.N) 0 3) S Z<|Ge d2 (Ah Z Z (Gu _ _ _ _)) S Z<|Y (A5 Z d2 Z) S Z fun a F=>?_;exact Ab (Ac ⟨Z,F.s⟩)
   clear F;rintro a w' ⟨rfl,F⟩;refine Ab (Ac ?_);obtain ⟨d3,m⟩ | ⟨d3,m⟩:=Al m
   ·cases Am m;exact Aj F Z d3 (sr (wa1 Z F Z Z fun a F=>nn (rr (Cg (A1 (po F Z (rT Z) ⟨_,Z,g1,l1,S.t,Z⟩))))))
   ·cases Am m;exact Ai F Z d3 (Ao (Ac (sr (wa1 Z F Z Z fun a F=>nn (Ax (Cg (A1 (po F Z (rT Z) ⟨_,Z,g1,l1,S.t,Z⟩))))))))
  ·refine Ai F Z d1 (Cc (fun a w=>∃ (x3:Bool) (g2:Gh),Fr 52 a [(20,.bool x3),(2,bp b1 0),(1,.i6 developers)]∧Le g1 g2∧St g2 [[bx b1 #[.i6 e_.Kind,.i6 e_.User,.i6 e_.Key,.i6 e_.N,ve_1] 44]] fr w∧Cl.j2 e_ developers x3=some r) ?_ ?_)
   ·refine sr (wE (Ah Z Z (C3 _ _ _ _)) F S Z<|ma Z Z Z fun a F=>Ab (Ac ?_));obtain ⟨d10,m⟩ | ⟨d10,m⟩:=Al m
    ·exact Aj F Z d10 (Ao (Ac (⟨(decide (e_.Kind=1)),g1,F.s,(Le.refl _),S,m⟩)))
    ·refine Ai F Z d10 (sr (wE (Ah Z Z (C3 _ _ _ _)) F S Z<|ma Z Z Z fun a F=>Ab (Ac ?_)));obtain ⟨d11,m⟩ | ⟨d11,m⟩:=Al m
     ·exact Aj F Z d11 (Ao (Ac (⟨(decide (e_.Kind=2)),g1,F.s,(Le.refl _),S,m⟩)))
     ·refine Ai F Z d11 (sr (wE (Ah Z Z (C3 _ _ _ _)) F S Z<|ma Z Z Z fun a F=>Ab (Ac ?_)));obtain ⟨d12,m⟩ | ⟨d12,m⟩:=Al m
      ·exact Aj F Z d12 (Ao (Ac (⟨(decide (e_.Kind=3)),g1,F.s,(Le.refl _),S,m⟩)))
      ·exact Ai F Z d12 (Ad (wE (Ah Z Z (C3 _ _ _ _)) F S Z<|ma Z Z Z fun a F=>nn (⟨(decide (e_.Kind=8)),g1,F.s,(Le.refl _),S,m⟩)))
   ·rintro a w ⟨x3,g2,F,l2,S,m⟩;obtain ⟨d4,m⟩ | ⟨d4,m⟩:=Al m
    ·obtain ⟨x4,t2,m⟩:=Aa m;refine Aj F Z d4 (Ao (Cf (Ac (Af (sr (wE (eF Lh tf44_1 ts3) F S Z<|Y (e1 tu3 (.i6 e_.User) 0 1) S Z<|Y (Ah Z Z (Cs _ _ _ _)) S Z<|mv Z Z Z fun a F=>Ca 5 (fun a w'=>w=w'∧Fr 52 a [(33,.bool x4),(2,bp b1 0)]) ?_ ?_))))))
     ·clear m;obtain ⟨d5,m⟩ | ⟨d5,m⟩:=Al t2
      ·cases Am m;refine wk (Ba d5) F Z<|Wk (Ba d5) Z<|Wk (Ba d5) Z<|Wk (Ba d5) Z<|Y (A7 Z d5 Z) S Z fun a F=>?_;exact Ab (Ac ⟨Z,F.s⟩)
      ·cases Am m;refine gE d5 (eF Lh tf44_1 ts3) F S Z<|Ge d5 (e1 tu3 (.i6 e_.User) 0 1) S Z<|Ge d5 (Ae Z) S Z<|Ge d5 (Ah Z Z (Kp _ _ _ _)) S Z<|Y (A5 Z d5 Z) S Z fun a F=>?_;exact Ab (Ac ⟨Z,F.s⟩)
     clear F;rintro a w' ⟨rfl,F⟩;obtain ⟨x5,t3,m⟩:=Aa m;refine wm Z F Z Z fun a F=>Ca 10 (fun a w=>∃ g3,Fr 52 a [(44,.bool x5),(2,bp b1 0)]∧Le g2 g3∧St g3 [[bx b1 #[.i6 e_.Kind,.i6 e_.User,.i6 e_.Key,.i6 e_.N,ve_1] 44]] fr w) ?_ ?_
     ·clear m;obtain ⟨d6,m⟩ | ⟨d6,m⟩:=Al t3
      ·cases Am m;refine wk (Ba d6) F Z<|Wk (Ba d6) Z<|Wk (Ba d6) Z<|Wk (Ba d6) Z fun a F=>Dw Z Z Z Z F Z Z fun a F=>Dw Z Z Z Z F Z Z fun a F=>Dw Z Z Z Z F Z Z fun a F=>Dw Z Z Z Z F Z Z<|Wk (Ba d6) Z<|Y (A7 Z d6 Z) S Z fun a F=>?_;exact Ab (Ac ⟨g2,F.s,(Le.refl _),S⟩)
      ·obtain ⟨x6,t4,m⟩:=Aa m;refine gE d6 (eF Lh Q0 ts3) F S Z<|Ge d6 (e1 tu3 (.i6 e_.Kind) 0 0) S Z<|Ge d6 (Ah Z Z (C3 _ _ _ _)) S Z<|Ge d6 (Ae Z) S Z fun a F=>Ca 5 (fun a w=>∃ g4,Fr 52 a [(43,.bool x6),(34,.bool x4),(2,bp b1 0)]∧Le g2 g4∧St g4 [[bx b1 #[.i6 e_.Kind,.i6 e_.User,.i6 e_.Key,.i6 e_.N,ve_1] 44]] fr w) ?_ ?_
       ·clear m;obtain ⟨d7,m⟩ | ⟨d7,m⟩:=Al t4
        ·obtain ⟨y1,k1,m⟩:=Aa m;refine gE d7 (eF Lh tf44_2 ts3) F S Z<|Ge d7 (e1 tu3 (.i6 e_.Key) 0 2) S Z fun a F=>?_;refine Cu (wg F Z Z Z Z d7) Z F Z (Qc e_.Key S.z k1) Z tc48 Z Z ?_;rintro _ a w ⟨g5,l5,S,rfl⟩ F;replace S:=S.y;cases Am m;refine gE d7 (E4 Z) F S Z<|Ge d6 (A7 Z d7 Z) S Z fun a F=>?_;exact Ab (Ac ⟨g5,F.s,l5,S⟩)
        ·cases Am m;refine wk (Az d7) F Z<|Wk (Az d7) Z<|Wk (Az d7) Z<|Wk (Az d7) Z<|Ge d6 (A5 Z d7 Z) S Z fun a F=>?_;exact Ab (Ac ⟨g2,F.s,(Le.refl _),S⟩)
       clear F S;rintro a w ⟨g4,F,l4,S⟩;cases Am m;refine wE (A5 Z d6 Z) F S Z fun a F=>?_;exact Ab (Ac ⟨g4,F.s,l4,S⟩)
     clear F S;rintro a w ⟨g3,F,l3,S⟩;refine Ab (Ac ?_);obtain ⟨d8,m⟩ | ⟨d8,m⟩:=Al m
     ·cases Am m;exact Aj F Z d8 (sr (wa1 Z F Z Z fun a F=>nn (rr (po F Z (rT Z) ⟨_,Z,g3,((l1.trans l2).trans l3),S.t,Z⟩))))
     ·refine Ai F Z d8 (Ao (Ac (Af (sr (wE (eF Lh Q0 ts3) F S Z<|Y (e1 tu3 (.i6 e_.Kind) 0 0) S Z<|Y (Ah Z Z (C3 _ _ _ _)) S Z fun a F=>Ab (Ac ?_))))));obtain ⟨d9,m⟩ | ⟨d9,m⟩:=Al m
      ·obtain ⟨y2,k2,m⟩:=Aa m;refine Aj F Z d9 (sr (wE (eF Lh tf44_4 Ke) F S Z<|Y (eA Ky [ve_1] Ke 0 4) S Z fun a F=>?_));refine wc F (K4 e_.Patch ve_1 (he_1.mono ((l1.trans l2).trans l3)) S.z k2) tc25 ?_;rintro _ a w ⟨g6,l6,S,rfl⟩ F;replace S:=S.y;cases Am m;exact wE (ev_field1 B7 Ho tu3 Z (cs:=[.i6 y2.Code,.i6 y2.Index]) Z Z) F S Z<|ma Z Z Z fun a F=>nn (rr (po F Z (rT Z) ⟨_,Z,g6,(((l1.trans l2).trans l3).trans l6),S.t,Z⟩))
      ·cases Am m;exact Ai F Z d9 (Ao (Ac (sr (wa1 Z F Z Z fun a F=>nn (Ax (po F Z (rT Z) ⟨_,Z,g3,((l1.trans l2).trans l3),S.t,Z⟩))))))
    ·cases Am m;exact Ai F Z d4 (sr (wa1 Z F Z Z fun a F=>nn (Ax (Cg (A1 (po F Z (rT Z) ⟨_,Z,g2,(l1.trans l2),S.t,Z⟩))))))
theorem forge_Validate_ok {g:Gh} {fr:Hl} {w:World} {r:Fault} (keys:(List Int)) (vkeys1:Value) (hkeys1:RepSl g keys vkeys1) (events:(List ForgeEvent)) (vevents1:Value) (hevents1:RepSl g events vevents1) (S:St g [] fr w) (m:Cv keys events=some r) :
  Calls Tryz.prog 33 [vkeys1,vevents1].toArray w (fun en w'=>∃ v,en=.returned v∧∃ (g':Gh),Le g g'∧St g' [] fr w'∧.agg #[.i6 r.Code,.i6 r.Index]=v):=by
 unfold Cv at m;refine An (fn:=Tryz.f33) Tryz.func33 Z Tryz.ntmps33 (lb Z) ?_;intro a F;obtain ⟨x1,t1,m⟩:=Aa m;refine sr (wA Z D5 [.i6 0,.i6 0] F S Z fun b1 a w F S=>nn (Af (sr (wm Z F Z Z<|Y (A6 hkeys1 Z Gn) S Z<|Y (Ah Z Z (C3 _ _ _ _)) S Z<|mv Z Z Z fun a F=>Ca 4 (fun a w'=>w=w'∧Fr 55 a [(17,.bool x1),(4,bp b1 0),(0,vkeys1),(1,vevents1)]) ?_ ?_))))
 ·clear m;obtain ⟨d1,m⟩ | ⟨d1,m⟩:=Al t1
  ·cases Am m;refine wk (Ba d1) F Z<|Wk (Ba d1) Z<|Wk (Ba d1) Z<|Y (A7 Z d1 Z) S Z fun a F=>?_;exact Ab (Ac ⟨Z,F.s⟩)
  ·cases Am m;refine gE d1 (Ae Z) F S Z<|Ge d1 (A6 hkeys1 Z Gn) S Z<|Ge d1 (Ah Z Z (Gu _ _ _ _)) S Z<|Y (A5 Z d1 Z) S Z fun a F=>?_;exact Ab (Ac ⟨Z,F.s⟩)
 clear F;rintro a w' ⟨rfl,F⟩;refine Ab (Ac ?_);obtain ⟨d2,m⟩ | ⟨d2,m⟩:=Al m
 ·cases Am m;exact Aj F Z d2 (sr (wE (eB (D6 9 (-2))) F S Z fun a F=>ws Z F S Z [.i6 9,.i6 (-2)] Bc (on Z) 0 Z #[.i6 9,.i6 (-2)] fun w S=>nn (rr (po F Z (Ar (rA B7 [.i6 9,.i6 (-2)] Bc 0 0 S) Bl) ⟨_,Z,g,(Le.refl _),S.t,Z⟩))))
 ·refine Ai F Z d2 (Ao (Ac (Cc (fun a w=>∃ (g1:Gh),Fr 55 a [(4,bp b1 0),(0,vkeys1),(1,vevents1)]∧Le g g1∧St g1 [[bx b1 #[.i6 0,.i6 0] 29]] fr w∧Cv.j1 keys events=some r) ?_ ?_)))
  ·obtain ⟨r2,o3,m⟩:=Aa m;refine sr (wm Z F Z Z<|Y (A6 hkeys1 Z Gn) S Z<|mv Z Z Z fun a F=>nn (Au ?_));have j2:=m;refine wj o3 (fun x4 a w=>∃ (g5:Gh),Fr 55 a [(21,.i6 x4),(20,.i6 (keys.length:Int)),(19,vkeys1),(4,bp b1 0),(0,vkeys1),(1,vevents1)]∧Le g g5∧St g5 [[bx b1 #[.i6 0,.i6 0] 29]] fr w) ?_ ?_
   ·exact ⟨g,F.s,(Le.refl _),S⟩
   ·rintro x4 a w x5 ⟨g5,F,l5,S⟩ t3 f2;have m:Cv.l2 keys x4=some x5:=t3;clear t3;unfold Cv.l2 at m;refine sr (wE (Ah Z Z (Cs _ _ _ _)) F S Z fun a F=>nn (Af ?_));obtain ⟨d6,m⟩ | ⟨d6,m⟩:=Al m
    ·obtain ⟨y3,k3,m⟩:=Aa m;refine Aj F Z d6 (Ao (Ac (Af (Au (sr (wm Z F Z Z fun a F=>?_))))));obtain ⟨cs2,o4,p2⟩:=Dz (hkeys1.mono l5) k3;obtain rfl:=H6 o4;obtain ⟨y4,k4,m⟩:=Aa m;refine wE (B5 (hkeys1.mono l5) k3 Gn ts3 Z Z) F S Z<|Y (A3 tu3 Z Z (Bm p2 (Le.refl _))) S Z<|ma Z Z Z<|ma Z Z Z fun a F=>nq (wm Z F Z Z fun a F=>?_);refine wc F (Qc y3 S.z k4) tc48 ?_;rintro _ a w ⟨g6,l6,S,rfl⟩ F;replace S:=S.y;refine wE (E4 Z) F S Z fun a F=>Ab (Ac ?_);obtain ⟨d7,m⟩ | ⟨d7,m⟩:=Al m
     ·obtain ⟨z2,u2,m⟩:=Aa m;cases Am m;refine Aj F Z d7 (sr (wm Z F Z Z<|Y (Ah Z Z (Hi u2)) S Z<|Y (eB (D6 3 z2)) S Z fun a F=>ws Z F S Z [.i6 3,.i6 z2] Bc (on Z) 0 Z #[.i6 3,.i6 z2] fun w S=>nn (Ax (Cg (A1 (A1 (Cg (A1 ?_))))))));obtain rfl:=f2 _ Z;have m:(some ({ Code:=3,Index:=z2 }:Fault):Option Fault)=some _:=j2;cases Am m;exact po F Z (Ar (rA B7 [.i6 3,.i6 z2] Bc 0 0 S) Bl) ⟨_,Z,g6,(l5.trans l6),S.t,Z⟩
     ·obtain ⟨z3,u3,m⟩:=Aa m;cases Am m;refine Ai F Z d7 (Ao (Cf (Ac (Ad (wE (Ah Z Z (Bv u3)) F S Z<|mv Z Z Z fun a F=>Ab (Ac ?_))))));refine ⟨_,Z,?_⟩;exact ⟨g6,F.s,(l5.trans l6),S⟩
    ·cases Am m;refine Ai F Z d6 (Cn (Bj (Bj (Ek (Ac ?_)))));obtain rfl:=f2 _ Z;exact ⟨g5,F.s,l5,S,j2⟩
  ·rintro a w ⟨g1,F,l1,S,m⟩;refine Af (sr (wm Z F Z Z<|Y (A6 hevents1 Z Ls) S Z<|Y (Ah Z Z (Gu _ _ _ _)) S Z fun a F=>Ab (Ac ?_)));obtain ⟨d3,m⟩ | ⟨d3,m⟩:=Al m
   ·cases Am m;exact Aj F Z d3 (sr (wE (eB (D6 2 (-1))) F S Z fun a F=>ws Z F S Z [.i6 2,.i6 (-1)] Bc (on Z) 0 Z #[.i6 2,.i6 (-1)] fun w S=>nn (rr (po F Z (Ar (rA B7 [.i6 2,.i6 (-1)] Bc 0 0 S) Bl) ⟨_,Z,g1,l1,S.t,Z⟩))))
   ·refine Ai F Z d3 (Ao (Ac (Cc (fun a w=>∃ (g2:Gh),Fr 55 a [(4,bp b1 0)]∧Le g1 g2∧St g2 [[bx b1 #[.i6 0,.i6 0] 29]] fr w∧Cv.j2=some r) ?_ ?_)))
    ·obtain ⟨r1,o1,m⟩:=Aa m;refine sr (wm Z F Z Z<|Y (A6 hevents1 Z Ls) S Z<|mv Z Z Z fun a F=>nn (Au ?_));have j1:=m;refine wj o1 (fun x2 a w=>∃ (g3:Gh),Fr 55 a [(39,.i6 x2),(38,.i6 (events.length:Int)),(37,vevents1),(4,bp b1 0),(0,vkeys1)]∧Le g1 g3∧St g3 [[bx b1 #[.i6 0,.i6 0] 29]] fr w) ?_ ?_
     ·exact ⟨g1,F.s,(Le.refl _),S⟩
     ·rintro x2 a w x3 ⟨g3,F,l3,S⟩ t2 f1;have m:Cv.l1 keys events x2=some x3:=t2;clear t2;unfold Cv.l1 at m;refine sr (wE (Ah Z Z (Cs _ _ _ _)) F S Z fun a F=>nn (Af ?_));obtain ⟨d4,m⟩ | ⟨d4,m⟩:=Al m
      ·obtain ⟨y1,k1,m⟩:=Aa m;refine Aj F Z d4 (Ao (Ac (Af (Au (sr (wm Z F Z Z fun a F=>?_))))));obtain ⟨cs1,o2,p1⟩:=Dz (hevents1.mono (l1.trans l3)) k1;obtain ⟨v1,rfl,h1⟩:=Hm o2;obtain ⟨y2,k2,m⟩:=Aa m;refine wE (B5 (hevents1.mono (l1.trans l3)) k1 Ls Tf Z Z) F S Z<|Y (Bi Lh Z (cs:=[.i6 y1.Kind,.i6 y1.User,.i6 y1.Key,.i6 y1.N,v1]) Tf Z (Bm p1 (Le.refl _))) S Z fun a F=>wA Z tz44 [.i6 0,.i6 0,.i6 0,.i6 0,A4] F S Z fun b2 a w F S=>wa1 Z F Z Z fun a F=>ws Z F S Z [.i6 y1.Kind,.i6 y1.User,.i6 y1.Key,.i6 y1.N,v1] Tf (Ag Z (Ag Z (Ag Z (Ag Z (Ag h1.one A2))))) 0 Z #[.i6 y1.Kind,.i6 y1.User,.i6 y1.Key,.i6 y1.N,v1] fun w S=>nq (wE (eA Lh [.i6 y1.Kind,.i6 y1.User,.i6 y1.Key,.i6 y1.N,v1] Tf 0 0) F S Z<|mv Z Z Z<|Y (A6 hkeys1 Z Gn) S Z fun a F=>?_);refine wc F (forge_checkEvent_ok y1 v1 h1 (keys.length:Int) S.z k2) tc49 ?_;rintro _ a w ⟨g4,l4,S,rfl⟩ F;replace S:=S.y;refine wa1 Z F Z Z fun a F=>nq (wm Z F Z Z<|Y (Ah Z Z (Gw _ _ _ _)) S Z fun a F=>Ab (Ac ?_));obtain ⟨d5,m⟩ | ⟨d5,m⟩:=Al m
       ·cases Am m;refine Aj F Z d5 (sr (wm Z F Z Z<|mv Z Z Z<|Y (eB (D6 y2 x2)) S Z fun a F=>ws Z F S Z [.i6 y2,.i6 x2] Bc (on Z) 1 Z #[.i6 y2,.i6 x2] fun w S=>nn (Ax (Cg (A1 (A1 (Cg (A1 ?_))))))));obtain rfl:=f1 _ Z;have m:(some ({ Code:=y2,Index:=x2 }:Fault):Option Fault)=some _:=j1;cases Am m;exact po F Z (Ar (rA B7 [.i6 y2,.i6 x2] Bc 1 0 S) Bl) ⟨_,Z,g4,((l1.trans l3).trans l4),S.t,Z⟩
       ·obtain ⟨z1,u1,m⟩:=Aa m;cases Am m;refine Ai F Z d5 (Ao (Cf (Ac (Ad (wE (Ah Z Z (Bv u1)) F S Z<|mv Z Z Z fun a F=>Ab (Ac ?_))))));refine ⟨_,Z,?_⟩;exact ⟨g4,F.s,(l3.trans l4),S.pm [1]⟩
      ·cases Am m;refine Ai F Z d4 (Cn (Bj (Bj (Ek (Ac ?_)))));obtain rfl:=f1 _ Z;exact ⟨g3,F.s,l3,S,j1⟩
    ·rintro a w ⟨g2,F,l2,S,m⟩;cases Am m;exact sr (wE (eB El) F S Z fun a F=>ws Z F S Z [.i6 0,.i6 0] Bc (on Z) 0 Z #[.i6 0,.i6 0] fun w S=>nn (Ax (po F Z (Ar (rA B7 [.i6 0,.i6 0] Bc 0 0 S) Bl) ⟨_,Z,g2,(l1.trans l2),S.t,Z⟩)))
theorem Mr {g:Gh} {fr:Hl} {w:World} {r:(List ByteArray)} (s_:(List ByteArray)) (vs_1:Value) (hs_1:RepSl g s_ vs_1) (S:St g [] fr w) (m:Kn s_=some r) :
  Calls Tryz.prog 36 [vs_1].toArray w (fun en w'=>∃ v,en=.returned v∧∃ (g':Gh) (v1:Value) (c1:Hl),Le g g'∧St g' [c1] fr w'∧OwnS g' r v1 c1∧v1=v):=by
 unfold Kn at m;refine An (fn:=Tryz.f36) Tryz.func36 Z Tryz.ntmps36 (lb Z) ?_;intro a F;replace F:Fr 8 a [(0,vs_1)]:=F;refine sr (wa1 Z F Z Z fun a F=>nn (Af (sr (wm Z F Z Z fun a F=>?_))));obtain ⟨nb1,hnb1,he1⟩:=ev_nileqlS (P:=Tryz.prog) (n:=8) (e:=[(3,vs_1),(2,A4),(0,vs_1)]) (C:=fun w=>St g [] fr w) (x:=.tmp 3) (y:=.const (A4)) hs_1 Ch Z Z;refine wE he1 F S Z fun a F=>Ab (Ac ?_);obtain ⟨d1,m⟩ | ⟨d1,m⟩:=nil_or hnb1 m
 ·cases Am m;refine Aj F Z d1 (sr (wa1 Z F Z Z fun a F=>nn (Ax (A1 ?_))));replace S:St g [[]] fr w:=S;exact po F Z (rT Z) ⟨_,Z,g,(A4),[],(Le.refl _),S,(OwnS.nil _),Z⟩
 ·refine Ai F Z d1 (Ao (Ac (Af (Ad ?_))));refine Ed (l:=([]:List ByteArray)) (vs:=[]) (parts:=[]) (wn Z) Z Z Z Ch te9 Ee Z (Cat.nil _) Dp Z F S Z Z ?_;rintro v1 c1 a w h1 F S;refine wm Z F Z Z fun a F=>?_;obtain ⟨cs1,hk1,o1⟩:=RepSl.reads hs_1;obtain ⟨y1,k1,m⟩:=Aa m;refine Dd (wn rfl) rfl Ch Ch te9 (by decide) (by decide) F S rfl rfl (k:=0) rfl h1 hk1 rfl (o1 _ _ S) k1 rfl rfl ?_;rintro v2 c2 a w h2 S F;replace S:St g [c2] fr w:=S;cases Am m;exact wa1 Z F Z Z fun a F=>nn (Ax (po F Z (rT Z) ⟨_,Z,g,v2,c2,(Le.refl _),S,h2,Z⟩))
theorem M0 {g:Gh} {fr:Hl} {w:World} {r:FileTree} (t_:FileTree) (vt_1:Value) (ht_1:RepSl g t_.Files vt_1) (S:St g [] fr w) (m:Cp t_=some r) :
  Calls Tryz.prog 20 [.agg #[vt_1]].toArray w (fun en w'=>∃ v,en=.returned v∧∃ (g':Gh) (v1:Value) (c1:Hl),Le g g'∧St g' [c1] fr w'∧OwnS g' r.Files v1 c1∧.agg #[v1]=v):=by
 unfold Cp at m;refine An (fn:=Tryz.f20) Tryz.func20 Z Tryz.ntmps20 (lb Z) ?_;intro a F;refine sr (wb Z Z Z F S Z fun b1 a w F S=>wA Z Mf [A4] F S Z fun b2 a w F S=>nq (wA Z Mf [A4] F S Z fun b3 a w F S=>nn (Cc (fun a w=>∃ (x1:List File) (v1:Value) (c1:Hl) (g1:Gh),Fr 26 a [(3,bp b3 0),(2,bp b2 0)]∧Le g g1∧St g1 [[bx b3 #[v1] 26],[bx b2 #[A4] 26],c1] fr w∧OwnS g1 x1 v1 c1∧Cp.j1 x1=some r) ?_ ?_)))
 ·obtain ⟨r1,o1,m⟩:=Aa m;refine sr (wE (eF Cz Ex Lc) F S Z<|Y (e1 Di vt_1 2 0) S Z<|Y (A6 ht_1 Z Di) S Z<|mv Z Z Z fun a F=>nn (Au ?_));have j1:=m;refine wj o1 (fun s a w=>match s with | (x2,x3)=>∃ (v2:Value) (c2:Hl) (g2:Gh),Fr 26 a [(9,.i6 x2),(8,.i6 (t_.Files.length:Int)),(7,vt_1),(3,bp b3 0),(2,bp b2 0)]∧Le g g2∧St g2 [[bx b3 #[v2] 26],[bx b2 #[A4] 26],c2] fr w∧OwnS g2 x3 v2 c2) ?_ ?_
  ·dsimp only;replace S:=S.e0;exact ⟨(A4),[],g,F.s,(Le.refl _),S.pm [1,2,0],(OwnS.nil _)⟩
  ·rintro ⟨x2,x3⟩ a w x4 ⟨v2,c2,g2,F,l2,S,h2⟩ t1 f1;have m:Cp.l1 t_ x2 x3=some x4:=t1;clear t1;unfold Cp.l1 at m;refine sr (wE (Ah Z Z (Cs _ _ _ _)) F S Z fun a F=>nn (Af ?_));obtain ⟨d1,m⟩ | ⟨d1,m⟩:=Al m
   ·obtain ⟨y1,k1,m⟩:=Aa m;refine Aj F Z d1 (Ao (Ac (Af (Au (Af (Ad ?_))))));obtain ⟨cs1,o2,p1⟩:=Dz (ht_1.mono l2) k1;obtain ⟨v3,rfl,h3⟩:=E8 o2;obtain ⟨y2,k2,m⟩:=Aa m;refine wE (B5 (ht_1.mono l2) k1 Di Gb Z Z) F S Z<|Y (Bi H1 Z (cs:=[.string y1.Path,v3]) Gb Z (Bm p1 (Le.refl _))) S Z fun a F=>wA Z tz75 [.string ByteArray.empty,A4] F S Z fun b4 a w F S=>ws Z F S Z [.string y1.Path,v3] Gb (Ag Z (Ag h3.one A2)) 0 Z #[.string y1.Path,v3] fun w S=>nn (Eb [] mo S fun i1 w S=>Bg i1 0 Z (eF Cz Ex Lc) F Z<|Dv i1 1 Z (e1 Di v2 1 0) S Z<|Dt i1 2 Z (eF H1 Lg ts9) Z<|Dv i1 3 Z (e1 tu9 (.string y1.Path) 0 0) S Z<|Dt i1 4 Z (eF H1 N9 Gt) Z<|Dv i1 5 Z (e1 Ch v3 0 1) S Z fun a F=>A9 i1 6 Z [(3,.string y1.Path),(1,v2)] ?_);refine wc F (Mr y1.Lines v3 h3 S.z k2) tc36 ?_;rintro _ a w ⟨g3,v4,c3,l3,S,h4,rfl⟩ F;replace S:=S.y1;refine Aw ⟨ye Z (e1 tu9 (.string y1.Path) 1 0) F S,ye Z (e1 Di v2 2 0) F S,trivial⟩ (Bg i1 7 Z (eB (tb75_0_1 y1.Path v4 (OwnS.isSl h4))) F Z fun a F=>A9 i1 8 Z [(1,v2)] ?_);obtain ⟨g4,l4,S,h5⟩:=S.fz 0 Z h4;refine Ed (l:=([({ Path:=y1.Path,Lines:=y2 }:File)]:List File)) (vs:=[.agg #[.string y1.Path,v4]]) (parts:=[(0,.tmp 20)]) (wn Z) Z Z Z Di te75 (Ci Z Ee) Z (Cat.cons (M8 (x:=({ Path:=y1.Path,Lines:=y2 }:File)) h5) (Cat.nil _)) (B0 Z Dp) Z F S Z Z ?_;rintro v5 c4 a w h6 F S;refine Aw ⟨ye Z (e1 Di v2 2 0) F S,trivial⟩ (A9 i1 9 Z [] ?_);obtain ⟨cs2,hk1,o3⟩:=OwnS.reads h6;obtain ⟨y3,k3,m⟩:=Aa m;refine Dd (wn rfl) rfl Di Di te75 (by decide) (by decide) F S rfl rfl (k:=4) rfl (h2.mono (l3.trans l4)) hk1 rfl (o3 _ _ _ 0 rfl S) k3 rfl rfl ?_;rintro v6 c5 a w h7 S F;replace S:=S.n5;obtain ⟨z1,u1,m⟩:=Aa m;cases Am m;refine Aw trivial (Bg i1 10 Z (eF Cz Ex Lc) F Z fun a F=>A9 i1 11 Z [] (En (wn Z) Z F S Z Z (vs:=[v6]) (OwnS.cl h7) Lc (Ag (OwnS.one h7) A2) (k:=2) Z (lb Z) (c':=#[v6]) Z Z fun w S=>Aw trivial (C4 i1 (Cf (Ac (Ad (wE (Ah Z Z (Bv u1)) F S Z<|mv Z Z Z fun a F=>Ab (Ac ?_))))))));refine ⟨_,Z,?_⟩
    dsimp only;exact ⟨v6,c5,g4,F.s,((l2.trans l3).trans l4),S.pm [2,3,4],h7⟩
   ·cases Am m;refine Ai F Z d1 (Cn (Bj (Bj (Ek (Ac ?_)))));obtain rfl:=f1 _ Z;exact ⟨x3,v2,c2,g2,F.s,l2,S,h2,j1⟩
 ·rintro a w ⟨x1,v1,c1,g1,F,l1,S,h1,m⟩;cases Am m;exact sr (wE (eA Cz [v1] Cm 0 0) F S Z fun a F=>ws Z F S Z [v1] Cm (Ag (OwnS.one h1) A2) 1 Z #[v1] fun w S=>nn (Ax (po F Z (Ar (rA Cz [v1] Cm 1 0 S) Bl) ⟨_,Z,g1,v1,c1,l1,S.pm [2],h1,Z⟩)))
theorem treepatch_Clash_ok {g:Gh} {fr:Hl} {w:World} {r:Bool} (files:(List File)) (vfiles1:Value) (hfiles1:RepSl g files vfiles1) (path:ByteArray) (except:Int) (S:St g [] fr w) (m:Ct files path except=some r) :
  Calls Tryz.prog 30 [vfiles1,.string path,.i6 except].toArray w (fun en w'=>∃ v,en=.returned v∧∃ (g':Gh),Le g g'∧St g' [] fr w'∧.bool r=v):=by
 unfold Ct at m;refine An (fn:=Tryz.f30) Tryz.func30 Z Tryz.ntmps30 (lb Z) ?_;intro a F;refine sr (wa1 Z F Z Z fun a F=>nn (Cc (fun a w=>∃ (g1:Gh),Fr 26 a []∧Le g g1∧St g1 [] fr w∧Ct.j1=some r) ?_ ?_))
 ·obtain ⟨r1,o1,m⟩:=Aa m;refine sr (wm Z F Z Z<|Y (A6 hfiles1 Z Di) S Z<|mv Z Z Z fun a F=>nn (Au ?_));have j1:=m;refine wj o1 (fun x1 a w=>∃ (g2:Gh),Fr 26 a [(11,.i6 x1),(10,.i6 (files.length:Int)),(9,vfiles1),(1,.string path),(2,.i6 except)]∧Le g g2∧St g2 [] fr w) ?_ ?_
  ·exact ⟨g,F.s,(Le.refl _),S⟩
  ·rintro x1 a w x2 ⟨g2,F,l2,S⟩ t1 f1;have m:Ct.l1 files path except x1=some x2:=t1;clear t1;unfold Ct.l1 at m;refine sr (wE (Ah Z Z (Cs _ _ _ _)) F S Z fun a F=>nn (Af ?_));obtain ⟨d1,m⟩ | ⟨d1,m⟩:=Al m
   ·obtain ⟨y1,k1,m⟩:=Aa m;refine Aj F Z d1 (Ao (Ac (Af (Au (sr (wm Z F Z Z fun a F=>?_))))));obtain ⟨cs1,o2,p1⟩:=Dz (hfiles1.mono l2) k1;obtain ⟨v1,rfl,h1⟩:=E8 o2;obtain ⟨x3,t2,m⟩:=Aa m;refine wE (B5 (hfiles1.mono l2) k1 Di Gb Z Z) F S Z<|Y (Bi H1 Z (cs:=[.string y1.Path,v1]) Gb Z (Bm p1 (Le.refl _))) S Z fun a F=>wA Z tz75 [.string ByteArray.empty,A4] F S Z fun b1 a w F S=>wa1 Z F Z Z fun a F=>ws Z F S Z [.string y1.Path,v1] Gb (Ag Z (Ag h1.one A2)) 0 Z #[.string y1.Path,v1] fun w S=>nq (wm Z F Z Z<|mv Z Z Z<|Y (Ah Z Z (Gw _ _ _ _)) S Z<|mv Z Z Z fun a F=>Ca 5 (fun a w=>∃ g3,Fr 26 a [(24,.bool x3),(11,.i6 x1),(10,.i6 (files.length:Int)),(9,vfiles1),(1,.string path),(2,.i6 except)]∧Le g2 g3∧St g3 [[bx b1 #[.string y1.Path,v1] 75]] fr w) ?_ ?_)
    ·clear m;obtain ⟨d2,m⟩ | ⟨d2,m⟩:=Al t2
     ·obtain ⟨y2,k2,m⟩:=Aa m;refine gE d2 (eF H1 Lg ts9) F S Z<|Ge d2 (e1 tu9 (.string y1.Path) 0 0) S Z<|Ge d2 (Ae Z) S Z fun a F=>?_;refine Cu (wg F Z Z Z Z d2) Z F Z (Lk y1.Path path S.z k2) Z tc45 Z Z ?_;rintro _ a w ⟨g4,l4,S,rfl⟩ F;replace S:=S.y;cases Am m;refine wE (A7 Z d2 Z) F S Z fun a F=>?_;exact Ab (Ac ⟨g4,F.s,l4,S⟩)
     ·cases Am m;refine wk (Az d2) F Z<|Wk (Az d2) Z<|Wk (Az d2) Z<|Wk (Az d2) Z<|Y (A5 Z d2 Z) S Z fun a F=>?_;exact Ab (Ac ⟨g2,F.s,(Le.refl _),S⟩)
    clear F S;rintro a w ⟨g3,F,l3,S⟩;refine Ab (Ac ?_);obtain ⟨d3,m⟩ | ⟨d3,m⟩:=Al m
    ·cases Am m;refine Aj F Z d3 (sr (wa1 Z F Z Z fun a F=>nn (Ax (Cg (A1 (A1 (Cg (A1 ?_))))))));obtain rfl:=f1 _ Z;have m:(some true:Option Bool)=some _:=j1;cases Am m;exact po F Z (rT Z) ⟨_,Z,g3,(l2.trans l3),S.t,Z⟩
    ·obtain ⟨z1,u1,m⟩:=Aa m;cases Am m;refine Ai F Z d3 (Ao (Cf (Ac (Ad (wE (Ah Z Z (Bv u1)) F S Z<|mv Z Z Z fun a F=>Ab (Ac ?_))))));refine ⟨_,Z,?_⟩;exact ⟨g3,F.s,(l2.trans l3),S.t⟩
   ·cases Am m;refine Ai F Z d1 (Cn (Bj (Bj (Ek (Ac ?_)))));obtain rfl:=f1 _ Z;exact ⟨g2,F.sub trivial,l2,S,j1⟩
 ·rintro a w ⟨g1,F,l1,S,m⟩;cases Am m;exact sr (wa1 Z F Z Z fun a F=>nn (Ax (po F Z (rT Z) ⟨_,Z,g1,l1,S,Z⟩)))
theorem Nv {g:Gh} {fr:Hl} {w:World} {r:Bool} (files:(List File)) (vfiles1:Value) (cfiles1:Hl) (hfiles1:OwnS g files vfiles1 cfiles1) (path:ByteArray) (except:Int) (S:St g [cfiles1] fr w) (m:Ct files path except=some r) :
  Calls Tryz.prog 30 [vfiles1,.string path,.i6 except].toArray w (fun en w'=>∃ v,en=.returned v∧∃ (g':Gh),Le g g'∧St g' [cfiles1] fr w'∧.bool r=v):=by
 unfold Ct at m;refine An (fn:=Tryz.f30) Tryz.func30 Z Tryz.ntmps30 (lb Z) ?_;intro a F;refine sr (wa1 Z F Z Z fun a F=>nn (Cc (fun a w=>∃ (g1:Gh),Fr 26 a []∧Le g g1∧St g1 [cfiles1] fr w∧Ct.j1=some r) ?_ ?_))
 ·obtain ⟨r1,o1,m⟩:=Aa m;refine sr (wm Z F Z Z<|Y (Ef hfiles1 Z Di) S Z<|mv Z Z Z fun a F=>nn (Au ?_));have j1:=m;refine wj o1 (fun x1 a w=>∃ (g2:Gh),Fr 26 a [(11,.i6 x1),(10,.i6 (files.length:Int)),(9,vfiles1),(1,.string path),(2,.i6 except)]∧Le g g2∧St g2 [cfiles1] fr w) ?_ ?_
  ·exact ⟨g,F.s,(Le.refl _),S⟩
  ·rintro x1 a w x2 ⟨g2,F,l2,S⟩ t1 f1;have m:Ct.l1 files path except x1=some x2:=t1;clear t1;unfold Ct.l1 at m;refine sr (wE (Ah Z Z (Cs _ _ _ _)) F S Z fun a F=>nn (Af ?_));obtain ⟨d1,m⟩ | ⟨d1,m⟩:=Al m
   ·obtain ⟨y1,k1,m⟩:=Aa m;refine Aj F Z d1 (Ao (Ac (Af (Au (sr (wm Z F Z Z<|Y (Es (hfiles1.mono l2) k1 Di Gb Z Z) S Z fun a F=>?_))))));obtain ⟨cs1,o2,q1⟩:=Hp (hfiles1.mono l2) k1;obtain ⟨v1,rfl,h1⟩:=E8 o2;obtain ⟨x3,t2,m⟩:=Aa m;refine wE (Bi H1 Z (cs:=[.string y1.Path,v1]) Gb Z (q1 _ _ 0 Z)) F S Z fun a F=>wA Z tz75 [.string ByteArray.empty,A4] F S Z fun b1 a w F S=>wa1 Z F Z Z fun a F=>ws Z F S Z [.string y1.Path,v1] Gb (Ag Z (Ag h1.one A2)) 0 Z #[.string y1.Path,v1] fun w S=>nq (wm Z F Z Z<|mv Z Z Z<|Y (Ah Z Z (Gw _ _ _ _)) S Z<|mv Z Z Z fun a F=>Ca 5 (fun a w=>∃ g3,Fr 26 a [(24,.bool x3),(11,.i6 x1),(10,.i6 (files.length:Int)),(9,vfiles1),(1,.string path),(2,.i6 except)]∧Le g2 g3∧St g3 [[bx b1 #[.string y1.Path,v1] 75],cfiles1] fr w) ?_ ?_)
    ·clear m;obtain ⟨d2,m⟩ | ⟨d2,m⟩:=Al t2
     ·obtain ⟨y2,k2,m⟩:=Aa m;refine gE d2 (eF H1 Lg ts9) F S Z<|Ge d2 (e1 tu9 (.string y1.Path) 0 0) S Z<|Ge d2 (Ae Z) S Z fun a F=>?_;refine Cu (wg F Z Z Z Z d2) Z F Z (Lk y1.Path path S.z k2) Z tc45 Z Z ?_;rintro _ a w ⟨g4,l4,S,rfl⟩ F;replace S:=S.y;cases Am m;refine wE (A7 Z d2 Z) F S Z fun a F=>?_;exact Ab (Ac ⟨g4,F.s,l4,S⟩)
     ·cases Am m;refine wk (Az d2) F Z<|Wk (Az d2) Z<|Wk (Az d2) Z<|Wk (Az d2) Z<|Y (A5 Z d2 Z) S Z fun a F=>?_;exact Ab (Ac ⟨g2,F.s,(Le.refl _),S⟩)
    clear F S;rintro a w ⟨g3,F,l3,S⟩;refine Ab (Ac ?_);obtain ⟨d3,m⟩ | ⟨d3,m⟩:=Al m
    ·cases Am m;refine Aj F Z d3 (sr (wa1 Z F Z Z fun a F=>nn (Ax (Cg (A1 (A1 (Cg (A1 ?_))))))));obtain rfl:=f1 _ Z;have m:(some true:Option Bool)=some _:=j1;cases Am m;exact po F Z (rT Z) ⟨_,Z,g3,(l2.trans l3),S.pm [1],Z⟩
    ·obtain ⟨z1,u1,m⟩:=Aa m;cases Am m;refine Ai F Z d3 (Ao (Cf (Ac (Ad (wE (Ah Z Z (Bv u1)) F S Z<|mv Z Z Z fun a F=>Ab (Ac ?_))))));refine ⟨_,Z,?_⟩;exact ⟨g3,F.s,(l2.trans l3),S.pm [1]⟩
   ·cases Am m;refine Ai F Z d1 (Cn (Bj (Bj (Ek (Ac ?_)))));obtain rfl:=f1 _ Z;exact ⟨g2,F.sub trivial,l2,S,j1⟩
 ·rintro a w ⟨g1,F,l1,S,m⟩;cases Am m;exact sr (wa1 Z F Z Z fun a F=>nn (Ax (po F Z (rT Z) ⟨_,Z,g1,l1,S,Z⟩)))
theorem Mm {g:Gh} {fr:Hl} {w:World} {r:Fault} (b_:(List ByteArray)) (vb_1:Value) (hb_1:RepSl g b_ vb_1) (index:Int) (S:St g [] fr w) (m:H9 b_ index=some r) :
  Calls Tryz.prog 31 [vb_1,.i6 index].toArray w (fun en w'=>∃ v,en=.returned v∧∃ (g':Gh),Le g g'∧St g' [] fr w'∧.agg #[.i6 r.Code,.i6 r.Index]=v):=by
 unfold H9 at m;refine An (fn:=Tryz.f31) Tryz.func31 Z Tryz.ntmps31 (lb Z) ?_;intro a F;obtain ⟨y1,k1,m⟩:=Aa m;refine sr (wA Z D5 [.i6 0,.i6 0] F S Z fun b1 a w F S=>nn (Af (sr (wm Z F Z Z fun a F=>?_))));refine wc F (M5 b_ vb_1 hb_1 S.z k1) tc46 ?_;rintro _ a w ⟨g1,l1,S,rfl⟩ F;replace S:=S.y;refine wA Z D5 [.i6 0,.i6 0] F S Z fun b2 a w F S=>ws Z F S Z [.i6 y1.Code,.i6 y1.Index] Bc (on Z) 0 Z #[.i6 y1.Code,.i6 y1.Index] fun w S=>nq (wE (eA B7 [.i6 y1.Code,.i6 y1.Index] Bc 0 0) F S Z<|Y (eB El) S Z<|Y (nE y1.Code y1.Index 0 0) S Z fun a F=>Ab (Ac ?_));obtain ⟨d1,m⟩ | ⟨d1,m⟩:=Al m
 ·cases Am m;exact Aj F Z d1 (sr (wE (eF B7 Ho ts3) F S Z<|Y (e1 tu3 (.i6 y1.Code) 0 0) S Z<|mv Z Z Z<|Y (eB (D6 y1.Code index)) S Z fun a F=>ws Z F S Z [.i6 y1.Code,.i6 index] Bc (on Z) 1 Z #[.i6 y1.Code,.i6 index] fun w S=>nn (rr (po F Z (Ar (rA B7 [.i6 y1.Code,.i6 index] Bc 1 0 S) Bl) ⟨_,Z,g1,l1,S.t,Z⟩))))
 ·cases Am m;exact Ai F Z d1 (Ao (Ac (sr (wE (eB El) F S Z fun a F=>ws Z F S Z [.i6 0,.i6 0] Bc (on Z) 1 Z #[.i6 0,.i6 0] fun w S=>nn (Ax (po F Z (Ar (rA B7 [.i6 0,.i6 0] Bc 1 0 S) Bl) ⟨_,Z,g1,l1,S.t,Z⟩))))))
end Go.Dc
