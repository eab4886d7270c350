import Derived.Test.YtmmegcjbdkaffaaGreatDoorDcTab
import Derived.Test.YtmmegcjbdkaffaaGreatDoorDcM
set_option linter.unusedSimpArgs false
namespace Go.Dc
open Go Go.Proofs
set_option maxRecDepth 100000
set_option maxHeartbeats 4000000
set_option linter.unusedVariables false
theorem Hc {g:Gh} {fr:Hl} {w:World} {r:(List ForgeEvent)} (l_:(List ForgeEvent)) (vl_1:Value) (hl_1:RepSl g l_ vl_1) (more:(List ForgeEvent)) (vmore1:Value) (hmore1:RepSl g more vmore1) (S:St g [] fr w) (m:Ei l_ more=some r) :
  Calls Tryz.prog 14 [vl_1,vmore1].toArray w (fun en w'=>∃ v,en=.returned v∧∃ (g':Gh) (v1:Value) (c1:Hl),Le g g'∧St g' [c1] fr w'∧OwnS g' r v1 c1∧v1=v):=by
 unfold Ei at m;refine An (fn:=Tryz.f14) Tryz.func14 Z Tryz.ntmps14 (lb Z) ?_;intro a F;refine sr (wa1 Z F Z Z fun a F=>nn (Af (Ad ?_)));refine Ed (l:=([]:List ForgeEvent)) (vs:=[]) (parts:=[]) (wn Z) Z Z Z Ls te44 Ee Z (Cat.nil _) Dp Z F S Z Z ?_;rintro v1 c1 a w h1 F S;refine wm Z F Z Z fun a F=>?_;obtain ⟨cs1,hk1,o1⟩:=RepSl.reads hl_1;obtain ⟨y1,k1,m⟩:=Aa m;refine Dd (wn rfl) rfl Ls Ls te44 (by decide) (by decide) F S rfl rfl (k:=0) rfl h1 hk1 rfl (o1 _ _ S) k1 rfl rfl ?_;rintro v2 c2 a w h2 S F;replace S:=S.n1;refine wm Z F Z Z fun a F=>?_;obtain ⟨cs2,hk2,o2⟩:=RepSl.reads hmore1;obtain ⟨y2,k2,m⟩:=Aa m;refine Dd (wn rfl) rfl Ls Ls te44 (by decide) (by decide) F S rfl rfl (k:=0) rfl h2 hk2 rfl (o2 _ _ S) k2 rfl rfl ?_;rintro v3 c3 a w h3 S F;replace S:=S.n1;cases Am m;exact wa1 Z F Z Z fun a F=>nn (Ax (po F Z (rT Z) ⟨_,Z,g,v3,c3,(Le.refl _),S,h3,Z⟩))
theorem G6 {g:Gh} {fr:Hl} {w:World} {r:Int} (l_:(List Int)) (vl_1:Value) (hl_1:RepSl g l_ vl_1) (S:St g [] fr w) (m:Em l_=some r) :
  Calls Tryz.prog 15 [vl_1].toArray w (fun en w'=>∃ v,en=.returned v∧∃ (g':Gh),Le g g'∧St g' [] fr w'∧.i6 r=v):=by
 unfold Em at m;refine An (fn:=Tryz.f15) Tryz.func15 Z Tryz.ntmps15 (lb Z) ?_;intro a F;refine sr (wa1 Z F Z Z fun a F=>nn (Af (sr (wm Z F Z Z<|Y (A6 hl_1 Z Gn) S Z<|Y (Ah Z Z (C3 _ _ _ _)) S Z fun a F=>Ab (Ac ?_)))));obtain ⟨d1,m⟩ | ⟨d1,m⟩:=Al m
 ·cases Am m;exact Aj F Z d1 (sr (wa1 Z F Z Z fun a F=>nn (rr (po F Z (rT Z) ⟨_,Z,g,(Le.refl _),S,Z⟩))))
 ·obtain ⟨z1,u1,m⟩:=Aa m;obtain ⟨y1,k1,m⟩:=Aa m;refine Ai F Z d1 (Ao (Ac (sr (wm Z F Z Z<|mv Z Z Z<|Y (A6 hl_1 Z Gn) S Z<|Y (Ah Z Z (Hi u1)) S Z fun a F=>?_))));obtain ⟨cs1,o1,p1⟩:=Dz hl_1 k1;obtain rfl:=H6 o1;cases Am m;exact wE (B5 hl_1 k1 Gn ts3 Z Z) F S Z<|Y (A3 tu3 Z Z (Bm p1 (Le.refl _))) S Z<|ma Z Z Z fun a F=>nn (Ax (po F Z (rT Z) ⟨_,Z,g,(Le.refl _),S,Z⟩))
end Go.Dc
