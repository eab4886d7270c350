import Derived.Test.YtmhjcomgbfonfaaGreatDoorDcTab
import Derived.Test.YtmhjcomgbfonfaaGreatDoorDcM
namespace Go.Dc
open Go Go.Proofs
set_option maxRecDepth 100000
set_option maxHeartbeats 4000000
set_option linter.unusedVariables false
theorem Ob {g:Gh} {fr:Hl} {w:World} {r:Bool} (a_:(List Arr2_Int)) (va_1:Value) (ha_1:RepSl g a_ va_1) (b_:(List Arr2_Int)) (vb_1:Value) (hb_1:RepSl g b_ vb_1) (S:St g [] fr w) (hm:B3 a_ b_=some r) :
  Calls Tryz.prog 13 [va_1,vb_1].toArray w (fun en w'=>∃ v,en=.returned v∧∃ (g':Gh),Le g g'∧St g' [] fr w'∧.bool r=v):=by
 unfold B3 at hm;refine A3 (fn:=Tryz.f13) Tryz.func13 Z Tryz.ntmps13 (lb Z) ?_;intro a F;replace F:Fr 26 a [(0,va_1),(1,vb_1)]:=F;refine Af (Aa (wE (Aj Z) F S Z fun a F=>Ab (Ac (Af (Af (Aa (wE (Ad Z) F S Z fun a F=>wE (Bt ha_1 Z tu28) F S Z fun a F=>wE (Ad Z) F S Z fun a F=>wE (Bt hb_1 Z tu28) F S Z fun a F=>wE (Ax Z Z (La _ _ _ _)) F S Z fun a F=>Ab (Ac ?_))))))));obtain ⟨hc1,hm⟩ | ⟨hc1,hm⟩:=Ay hm
 ·refine Av F Z hc1 (Af (Aa (wE (Aj Z) F S Z fun a F=>Ab (Ac (A6 (A8 ?_))))));obtain rfl:=Az hm;refine Bb _ F Z (Ao (Ct Z) A5) ?_;exact ⟨_,Z,g,(Le.refl _),S,Z⟩
 ·refine Aw F Z hc1 (A7 (Ac (C5 (fun a w=>∃ (g1:Gh),Fr 26 a []∧Le g g1∧St g1 [] fr w∧B3.j1=some r) ?_ ?_)))
  ·refine Af (Aa (wE (Aj Z) F S Z fun a F=>Ab (Ac (Be ?_))));obtain ⟨r1,hr1,hm⟩:=Ae hm;have hmo1:=hm;clear hm;refine Db (σ:=Int) (ρ:=Bool ⊕ Unit) (m:=fun s=>B3.l1 a_ b_ s) (I:=fun x1 a w=>∃ (g2:Gh),Fr 26 a [(5,.i6 x1),(0,va_1),(1,vb_1)]∧Le g g2∧St g2 [] fr w) hr1 ?_ ?_
   ·exact ⟨g,F.sub ⟨Z,Z,Z,trivial⟩,(Le.refl _),S⟩
   ·clear F S;rintro x1 a w x2 ⟨g2,F,l2,S⟩ hx1 hfin1;have hm:B3.l1 a_ b_ x1=some x2:=hx1;clear hx1;unfold B3.l1 at hm;refine Af (Af (Aa (wE (Ad Z) F S Z fun a F=>wE (Ad Z) F S Z fun a F=>wE (Bt ha_1 Z tu28) F S Z fun a F=>wE (Ax Z Z (Dj _ _ _ _)) F S Z fun a F=>Ab (Ac ?_))));obtain ⟨hc2,hm⟩ | ⟨hc2,hm⟩:=Ay hm
    ·refine Av F rfl hc2 (A7 (Ac (Af (Be (Af (En mo (by kernel_rfl) S (A4 (wn rfl) (Ad rfl) F rfl rfl fun a F=>A4 (wn rfl) (Ad rfl) F rfl rfl fun a F=>?_)))))));obtain ⟨y1,hy1,hm⟩:=Ae hm;obtain ⟨cs1,hr2,hp1⟩:=Ei (ha_1.mono l2) hy1;obtain rfl:=rep_Arr2_Int hr2;refine A4 (wn Z) (Df (ha_1.mono l2) hy1 tu28 ts40 Z Z) F Z Z fun a F=>A4 (wn Z) (Am tu40 Z (cs:=[.i6 y1.e0,.i6 y1.e1]) ts40 Z (Cx (cks:=[]) (fr:=fr) hp1 (Le.refl _))) F Z Z fun a F=>A4 (wn Z) (Ad Z) F Z Z fun a F=>A4 (wn Z) (Ad Z) F Z Z fun a F=>?_;obtain ⟨y2,hy2,hm⟩:=Ae hm;obtain ⟨cs2,hr3,hp2⟩:=Ei (hb_1.mono l2) hy2;obtain rfl:=rep_Arr2_Int hr3;refine A4 (wn Z) (Df (hb_1.mono l2) hy2 tu28 ts40 Z Z) F Z Z fun a F=>A4 (wn Z) (Am tu40 Z (cs:=[.i6 y2.e0,.i6 y2.e1]) ts40 Z (Cx (cks:=[]) (fr:=fr) hp2 (Le.refl _))) F Z Z fun a F=>A4 (wn Z) (ev_neA tu40 ts3 tqb40 (is:=[0,1]) Z (xs:=[.i6 y1.e0,.i6 y1.e1]) (ys:=[.i6 y2.e0,.i6 y2.e1]) Z Z ⟨_,_,Z,⟨_,_,Z,Z,Cg tu3⟩,⟨_,_,Z,⟨_,_,Z,Z,Cg tu3⟩,Z⟩⟩) F Z Z fun a F=>D5 fun w S=>Ac ?_;obtain ⟨hc3,hm⟩ | ⟨hc3,hm⟩:=Ay hm
     ·refine Av F Z hc3 (Af (Aa (wE (Aj Z) F S Z fun a F=>Ab (Ac (A6 (Cu (A8 (A8 (Cu (A8 ?_))))))))));obtain rfl:=Az hm;obtain rfl:=hfin1 _ Z;clear hm;have hm:(some false:Option Bool)=some _:=hmo1;obtain rfl:=Az hm;refine Bb _ F Z (Ao (Ct Z) A5) ?_;exact ⟨_,Z,g2,l2,S,Z⟩
     ·refine Aw F Z hc3 (A7 (C2 (Ac (Aa (wE (Ad Z) F S Z fun a F=>?_)))));obtain ⟨z1,hz1,hm⟩:=Ae hm;refine wE (Ax Z Z (Ce hz1)) F S Z fun a F=>wE (Aj Z) F S Z fun a F=>Ab (Ac ?_);obtain rfl:=Az hm;refine ⟨_,Z,?_⟩;exact ⟨g2,F.sub ⟨Z,Z,Z,trivial⟩,l2,S⟩
    ·refine Aw F Z hc2 (Dd (B6 (B6 (Eg (Ac ?_)))));obtain rfl:=Az hm;obtain rfl:=hfin1 _ Z;clear hm;have hm:(B3.j1:Option Bool)=some _:=hmo1;exact ⟨g2,F.sub trivial,l2,S,hm⟩
  ·clear F S hm;rintro a w ⟨g1,F,l1,S,hm⟩;refine Af (Aa (wE (Aj Z) F S Z fun a F=>Ab (Ac (A6 ?_))));obtain rfl:=Az hm;refine Bb _ F Z (Ao (Ct Z) A5) ?_;exact ⟨_,Z,g1,l1,S,Z⟩
end Go.Dc
