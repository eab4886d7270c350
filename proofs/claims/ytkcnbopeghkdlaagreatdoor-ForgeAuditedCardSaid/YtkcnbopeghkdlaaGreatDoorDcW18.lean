import Derived.Test.YtkcnbopeghkdlaaGreatDoorDcTab
import Derived.Test.YtkcnbopeghkdlaaGreatDoorDcM
import Derived.Test.YtkcnbopeghkdlaaGreatDoorDcW14
set_option linter.unusedSimpArgs false
namespace Go.Dc
open Go Go.Proofs
set_option maxRecDepth 100000
set_option maxHeartbeats 4000000
set_option linter.unusedVariables false
theorem Vn {g:Gh} {fr:Hl} {w:World} {r:Fault} (proof:(List Int)) (vproof1:Value) (hproof1:RepSl g proof vproof1) (S:St g [] fr w) (m:Mh proof=some r) :
  Calls Tryz.prog 34 [vproof1].toArray w (fun en w'=>∃ v,en=.returned v∧∃ (g':Gh),Le g g'∧St g' [] fr w'∧.agg #[.i6 r.Code,.i6 r.Index]=v):=by
 unfold Mh at m;refine Av (fn:=Tryz.f34) Tryz.func34 Z Tryz.ntmps34 (lb Z) ?_;intro a F;refine sr (wA Z Gn [.i6 0,.i6 0] F S Z fun b1 a w F S=>nn (An (sr (wm Z F Z Z<|Y (Bo hproof1 Z Hg) S Z<|Y (Aj Z Z (Kw _ _ _ _)) S Z fun a F=>Ac (Ad ?_)))));obtain ⟨d1,m⟩ | ⟨d1,m⟩:=Aq m
 ·obtain rfl:=As m;exact Al F Z d1 (sr (wE (eB (Gi 2 (-1))) F S Z fun a F=>ws Z F S Z [.i6 2,.i6 (-1)] Bk (on Z) 0 Z #[.i6 2,.i6 (-1)] fun w S=>nn (rr (po F Z (A1 (rA Cj [.i6 2,.i6 (-1)] Bk 0 0 S) B6) ⟨_,Z,g,(Le.refl _),S.t,Z⟩))))
 ·obtain ⟨y1,k1,m⟩:=Ab m;refine Ak F Z d1 (Ax (Ad (sr (wm Z F Z Z fun a F=>?_))));refine wc F (W8 4 proof vproof1 hproof1 S.z k1) tc49 ?_;rintro _ a w ⟨g1,l1,S,rfl⟩ F;replace S:=S.y;obtain rfl:=As m;exact ws Z F S Z [.i6 y1.Code,.i6 y1.Index] Bk (on Z) 0 Z #[.i6 y1.Code,.i6 y1.Index] fun w S=>nn (A9 (po F Z (A1 (rA Cj [.i6 y1.Code,.i6 y1.Index] Bk 0 0 S) B6) ⟨_,Z,g1,l1,S.t,Z⟩))
theorem Lu {g:Gh} {fr:Hl} {w:World} {r:Int×Reader_translog} (br_:Nat) (r_:Reader_translog) (vr_1:Value) (hr_1:RepSl g r_.proof vr_1) (S:St g [[bx br_ #[vr_1,.bool r_.short] 84]] fr w) (m:Ka r_=some r) :
  Calls Tryz.prog 53 [bp br_ 0].toArray w (fun en w'=>∃ v,en=.returned v∧∃ (g':Gh) (v1:Value),Le g g'∧St g' [[bx br_ #[v1,.bool r.2.short] 84]] fr w'∧RepSl g' r.2.proof v1∧.i6 r.1=v):=by
 unfold Ka at m;refine Av (fn:=Tryz.f53) Tryz.func53 Z Tryz.ntmps53 (lb Z) ?_;intro a F;refine sr (wa1 Z F Z Z fun a F=>nn (An (sr (wm Z F Z Z<|Y (Eh Z) S Z<|Y (eF tu84 tf84_0 ts22) S Z<|Y (e1 Hg vr_1 0 0) S Z<|Y (Bo hr_1 Z Hg) S Z<|Y (Aj Z Z (Ej _ _ _ _)) S Z fun a F=>Ac (Ad ?_)))));obtain ⟨d1,m⟩ | ⟨d1,m⟩:=Aq m
 ·cases As m;exact Al F Z d1 (sr (wm Z F Z Z<|Y (Eh Z) S Z<|Y (eF tu84 tf84_1 ts4) S Z fun a F=>ws Z F S Z [.bool true] ts4 (on Z) 0 Z #[vr_1,.bool true] fun w S=>nq (wa1 Z F Z Z fun a F=>nn (rr (po F Z (rT Z) ⟨_,Z,g,vr_1,(Le.refl _),S,hr_1,Z⟩)))))
 ·obtain ⟨y1,k1,m⟩:=Ab m;refine Ak F Z d1 (Ax (Ad (sr (wm Z F Z Z<|Y (Eh Z) S Z<|Y (eF tu84 tf84_0 ts22) S Z<|Y (e1 Hg vr_1 0 0) S Z fun a F=>?_))));obtain ⟨cs1,o1,p1⟩:=Hq hr_1 k1;obtain rfl:=Nc o1;obtain ⟨y2,k2,m⟩:=Ab m;refine wE (Dr hr_1 k1 Hg ts3 Z Z) F S Z<|Y (Ce tu3 Z Z (Ci p1 (Le.refl _))) S Z<|ma Z Z Z fun a F=>nq (wm Z F Z Z<|mv Z Z Z<|Y (Eh Z) S Z<|Y (eF tu84 tf84_0 ts22) S Z<|Y (e1 Hg vr_1 0 0) S Z fun a F=>?_);refine Yb (wn Z) Z hr_1 k2 Hg ts3 Z (Uh Z) (Y3 _) F Z Z ?_;rintro v1 h1 a F;cases As m;exact wE (Eh Z) F S Z<|Y (eF tu84 tf84_0 ts22) S Z fun a F=>H7 (wn Z) Z F S Z Z (vs:=[v1]) (RepSl.cl h1) ts22 (Ap h1.one Bu) (k:=0) Z (lb Z) (c':=#[v1,.bool r_.short]) Z Z fun w S=>nq (wm Z F Z Z<|ma Z Z Z fun a F=>nn (A9 (po F Z (rT Z) ⟨_,Z,g,v1,(Le.refl _),S,h1,Z⟩)))
theorem Up {g:Gh} {fr:Hl} {w:World} {r:Bool} (br_:Nat) (r_:Reader_translog) (vr_1:Value) (hr_1:RepSl g r_.proof vr_1) (S:St g [[bx br_ #[vr_1,.bool r_.short] 84]] fr w) (m:Mn r_=some r) :
  Calls Tryz.prog 36 [bp br_ 0].toArray w (fun en w'=>∃ v,en=.returned v∧∃ (g':Gh),Le g g'∧St g' [[bx br_ #[vr_1,.bool r_.short] 84]] fr w'∧.bool r=v):=by
 unfold Mn at m;refine Av (fn:=Tryz.f36) Tryz.func36 Z Tryz.ntmps36 (lb Z) ?_;intro a F;obtain ⟨x1,t1,m⟩:=Ab m;refine sr (wa1 Z F Z Z fun a F=>nq (wm Z F Z Z<|Y (Eh Z) S Z<|Y (eF tu84 tf84_1 ts4) S Z<|Y (e1 tu4 (.bool r_.short) 0 1) S Z<|Y (Ke Z) S Z<|mv Z Z Z fun a F=>Db 7 (fun a w'=>w=w'∧Fr 16 a [(15,.bool x1),(2,.bool false),(0,bp br_ 0)]) ?_ ?_))
 ·clear m;obtain ⟨d1,m⟩ | ⟨d1,m⟩:=Aq t1
  ·cases As m;refine gE d1 (Ah Z) F S Z<|Ge d1 (Eh Z) S Z<|Ge d1 (eF tu84 tf84_0 ts22) S Z<|Ge d1 (e1 Hg vr_1 0 0) S Z<|Ge d1 (Bo hr_1 Z Hg) S Z<|Ge d1 (Aj Z Z (Ej _ _ _ _)) S Z<|Y (Bq Z d1 Z) S Z fun a F=>?_;exact Ac (Ad ⟨Z,F.s⟩)
  ·cases As m;refine wk (Bh d1) F Z<|Wk (Bh d1) Z<|Wk (Bh d1) Z<|Wk (Bh d1) Z<|Wk (Bh d1) Z<|Wk (Bh d1) Z<|Y (Bp Z d1 Z) S Z fun a F=>?_;exact Ac (Ad ⟨Z,F.s⟩)
 clear F;rintro a w' ⟨rfl,F⟩;cases As m;exact wa1 Z F Z Z fun a F=>nn (A9 (po F Z (rT Z) ⟨_,Z,g,(Le.refl _),S,Z⟩))
end Go.Dc
