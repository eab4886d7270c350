import Derived.Test.YtecoobgddnhjfaaGreatDoorDcTab
import Derived.Test.YtecoobgddnhjfaaGreatDoorDcI
namespace Go.Dc
open Go Go.Proofs
set_option linter.unusedVariables false
theorem exL1 {α:Type} {l:List α} (h:l.length=1):∃ a0,l=[a0]:=by
  match l,h with
  | [a0],_=>exact ⟨a0,rfl⟩
theorem exL2 {α:Type} {l:List α} (h:l.length=2):∃ a0 a1,l=[a0,a1]:=by
  match l,h with
  | [a0,a1],_=>exact ⟨a0,a1,rfl⟩
theorem exL3 {α:Type} {l:List α} (h:l.length=3):∃ a0 a1 a2,l=[a0,a1,a2]:=by
  match l,h with
  | [a0,a1,a2],_=>exact ⟨a0,a1,a2,rfl⟩
theorem exL5 {α:Type} {l:List α} (h:l.length=5):∃ a0 a1 a2 a3 a4,l=[a0,a1,a2,a3,a4]:=by
  match l,h with
  | [a0,a1,a2,a3,a4],_=>exact ⟨a0,a1,a2,a3,a4,rfl⟩
theorem co3:Tryz.prog.cellsOf 3=1:=by kernel_rfl
theorem co9:Tryz.prog.cellsOf 9=1:=by kernel_rfl
theorem co22:Tryz.prog.cellsOf 22=1:=by kernel_rfl
theorem co24:Tryz.prog.cellsOf 24=1:=by kernel_rfl
theorem co25:Tryz.prog.cellsOf 25=1:=by kernel_rfl
theorem co27:Tryz.prog.cellsOf 27=1:=by kernel_rfl
theorem co43:Tryz.prog.cellsOf 43=1:=by kernel_rfl
theorem co53:Tryz.prog.cellsOf 53=2:=by kernel_rfl
theorem co64:Tryz.prog.cellsOf 64=3:=by kernel_rfl
theorem co65:Tryz.prog.cellsOf 65=1:=by kernel_rfl
theorem co67:Tryz.prog.cellsOf 67=1:=by kernel_rfl
theorem co69:Tryz.prog.cellsOf 69=5:=by kernel_rfl
instance:Msr File:=⟨fun x=>Msr.m x.Path+Msr.m x.Lines+1⟩
def Ok53 (x:File):Prop:=(fun s=>s.size≤9223372036854775807) x.Path∧(fun l=>l.length≤9223372036854775807∧∀ x∈l,(fun s=>s.size≤9223372036854775807) x) x.Lines
theorem rd53:Up Tryz.prog 53 File Ok53:=by
  intro H enc w fuel cs x ht;obtain ⟨hlen,n,ys,hx,hy,hf⟩:=Vh Lm ht;rw [co53] at hlen;obtain ⟨c0,c1,rfl⟩:=exL2 hlen;obtain ⟨y0,e0,t0⟩:=hf 0 0 9 (by kernel_rfl)
  rw [co9] at t0;obtain ⟨d0,r0,k0,m0⟩:=(Xj tu9) H enc w n [c0] _ t0;obtain rfl:=(List.cons.inj (Kk r0)).1;obtain ⟨y1,e1,t1⟩:=hf 1 1 43 (by kernel_rfl)
  rw [co43] at t1;obtain ⟨d1,r1,k1,m1⟩:=(U8 Ct (by kernel_rfl) (by decide) (Xj tu9)) H enc w n [c1] _ t1
  obtain ⟨v1,q1,s1⟩:=Vs r1;obtain rfl:=(List.cons.inj q1).1;refine ⟨⟨d0,d1⟩,Kr s1,⟨k0,k1⟩,fun B BA hB=>?_⟩;rw [hx];have hg:=hB.agg (ys.map (·.1));obtain ⟨w0,w1,rfl⟩:=exL2 (hy.trans (show _=2 from by kernel_rfl))
  obtain rfl:w0=y0:=Option.some.inj e0;have p0:=m0 B BA hB;have g0:=hB.cons w0.1 [w1.1];obtain rfl:w1=y1:=Option.some.inj e1;have p1:=m1 B BA hB;have g1:=hB.cons w1.1 [];have hg:BA [w0.1,w1.1]+1≤B (.agg [w0.1,w1.1]):=hg;show Msr.m d0+Msr.m d1+1≤B (.agg [w0.1,w1.1]);omega
instance:Msr FileTree:=⟨fun x=>Msr.m x.Files+1⟩
def Ok24 (x:FileTree):Prop:=(fun l=>l.length≤9223372036854775807∧∀ x∈l,Ok53 x) x.Files
theorem rd24:Up Tryz.prog 24 FileTree Ok24:=by
  intro H enc w fuel cs x ht;obtain ⟨hlen,n,ys,hx,hy,hf⟩:=Vh El ht;rw [co24] at hlen;obtain ⟨c0,rfl⟩:=exL1 hlen;obtain ⟨y0,e0,t0⟩:=hf 0 0 22 (by kernel_rfl)
  rw [co22] at t0;obtain ⟨d0,r0,k0,m0⟩:=(U8 Cr (by kernel_rfl) (by decide) rd53) H enc w n [c0] _ t0
  obtain ⟨v0,q0,s0⟩:=Vs r0;obtain rfl:=(List.cons.inj q0).1;refine ⟨⟨d0⟩,Uy s0,k0,fun B BA hB=>?_⟩;rw [hx];have hg:=hB.agg (ys.map (·.1));obtain ⟨w0,rfl⟩:=exL1 (hy.trans (show _=1 from by kernel_rfl))
  obtain rfl:w0=y0:=Option.some.inj e0;have p0:=m0 B BA hB;have g0:=hB.cons w0.1 [];have hg:BA [w0.1]+1≤B (.agg [w0.1]):=hg;show Msr.m d0+1≤B (.agg [w0.1]);omega
instance:Msr Hunk:=⟨fun x=>Msr.m x.At+Msr.m x.Old+Msr.m x.New+1⟩
def Ok64 (x:Hunk):Prop:=(fun x=>-9223372036854775808≤x∧x≤9223372036854775807) x.At∧(fun l=>l.length≤9223372036854775807∧∀ x∈l,(fun s=>s.size≤9223372036854775807) x) x.Old∧(fun l=>l.length≤9223372036854775807∧∀ x∈l,(fun s=>s.size≤9223372036854775807) x) x.New
theorem rd64:Up Tryz.prog 64 Hunk Ok64:=by
  intro H enc w fuel cs x ht;obtain ⟨hlen,n,ys,hx,hy,hf⟩:=Vh Lf ht;rw [co64] at hlen;obtain ⟨c0,c1,c2,rfl⟩:=exL3 hlen;obtain ⟨y0,e0,t0⟩:=hf 0 0 3 (by kernel_rfl)
  rw [co3] at t0;obtain ⟨d0,r0,k0,m0⟩:=(read_int tu3) H enc w n [c0] _ t0;obtain rfl:=(List.cons.inj (Q0 r0)).1;obtain ⟨y1,e1,t1⟩:=hf 1 1 43 (by kernel_rfl)
  rw [co43] at t1;obtain ⟨d1,r1,k1,m1⟩:=(U8 Ct (by kernel_rfl) (by decide) (Xj tu9)) H enc w n [c1] _ t1
  obtain ⟨v1,q1,s1⟩:=Vs r1;obtain rfl:=(List.cons.inj q1).1;obtain ⟨y2,e2,t2⟩:=hf 2 2 43 (by kernel_rfl)
  rw [co43] at t2;obtain ⟨d2,r2,k2,m2⟩:=(U8 Ct (by kernel_rfl) (by decide) (Xj tu9)) H enc w n [c2] _ t2
  obtain ⟨v2,q2,s2⟩:=Vs r2;obtain rfl:=(List.cons.inj q2).1;refine ⟨⟨d0,d1,d2⟩,X7 s1 s2,⟨k0,k1,k2⟩,fun B BA hB=>?_⟩;rw [hx];have hg:=hB.agg (ys.map (·.1));obtain ⟨w0,w1,w2,rfl⟩:=exL3 (hy.trans (show _=3 from by kernel_rfl))
  obtain rfl:w0=y0:=Option.some.inj e0;have p0:=m0 B BA hB;have g0:=hB.cons w0.1 [w1.1,w2.1];obtain rfl:w1=y1:=Option.some.inj e1;have p1:=m1 B BA hB;have g1:=hB.cons w1.1 [w2.1];obtain rfl:w2=y2:=Option.some.inj e2;have p2:=m2 B BA hB;have g2:=hB.cons w2.1 [];have hg:BA [w0.1,w1.1,w2.1]+1≤B (.agg [w0.1,w1.1,w2.1]):=hg;show Msr.m d0+Msr.m d1+Msr.m d2+1≤B (.agg [w0.1,w1.1,w2.1]);omega
instance:Msr Patch:=⟨fun x=>Msr.m x.Hunks+1⟩
def Ok67 (x:Patch):Prop:=(fun l=>l.length≤9223372036854775807∧∀ x∈l,Ok64 x) x.Hunks
theorem rd67:Up Tryz.prog 67 Patch Ok67:=by
  intro H enc w fuel cs x ht;obtain ⟨hlen,n,ys,hx,hy,hf⟩:=Vh Kl ht;rw [co67] at hlen;obtain ⟨c0,rfl⟩:=exL1 hlen;obtain ⟨y0,e0,t0⟩:=hf 0 0 65 (by kernel_rfl)
  rw [co65] at t0;obtain ⟨d0,r0,k0,m0⟩:=(U8 Gx (by kernel_rfl) (by decide) rd64) H enc w n [c0] _ t0
  obtain ⟨v0,q0,s0⟩:=Vs r0;obtain rfl:=(List.cons.inj q0).1;refine ⟨⟨d0⟩,rep_Patch_mk s0,k0,fun B BA hB=>?_⟩;rw [hx];have hg:=hB.agg (ys.map (·.1));obtain ⟨w0,rfl⟩:=exL1 (hy.trans (show _=1 from by kernel_rfl))
  obtain rfl:w0=y0:=Option.some.inj e0;have p0:=m0 B BA hB;have g0:=hB.cons w0.1 [];have hg:BA [w0.1]+1≤B (.agg [w0.1]):=hg;show Msr.m d0+1≤B (.agg [w0.1]);omega
instance:Msr TreeChange:=⟨fun x=>Msr.m x.Kind+Msr.m x.Path+Msr.m x.To+Msr.m x.Lines+Msr.m x.Patch+1⟩
def Ok69 (x:TreeChange):Prop:=(fun x=>-9223372036854775808≤x∧x≤9223372036854775807) x.Kind∧(fun s=>s.size≤9223372036854775807) x.Path∧(fun s=>s.size≤9223372036854775807) x.To∧(fun l=>l.length≤9223372036854775807∧∀ x∈l,(fun s=>s.size≤9223372036854775807) x) x.Lines∧Ok67 x.Patch
theorem rd69:Up Tryz.prog 69 TreeChange Ok69:=by
  intro H enc w fuel cs x ht;obtain ⟨hlen,n,ys,hx,hy,hf⟩:=Vh E8 ht;rw [co69] at hlen;obtain ⟨c0,c1,c2,c3,c4,rfl⟩:=exL5 hlen;obtain ⟨y0,e0,t0⟩:=hf 0 0 3 (by kernel_rfl)
  rw [co3] at t0;obtain ⟨d0,r0,k0,m0⟩:=(read_int tu3) H enc w n [c0] _ t0;obtain rfl:=(List.cons.inj (Q0 r0)).1;obtain ⟨y1,e1,t1⟩:=hf 1 1 9 (by kernel_rfl)
  rw [co9] at t1;obtain ⟨d1,r1,k1,m1⟩:=(Xj tu9) H enc w n [c1] _ t1;obtain rfl:=(List.cons.inj (Kk r1)).1;obtain ⟨y2,e2,t2⟩:=hf 2 2 9 (by kernel_rfl)
  rw [co9] at t2;obtain ⟨d2,r2,k2,m2⟩:=(Xj tu9) H enc w n [c2] _ t2;obtain rfl:=(List.cons.inj (Kk r2)).1;obtain ⟨y3,e3,t3⟩:=hf 3 3 43 (by kernel_rfl)
  rw [co43] at t3;obtain ⟨d3,r3,k3,m3⟩:=(U8 Ct (by kernel_rfl) (by decide) (Xj tu9)) H enc w n [c3] _ t3
  obtain ⟨v3,q3,s3⟩:=Vs r3;obtain rfl:=(List.cons.inj q3).1;obtain ⟨y4,e4,t4⟩:=hf 4 4 67 (by kernel_rfl)
  rw [co67] at t4;obtain ⟨d4,r4,k4,m4⟩:=rd67 H enc w n [c4] _ t4;obtain ⟨v4_0,q4,s4_0⟩:=rep_Patch r4;simp only [List.cons.injEq,and_true] at q4;obtain rfl:=q4;refine ⟨⟨d0,d1,d2,d3,d4⟩,Nw s3 s4_0,⟨k0,k1,k2,k3,k4⟩,fun B BA hB=>?_⟩;rw [hx];have hg:=hB.agg (ys.map (·.1));obtain ⟨w0,w1,w2,w3,w4,rfl⟩:=exL5 (hy.trans (show _=5 from by kernel_rfl))
  obtain rfl:w0=y0:=Option.some.inj e0;have p0:=m0 B BA hB;have g0:=hB.cons w0.1 [w1.1,w2.1,w3.1,w4.1];obtain rfl:w1=y1:=Option.some.inj e1;have p1:=m1 B BA hB;have g1:=hB.cons w1.1 [w2.1,w3.1,w4.1];obtain rfl:w2=y2:=Option.some.inj e2;have p2:=m2 B BA hB;have g2:=hB.cons w2.1 [w3.1,w4.1];obtain rfl:w3=y3:=Option.some.inj e3;have p3:=m3 B BA hB;have g3:=hB.cons w3.1 [w4.1];obtain rfl:w4=y4:=Option.some.inj e4;have p4:=m4 B BA hB;have g4:=hB.cons w4.1 [];have hg:BA [w0.1,w1.1,w2.1,w3.1,w4.1]+1≤B (.agg [w0.1,w1.1,w2.1,w3.1,w4.1]):=hg;show Msr.m d0+Msr.m d1+Msr.m d2+Msr.m d3+Msr.m d4+1≤B (.agg [w0.1,w1.1,w2.1,w3.1,w4.1]);omega
instance:Msr TreePatch:=⟨fun x=>Msr.m x.Changes+1⟩
def Ok27 (x:TreePatch):Prop:=(fun l=>l.length≤9223372036854775807∧∀ x∈l,Ok69 x) x.Changes
theorem rd27:Up Tryz.prog 27 TreePatch Ok27:=by
  intro H enc w fuel cs x ht;obtain ⟨hlen,n,ys,hx,hy,hf⟩:=Vh Tm ht;rw [co27] at hlen;obtain ⟨c0,rfl⟩:=exL1 hlen;obtain ⟨y0,e0,t0⟩:=hf 0 0 25 (by kernel_rfl)
  rw [co25] at t0;obtain ⟨d0,r0,k0,m0⟩:=(U8 Tu (by kernel_rfl) (by decide) rd69) H enc w n [c0] _ t0
  obtain ⟨v0,q0,s0⟩:=Vs r0;obtain rfl:=(List.cons.inj q0).1;refine ⟨⟨d0⟩,rep_TreePatch_mk s0,k0,fun B BA hB=>?_⟩;rw [hx];have hg:=hB.agg (ys.map (·.1));obtain ⟨w0,rfl⟩:=exL1 (hy.trans (show _=1 from by kernel_rfl))
  obtain rfl:w0=y0:=Option.some.inj e0;have p0:=m0 B BA hB;have g0:=hB.cons w0.1 [];have hg:BA [w0.1]+1≤B (.agg [w0.1]):=hg;show Msr.m d0+1≤B (.agg [w0.1]);omega
end Go.Dc
