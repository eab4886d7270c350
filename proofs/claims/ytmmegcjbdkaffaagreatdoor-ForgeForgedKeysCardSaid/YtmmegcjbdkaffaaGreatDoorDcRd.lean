import Derived.Test.YtmmegcjbdkaffaaGreatDoorDcTab
import Derived.Test.YtmmegcjbdkaffaaGreatDoorDcI
namespace Go.Dc
open Go Go.Proofs
set_option linter.unusedVariables false
theorem exL1 {α:Type} {l:List α} (h:l.length=1):∃ a0,l=[a0]:=by
  match l,h with
  | [a0],_=>exact ⟨a0,rfl⟩
theorem exL3 {α:Type} {l:List α} (h:l.length=3):∃ a0 a1 a2,l=[a0,a1,a2]:=by
  match l,h with
  | [a0,a1,a2],_=>exact ⟨a0,a1,a2,rfl⟩
theorem exL5 {α:Type} {l:List α} (h:l.length=5):∃ a0 a1 a2 a3 a4,l=[a0,a1,a2,a3,a4]:=by
  match l,h with
  | [a0,a1,a2,a3,a4],_=>exact ⟨a0,a1,a2,a3,a4,rfl⟩
theorem co3:Tryz.prog.cellsOf 3=1:=by kernel_rfl
theorem co9:Tryz.prog.cellsOf 9=1:=by kernel_rfl
theorem co35:Tryz.prog.cellsOf 35=1:=by kernel_rfl
theorem co37:Tryz.prog.cellsOf 37=1:=by kernel_rfl
theorem co44:Tryz.prog.cellsOf 44=5:=by kernel_rfl
theorem co62:Tryz.prog.cellsOf 62=1:=by kernel_rfl
theorem co63:Tryz.prog.cellsOf 63=1:=by kernel_rfl
theorem co65:Tryz.prog.cellsOf 65=1:=by kernel_rfl
theorem co67:Tryz.prog.cellsOf 67=5:=by kernel_rfl
theorem co115:Tryz.prog.cellsOf 115=3:=by kernel_rfl
instance:Msr Hunk:=⟨fun x=>Msr.m x.At+Msr.m x.Old+Msr.m x.New+1⟩
def Ok115 (x:Hunk):Prop:=(fun x=>-9223372036854775808≤x∧x≤9223372036854775807) x.At∧(fun l=>l.length≤9223372036854775807∧∀ x∈l,(fun s=>s.size≤9223372036854775807) x) x.Old∧(fun l=>l.length≤9223372036854775807∧∀ x∈l,(fun s=>s.size≤9223372036854775807) x) x.New
theorem rd115:Om Tryz.prog 115 Hunk Ok115:=by
  intro H enc w fuel cs x ht;obtain ⟨hlen,n,ys,hx,hy,hf⟩:=Qx Gm ht;rw [co115] at hlen;obtain ⟨c0,c1,c2,rfl⟩:=exL3 hlen;obtain ⟨y0,e0,t0⟩:=hf 0 0 3 (by kernel_rfl)
  rw [co3] at t0;obtain ⟨d0,r0,k0,m0⟩:=(Kk tu3) H enc w n [c0] _ t0;obtain rfl:=(List.cons.inj (H6 r0)).1;obtain ⟨y1,e1,t1⟩:=hf 1 1 62 (by kernel_rfl)
  rw [co62] at t1;obtain ⟨d1,r1,k1,m1⟩:=(Gj Ch (by kernel_rfl) (by decide) (read_str tu9)) H enc w n [c1] _ t1
  obtain ⟨v1,q1,s1⟩:=T3 r1;obtain rfl:=(List.cons.inj q1).1;obtain ⟨y2,e2,t2⟩:=hf 2 2 62 (by kernel_rfl)
  rw [co62] at t2;obtain ⟨d2,r2,k2,m2⟩:=(Gj Ch (by kernel_rfl) (by decide) (read_str tu9)) H enc w n [c2] _ t2
  obtain ⟨v2,q2,s2⟩:=T3 r2;obtain rfl:=(List.cons.inj q2).1;refine ⟨⟨d0,d1,d2⟩,rep_Hunk_mk s1 s2,⟨k0,k1,k2⟩,fun B BA hB=>?_⟩;rw [hx];have hg:=hB.agg (ys.map (·.1));obtain ⟨w0,w1,w2,rfl⟩:=exL3 (hy.trans (show _=3 from by kernel_rfl))
  obtain rfl:w0=y0:=Option.some.inj e0;have p0:=m0 B BA hB;have g0:=hB.cons w0.1 [w1.1,w2.1];obtain rfl:w1=y1:=Option.some.inj e1;have p1:=m1 B BA hB;have g1:=hB.cons w1.1 [w2.1];obtain rfl:w2=y2:=Option.some.inj e2;have p2:=m2 B BA hB;have g2:=hB.cons w2.1 [];have hg:BA [w0.1,w1.1,w2.1]+1≤B (.agg [w0.1,w1.1,w2.1]):=hg;show Msr.m d0+Msr.m d1+Msr.m d2+1≤B (.agg [w0.1,w1.1,w2.1]);omega
instance:Msr Patch:=⟨fun x=>Msr.m x.Hunks+1⟩
def Ok65 (x:Patch):Prop:=(fun l=>l.length≤9223372036854775807∧∀ x∈l,Ok115 x) x.Hunks
theorem rd65:Om Tryz.prog 65 Patch Ok65:=by
  intro H enc w fuel cs x ht;obtain ⟨hlen,n,ys,hx,hy,hf⟩:=Qx M7 ht;rw [co65] at hlen;obtain ⟨c0,rfl⟩:=exL1 hlen;obtain ⟨y0,e0,t0⟩:=hf 0 0 63 (by kernel_rfl)
  rw [co63] at t0;obtain ⟨d0,r0,k0,m0⟩:=(Gj Gv (by kernel_rfl) (by decide) rd115) H enc w n [c0] _ t0
  obtain ⟨v0,q0,s0⟩:=T3 r0;obtain rfl:=(List.cons.inj q0).1;refine ⟨⟨d0⟩,rep_Patch_mk s0,k0,fun B BA hB=>?_⟩;rw [hx];have hg:=hB.agg (ys.map (·.1));obtain ⟨w0,rfl⟩:=exL1 (hy.trans (show _=1 from by kernel_rfl))
  obtain rfl:w0=y0:=Option.some.inj e0;have p0:=m0 B BA hB;have g0:=hB.cons w0.1 [];have hg:BA [w0.1]+1≤B (.agg [w0.1]):=hg;show Msr.m d0+1≤B (.agg [w0.1]);omega
instance:Msr TreeChange:=⟨fun x=>Msr.m x.Kind+Msr.m x.Path+Msr.m x.To+Msr.m x.Lines+Msr.m x.Patch+1⟩
def Ok67 (x:TreeChange):Prop:=(fun x=>-9223372036854775808≤x∧x≤9223372036854775807) x.Kind∧(fun s=>s.size≤9223372036854775807) x.Path∧(fun s=>s.size≤9223372036854775807) x.To∧(fun l=>l.length≤9223372036854775807∧∀ x∈l,(fun s=>s.size≤9223372036854775807) x) x.Lines∧Ok65 x.Patch
theorem rd67:Om Tryz.prog 67 TreeChange Ok67:=by
  intro H enc w fuel cs x ht;obtain ⟨hlen,n,ys,hx,hy,hf⟩:=Qx H2 ht;rw [co67] at hlen;obtain ⟨c0,c1,c2,c3,c4,rfl⟩:=exL5 hlen;obtain ⟨y0,e0,t0⟩:=hf 0 0 3 (by kernel_rfl)
  rw [co3] at t0;obtain ⟨d0,r0,k0,m0⟩:=(Kk tu3) H enc w n [c0] _ t0;obtain rfl:=(List.cons.inj (H6 r0)).1;obtain ⟨y1,e1,t1⟩:=hf 1 1 9 (by kernel_rfl)
  rw [co9] at t1;obtain ⟨d1,r1,k1,m1⟩:=(read_str tu9) H enc w n [c1] _ t1;obtain rfl:=(List.cons.inj (Hu r1)).1;obtain ⟨y2,e2,t2⟩:=hf 2 2 9 (by kernel_rfl)
  rw [co9] at t2;obtain ⟨d2,r2,k2,m2⟩:=(read_str tu9) H enc w n [c2] _ t2;obtain rfl:=(List.cons.inj (Hu r2)).1;obtain ⟨y3,e3,t3⟩:=hf 3 3 62 (by kernel_rfl)
  rw [co62] at t3;obtain ⟨d3,r3,k3,m3⟩:=(Gj Ch (by kernel_rfl) (by decide) (read_str tu9)) H enc w n [c3] _ t3
  obtain ⟨v3,q3,s3⟩:=T3 r3;obtain rfl:=(List.cons.inj q3).1;obtain ⟨y4,e4,t4⟩:=hf 4 4 65 (by kernel_rfl)
  rw [co65] at t4;obtain ⟨d4,r4,k4,m4⟩:=rd65 H enc w n [c4] _ t4;obtain ⟨v4_0,q4,s4_0⟩:=rep_Patch r4;simp only [List.cons.injEq,and_true] at q4;obtain rfl:=q4;refine ⟨⟨d0,d1,d2,d3,d4⟩,Hs s3 s4_0,⟨k0,k1,k2,k3,k4⟩,fun B BA hB=>?_⟩;rw [hx];have hg:=hB.agg (ys.map (·.1));obtain ⟨w0,w1,w2,w3,w4,rfl⟩:=exL5 (hy.trans (show _=5 from by kernel_rfl))
  obtain rfl:w0=y0:=Option.some.inj e0;have p0:=m0 B BA hB;have g0:=hB.cons w0.1 [w1.1,w2.1,w3.1,w4.1];obtain rfl:w1=y1:=Option.some.inj e1;have p1:=m1 B BA hB;have g1:=hB.cons w1.1 [w2.1,w3.1,w4.1];obtain rfl:w2=y2:=Option.some.inj e2;have p2:=m2 B BA hB;have g2:=hB.cons w2.1 [w3.1,w4.1];obtain rfl:w3=y3:=Option.some.inj e3;have p3:=m3 B BA hB;have g3:=hB.cons w3.1 [w4.1];obtain rfl:w4=y4:=Option.some.inj e4;have p4:=m4 B BA hB;have g4:=hB.cons w4.1 [];have hg:BA [w0.1,w1.1,w2.1,w3.1,w4.1]+1≤B (.agg [w0.1,w1.1,w2.1,w3.1,w4.1]):=hg;show Msr.m d0+Msr.m d1+Msr.m d2+Msr.m d3+Msr.m d4+1≤B (.agg [w0.1,w1.1,w2.1,w3.1,w4.1]);omega
instance:Msr TreePatch:=⟨fun x=>Msr.m x.Changes+1⟩
def Ok37 (x:TreePatch):Prop:=(fun l=>l.length≤9223372036854775807∧∀ x∈l,Ok67 x) x.Changes
theorem rd37:Om Tryz.prog 37 TreePatch Ok37:=by
  intro H enc w fuel cs x ht;obtain ⟨hlen,n,ys,hx,hy,hf⟩:=Qx Ky ht;rw [co37] at hlen;obtain ⟨c0,rfl⟩:=exL1 hlen;obtain ⟨y0,e0,t0⟩:=hf 0 0 35 (by kernel_rfl)
  rw [co35] at t0;obtain ⟨d0,r0,k0,m0⟩:=(Gj Hy (by kernel_rfl) (by decide) rd67) H enc w n [c0] _ t0
  obtain ⟨v0,q0,s0⟩:=T3 r0;obtain rfl:=(List.cons.inj q0).1;refine ⟨⟨d0⟩,rep_TreePatch_mk s0,k0,fun B BA hB=>?_⟩;rw [hx];have hg:=hB.agg (ys.map (·.1));obtain ⟨w0,rfl⟩:=exL1 (hy.trans (show _=1 from by kernel_rfl))
  obtain rfl:w0=y0:=Option.some.inj e0;have p0:=m0 B BA hB;have g0:=hB.cons w0.1 [];have hg:BA [w0.1]+1≤B (.agg [w0.1]):=hg;show Msr.m d0+1≤B (.agg [w0.1]);omega
instance:Msr ForgeEvent:=⟨fun x=>Msr.m x.Kind+Msr.m x.User+Msr.m x.Key+Msr.m x.N+Msr.m x.Patch+1⟩
def Ok44 (x:ForgeEvent):Prop:=(fun x=>-9223372036854775808≤x∧x≤9223372036854775807) x.Kind∧(fun x=>-9223372036854775808≤x∧x≤9223372036854775807) x.User∧(fun x=>-9223372036854775808≤x∧x≤9223372036854775807) x.Key∧(fun x=>-9223372036854775808≤x∧x≤9223372036854775807) x.N∧Ok37 x.Patch
theorem rd44:Om Tryz.prog 44 ForgeEvent Ok44:=by
  intro H enc w fuel cs x ht;obtain ⟨hlen,n,ys,hx,hy,hf⟩:=Qx Lh ht;rw [co44] at hlen;obtain ⟨c0,c1,c2,c3,c4,rfl⟩:=exL5 hlen;obtain ⟨y0,e0,t0⟩:=hf 0 0 3 (by kernel_rfl)
  rw [co3] at t0;obtain ⟨d0,r0,k0,m0⟩:=(Kk tu3) H enc w n [c0] _ t0;obtain rfl:=(List.cons.inj (H6 r0)).1;obtain ⟨y1,e1,t1⟩:=hf 1 1 3 (by kernel_rfl)
  rw [co3] at t1;obtain ⟨d1,r1,k1,m1⟩:=(Kk tu3) H enc w n [c1] _ t1;obtain rfl:=(List.cons.inj (H6 r1)).1;obtain ⟨y2,e2,t2⟩:=hf 2 2 3 (by kernel_rfl)
  rw [co3] at t2;obtain ⟨d2,r2,k2,m2⟩:=(Kk tu3) H enc w n [c2] _ t2;obtain rfl:=(List.cons.inj (H6 r2)).1;obtain ⟨y3,e3,t3⟩:=hf 3 3 3 (by kernel_rfl)
  rw [co3] at t3;obtain ⟨d3,r3,k3,m3⟩:=(Kk tu3) H enc w n [c3] _ t3;obtain rfl:=(List.cons.inj (H6 r3)).1;obtain ⟨y4,e4,t4⟩:=hf 4 4 37 (by kernel_rfl)
  rw [co37] at t4;obtain ⟨d4,r4,k4,m4⟩:=rd37 H enc w n [c4] _ t4;obtain ⟨v4_0,q4,s4_0⟩:=rep_TreePatch r4;simp only [List.cons.injEq,and_true] at q4;obtain rfl:=q4;refine ⟨⟨d0,d1,d2,d3,d4⟩,D7 s4_0,⟨k0,k1,k2,k3,k4⟩,fun B BA hB=>?_⟩;rw [hx];have hg:=hB.agg (ys.map (·.1));obtain ⟨w0,w1,w2,w3,w4,rfl⟩:=exL5 (hy.trans (show _=5 from by kernel_rfl))
  obtain rfl:w0=y0:=Option.some.inj e0;have p0:=m0 B BA hB;have g0:=hB.cons w0.1 [w1.1,w2.1,w3.1,w4.1];obtain rfl:w1=y1:=Option.some.inj e1;have p1:=m1 B BA hB;have g1:=hB.cons w1.1 [w2.1,w3.1,w4.1];obtain rfl:w2=y2:=Option.some.inj e2;have p2:=m2 B BA hB;have g2:=hB.cons w2.1 [w3.1,w4.1];obtain rfl:w3=y3:=Option.some.inj e3;have p3:=m3 B BA hB;have g3:=hB.cons w3.1 [w4.1];obtain rfl:w4=y4:=Option.some.inj e4;have p4:=m4 B BA hB;have g4:=hB.cons w4.1 [];have hg:BA [w0.1,w1.1,w2.1,w3.1,w4.1]+1≤B (.agg [w0.1,w1.1,w2.1,w3.1,w4.1]):=hg;show Msr.m d0+Msr.m d1+Msr.m d2+Msr.m d3+Msr.m d4+1≤B (.agg [w0.1,w1.1,w2.1,w3.1,w4.1]);omega
end Go.Dc
