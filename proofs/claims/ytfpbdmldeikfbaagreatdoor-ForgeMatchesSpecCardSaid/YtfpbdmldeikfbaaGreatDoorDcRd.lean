import Derived.Test.YtfpbdmldeikfbaaGreatDoorDcTab
import Derived.Test.YtfpbdmldeikfbaaGreatDoorDcK
set_option linter.unusedSimpArgs false
set_option linter.unusedVariables false
namespace Go.Dc
open Go Go.Proofs
set_option linter.unusedVariables false
theorem exL1 {α:Type} {l:List α} (h:l.length=1):∃ a0,l=[a0]:=by
  match l,h with
  | [a0],_=>exact ⟨a0,rfl⟩
theorem exL3 {α:Type} {l:List α} (h:l.length=3):∃ a0 a1 a2,l=[a0,a1,a2]:=by
  match l,h with
  | [a0,a1,a2],_=>exact ⟨a0,a1,a2,rfl⟩
theorem exL5 {α:Type} {l:List α} (h:l.length=5):∃ a0 a1 a2 a3 a4,l=[a0,a1,a2,a3,a4]:=by
  match l,h with
  | [a0,a1,a2,a3,a4],_=>exact ⟨a0,a1,a2,a3,a4,rfl⟩
theorem co3:Tryz.prog.cellsOf 3=1:=by kernel_rfl
theorem co9:Tryz.prog.cellsOf 9=1:=by kernel_rfl
theorem co58:Tryz.prog.cellsOf 58=1:=by kernel_rfl
theorem co60:Tryz.prog.cellsOf 60=1:=by kernel_rfl
theorem co62:Tryz.prog.cellsOf 62=5:=by kernel_rfl
theorem co68:Tryz.prog.cellsOf 68=1:=by kernel_rfl
theorem co69:Tryz.prog.cellsOf 69=1:=by kernel_rfl
theorem co71:Tryz.prog.cellsOf 71=1:=by kernel_rfl
theorem co73:Tryz.prog.cellsOf 73=5:=by kernel_rfl
theorem co133:Tryz.prog.cellsOf 133=3:=by kernel_rfl
instance:Msr Hunk:=⟨fun x=>Msr.m x.At+Msr.m x.Old+Msr.m x.New+1⟩
def Ok133 (x:Hunk):Prop:=(fun x=>-9223372036854775808≤x∧x≤9223372036854775807) x.At∧(fun l=>l.length≤9223372036854775807∧∀ x∈l,(fun s=>s.size≤9223372036854775807) x) x.Old∧(fun l=>l.length≤9223372036854775807∧∀ x∈l,(fun s=>s.size≤9223372036854775807) x) x.New
theorem rd133:W4 Tryz.prog 133 Hunk Ok133:=by
  intro H enc w fuel cs x ht;obtain ⟨hlen,n,ys,hx,hy,hf⟩:=Ye Uh ht;rw [co133] at hlen;obtain ⟨c0,c1,c2,rfl⟩:=exL3 hlen;obtain ⟨y0,e0,t0⟩:=hf 0 0 3 (by kernel_rfl)
  rw [co3] at t0;obtain ⟨d0,r0,k0,m0⟩:=(Yc tu3) H enc w n [c0] _ t0;obtain rfl:=(List.cons.inj (V9 r0)).1;obtain ⟨y1,e1,t1⟩:=hf 1 1 68 (by kernel_rfl)
  rw [co68] at t1;obtain ⟨d1,r1,k1,m1⟩:=(Wa Kz (by kernel_rfl) (by decide) (read_str tu9)) H enc w n [c1] _ t1
  obtain ⟨v1,q1,s1⟩:=rep_list r1;obtain rfl:=(List.cons.inj q1).1;obtain ⟨y2,e2,t2⟩:=hf 2 2 68 (by kernel_rfl)
  rw [co68] at t2;obtain ⟨d2,r2,k2,m2⟩:=(Wa Kz (by kernel_rfl) (by decide) (read_str tu9)) H enc w n [c2] _ t2
  obtain ⟨v2,q2,s2⟩:=rep_list r2;obtain rfl:=(List.cons.inj q2).1;refine ⟨⟨d0,d1,d2⟩,rep_Hunk_mk s1 s2,⟨k0,k1,k2⟩,fun B BA hB=>?_⟩;rw [hx];have hg:=hB.agg (ys.map (·.1));obtain ⟨w0,w1,w2,rfl⟩:=exL3 (hy.trans (show _=3 from by kernel_rfl))
  obtain rfl:w0=y0:=Option.some.inj e0;have p0:=m0 B BA hB;have g0:=hB.cons w0.1 [w1.1,w2.1];obtain rfl:w1=y1:=Option.some.inj e1;have p1:=m1 B BA hB;have g1:=hB.cons w1.1 [w2.1];obtain rfl:w2=y2:=Option.some.inj e2;have p2:=m2 B BA hB;have g2:=hB.cons w2.1 [];have hg:BA [w0.1,w1.1,w2.1]+1≤B (.agg [w0.1,w1.1,w2.1]):=hg;show Msr.m d0+Msr.m d1+Msr.m d2+1≤B (.agg [w0.1,w1.1,w2.1]);omega
instance:Msr Patch:=⟨fun x=>Msr.m x.Hunks+1⟩
def Ok71 (x:Patch):Prop:=(fun l=>l.length≤9223372036854775807∧∀ x∈l,Ok133 x) x.Hunks
theorem rd71:W4 Tryz.prog 71 Patch Ok71:=by
  intro H enc w fuel cs x ht;obtain ⟨hlen,n,ys,hx,hy,hf⟩:=Ye Wq ht;rw [co71] at hlen;obtain ⟨c0,rfl⟩:=exL1 hlen;obtain ⟨y0,e0,t0⟩:=hf 0 0 69 (by kernel_rfl)
  rw [co69] at t0;obtain ⟨d0,r0,k0,m0⟩:=(Wa M6 (by kernel_rfl) (by decide) rd133) H enc w n [c0] _ t0
  obtain ⟨v0,q0,s0⟩:=rep_list r0;obtain rfl:=(List.cons.inj q0).1;refine ⟨⟨d0⟩,rep_Patch_mk s0,k0,fun B BA hB=>?_⟩;rw [hx];have hg:=hB.agg (ys.map (·.1));obtain ⟨w0,rfl⟩:=exL1 (hy.trans (show _=1 from by kernel_rfl))
  obtain rfl:w0=y0:=Option.some.inj e0;have p0:=m0 B BA hB;have g0:=hB.cons w0.1 [];have hg:BA [w0.1]+1≤B (.agg [w0.1]):=hg;show Msr.m d0+1≤B (.agg [w0.1]);omega
instance:Msr TreeChange:=⟨fun x=>Msr.m x.Kind+Msr.m x.Path+Msr.m x.To+Msr.m x.Lines+Msr.m x.Patch+1⟩
def Ok73 (x:TreeChange):Prop:=(fun x=>-9223372036854775808≤x∧x≤9223372036854775807) x.Kind∧(fun s=>s.size≤9223372036854775807) x.Path∧(fun s=>s.size≤9223372036854775807) x.To∧(fun l=>l.length≤9223372036854775807∧∀ x∈l,(fun s=>s.size≤9223372036854775807) x) x.Lines∧Ok71 x.Patch
theorem rd73:W4 Tryz.prog 73 TreeChange Ok73:=by
  intro H enc w fuel cs x ht;obtain ⟨hlen,n,ys,hx,hy,hf⟩:=Ye tu73 ht;rw [co73] at hlen;obtain ⟨c0,c1,c2,c3,c4,rfl⟩:=exL5 hlen;obtain ⟨y0,e0,t0⟩:=hf 0 0 3 (by kernel_rfl)
  rw [co3] at t0;obtain ⟨d0,r0,k0,m0⟩:=(Yc tu3) H enc w n [c0] _ t0;obtain rfl:=(List.cons.inj (V9 r0)).1;obtain ⟨y1,e1,t1⟩:=hf 1 1 9 (by kernel_rfl)
  rw [co9] at t1;obtain ⟨d1,r1,k1,m1⟩:=(read_str tu9) H enc w n [c1] _ t1;obtain rfl:=(List.cons.inj (W7 r1)).1;obtain ⟨y2,e2,t2⟩:=hf 2 2 9 (by kernel_rfl)
  rw [co9] at t2;obtain ⟨d2,r2,k2,m2⟩:=(read_str tu9) H enc w n [c2] _ t2;obtain rfl:=(List.cons.inj (W7 r2)).1;obtain ⟨y3,e3,t3⟩:=hf 3 3 68 (by kernel_rfl)
  rw [co68] at t3;obtain ⟨d3,r3,k3,m3⟩:=(Wa Kz (by kernel_rfl) (by decide) (read_str tu9)) H enc w n [c3] _ t3
  obtain ⟨v3,q3,s3⟩:=rep_list r3;obtain rfl:=(List.cons.inj q3).1;obtain ⟨y4,e4,t4⟩:=hf 4 4 71 (by kernel_rfl)
  rw [co71] at t4;obtain ⟨d4,r4,k4,m4⟩:=rd71 H enc w n [c4] _ t4;obtain ⟨v4_0,q4,s4_0⟩:=rep_Patch r4;simp only [List.cons.injEq,and_true] at q4;obtain rfl:=q4;refine ⟨⟨d0,d1,d2,d3,d4⟩,T5 s3 s4_0,⟨k0,k1,k2,k3,k4⟩,fun B BA hB=>?_⟩;rw [hx];have hg:=hB.agg (ys.map (·.1));obtain ⟨w0,w1,w2,w3,w4,rfl⟩:=exL5 (hy.trans (show _=5 from by kernel_rfl))
  obtain rfl:w0=y0:=Option.some.inj e0;have p0:=m0 B BA hB;have g0:=hB.cons w0.1 [w1.1,w2.1,w3.1,w4.1];obtain rfl:w1=y1:=Option.some.inj e1;have p1:=m1 B BA hB;have g1:=hB.cons w1.1 [w2.1,w3.1,w4.1];obtain rfl:w2=y2:=Option.some.inj e2;have p2:=m2 B BA hB;have g2:=hB.cons w2.1 [w3.1,w4.1];obtain rfl:w3=y3:=Option.some.inj e3;have p3:=m3 B BA hB;have g3:=hB.cons w3.1 [w4.1];obtain rfl:w4=y4:=Option.some.inj e4;have p4:=m4 B BA hB;have g4:=hB.cons w4.1 [];have hg:BA [w0.1,w1.1,w2.1,w3.1,w4.1]+1≤B (.agg [w0.1,w1.1,w2.1,w3.1,w4.1]):=hg;show Msr.m d0+Msr.m d1+Msr.m d2+Msr.m d3+Msr.m d4+1≤B (.agg [w0.1,w1.1,w2.1,w3.1,w4.1]);omega
instance:Msr TreePatch:=⟨fun x=>Msr.m x.Changes+1⟩
def Ok60 (x:TreePatch):Prop:=(fun l=>l.length≤9223372036854775807∧∀ x∈l,Ok73 x) x.Changes
theorem rd60:W4 Tryz.prog 60 TreePatch Ok60:=by
  intro H enc w fuel cs x ht;obtain ⟨hlen,n,ys,hx,hy,hf⟩:=Ye tu60 ht;rw [co60] at hlen;obtain ⟨c0,rfl⟩:=exL1 hlen;obtain ⟨y0,e0,t0⟩:=hf 0 0 58 (by kernel_rfl)
  rw [co58] at t0;obtain ⟨d0,r0,k0,m0⟩:=(Wa tu58 (by kernel_rfl) (by decide) rd73) H enc w n [c0] _ t0
  obtain ⟨v0,q0,s0⟩:=rep_list r0;obtain rfl:=(List.cons.inj q0).1;refine ⟨⟨d0⟩,rep_TreePatch_mk s0,k0,fun B BA hB=>?_⟩;rw [hx];have hg:=hB.agg (ys.map (·.1));obtain ⟨w0,rfl⟩:=exL1 (hy.trans (show _=1 from by kernel_rfl))
  obtain rfl:w0=y0:=Option.some.inj e0;have p0:=m0 B BA hB;have g0:=hB.cons w0.1 [];have hg:BA [w0.1]+1≤B (.agg [w0.1]):=hg;show Msr.m d0+1≤B (.agg [w0.1]);omega
instance:Msr ForgeEvent:=⟨fun x=>Msr.m x.Kind+Msr.m x.User+Msr.m x.Key+Msr.m x.N+Msr.m x.Patch+1⟩
def Ok62 (x:ForgeEvent):Prop:=(fun x=>-9223372036854775808≤x∧x≤9223372036854775807) x.Kind∧(fun x=>-9223372036854775808≤x∧x≤9223372036854775807) x.User∧(fun x=>-9223372036854775808≤x∧x≤9223372036854775807) x.Key∧(fun x=>-9223372036854775808≤x∧x≤9223372036854775807) x.N∧Ok60 x.Patch
theorem rd62:W4 Tryz.prog 62 ForgeEvent Ok62:=by
  intro H enc w fuel cs x ht;obtain ⟨hlen,n,ys,hx,hy,hf⟩:=Ye tu62 ht;rw [co62] at hlen;obtain ⟨c0,c1,c2,c3,c4,rfl⟩:=exL5 hlen;obtain ⟨y0,e0,t0⟩:=hf 0 0 3 (by kernel_rfl)
  rw [co3] at t0;obtain ⟨d0,r0,k0,m0⟩:=(Yc tu3) H enc w n [c0] _ t0;obtain rfl:=(List.cons.inj (V9 r0)).1;obtain ⟨y1,e1,t1⟩:=hf 1 1 3 (by kernel_rfl)
  rw [co3] at t1;obtain ⟨d1,r1,k1,m1⟩:=(Yc tu3) H enc w n [c1] _ t1;obtain rfl:=(List.cons.inj (V9 r1)).1;obtain ⟨y2,e2,t2⟩:=hf 2 2 3 (by kernel_rfl)
  rw [co3] at t2;obtain ⟨d2,r2,k2,m2⟩:=(Yc tu3) H enc w n [c2] _ t2;obtain rfl:=(List.cons.inj (V9 r2)).1;obtain ⟨y3,e3,t3⟩:=hf 3 3 3 (by kernel_rfl)
  rw [co3] at t3;obtain ⟨d3,r3,k3,m3⟩:=(Yc tu3) H enc w n [c3] _ t3;obtain rfl:=(List.cons.inj (V9 r3)).1;obtain ⟨y4,e4,t4⟩:=hf 4 4 60 (by kernel_rfl)
  rw [co60] at t4;obtain ⟨d4,r4,k4,m4⟩:=rd60 H enc w n [c4] _ t4;obtain ⟨v4_0,q4,s4_0⟩:=rep_TreePatch r4;simp only [List.cons.injEq,and_true] at q4;obtain rfl:=q4;refine ⟨⟨d0,d1,d2,d3,d4⟩,Oz s4_0,⟨k0,k1,k2,k3,k4⟩,fun B BA hB=>?_⟩;rw [hx];have hg:=hB.agg (ys.map (·.1));obtain ⟨w0,w1,w2,w3,w4,rfl⟩:=exL5 (hy.trans (show _=5 from by kernel_rfl))
  obtain rfl:w0=y0:=Option.some.inj e0;have p0:=m0 B BA hB;have g0:=hB.cons w0.1 [w1.1,w2.1,w3.1,w4.1];obtain rfl:w1=y1:=Option.some.inj e1;have p1:=m1 B BA hB;have g1:=hB.cons w1.1 [w2.1,w3.1,w4.1];obtain rfl:w2=y2:=Option.some.inj e2;have p2:=m2 B BA hB;have g2:=hB.cons w2.1 [w3.1,w4.1];obtain rfl:w3=y3:=Option.some.inj e3;have p3:=m3 B BA hB;have g3:=hB.cons w3.1 [w4.1];obtain rfl:w4=y4:=Option.some.inj e4;have p4:=m4 B BA hB;have g4:=hB.cons w4.1 [];have hg:BA [w0.1,w1.1,w2.1,w3.1,w4.1]+1≤B (.agg [w0.1,w1.1,w2.1,w3.1,w4.1]):=hg;show Msr.m d0+Msr.m d1+Msr.m d2+Msr.m d3+Msr.m d4+1≤B (.agg [w0.1,w1.1,w2.1,w3.1,w4.1]);omega
end Go.Dc
