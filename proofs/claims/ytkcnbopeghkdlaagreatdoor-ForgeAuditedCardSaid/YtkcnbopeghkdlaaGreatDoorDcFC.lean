import Derived.Test.YtkcnbopeghkdlaaGreatDoorDcFJ
import Derived.Test.YtkcnbopeghkdlaaGreatDoorDcFY
set_option linter.unusedSimpArgs false
set_option linter.unusedVariables false
set_option maxRecDepth 4000
namespace Go.Dc
open Go
def BadE (e:ForgeEntry):Prop:=e.User < 0∨e.User ≥ 4∨e.Number < 1∨e.Number > 40
instance (e:ForgeEntry):Decidable (BadE e):=inferInstanceAs (Decidable (_∨_))
theorem leaf_val {e:ForgeEntry} (hb:¬ BadE e) (hp:(pcF e.Patch.Changes).Code=0) :
  Hd e.User [e.Number]=some (pr e.User e.Number)∧Hd (pr e.User e.Number) [pd e.Patch.Changes]=some (pr (pr e.User e.Number) (pd e.Patch.Changes))∧Dig (pr (pr e.User e.Number) (pd e.Patch.Changes)):=by
 unfold BadE at hb;have d1:=Mv (x:=e.User) (by omega) (by omega)
 have d2:=Mv (x:=e.Number) (by omega) (by omega)
 have p1:=pr_ok d1 d2;have d3:=pd_dig ((Wh _).1 hp).2;have p2:=pr_ok p1.2.2.1 d3;refine ⟨?_,?_,p2.2.2.1⟩
 ·rw [combine_f d1 (by intro s hs;rw [Bd] at hs;rw [hs];exact d2) (by simp)];rfl
 ·rw [combine_f p1.2.2.1 (by intro s hs;rw [Bd] at hs;rw [hs];exact d3) (by simp)];rfl
noncomputable def lf (e:ForgeEntry):Int:=pr (pr e.User e.Number) (pd e.Patch.Changes)
theorem Leaf_g {e:ForgeEntry} (hb:¬ BadE e) (hp:(pcF e.Patch.Changes).Code=0):Ng e=some (lf e,⟨0,0⟩)∧Dig (lf e):=by
 obtain ⟨c1,c2,c3⟩:=leaf_val hb hp;refine ⟨?_,c3⟩;unfold BadE at hb;unfold Ng;rw [A2,Ae (by omega),Aa,Az (by omega),Ae Ay,Aa,Az (by omega),Ae Ay,Aa,Az (by omega),Ae Ay,PatchDigest_f,Aa]
 have hz:pdT e.Patch.Changes=(pd e.Patch.Changes,⟨0,0⟩):=by unfold pdT;rw [Ae (by omega)]
 rw [hz];simp only [Dd,Eu,C6,Bc,Cg];rw [c1,Aa,c2,Aa];rfl
theorem leaf_ok {keys:List Int} {n:Nat} {s:State_forge} (h:Inv keys n s) (hn:n≤40):∀ e∈s.log,Ng e=some (lf e,⟨0,0⟩)∧Dig (lf e):=by
 intro e he;have hkl:=h.kl;obtain ⟨k,hk,rfl⟩:=Cd he;obtain ⟨A,B,_,_,h3⟩:=h.rep k hk;obtain ⟨h1,h2,_⟩:=T3 (p:=s.log[k].Patch.Changes) (l:=A) (by rw [h3])
 obtain ⟨hu,hm⟩:=h.ent _ he;exact Leaf_g (by unfold BadE;omega) ((Wh _).2 ⟨h1,h2⟩)
noncomputable def lv (l:Df):List Int:=l.map lf
theorem Ug (l:Df):(lv l).length=l.length:=Dz ..
theorem lv_succ {l:Df} {k:Nat} (h:k < l.length):lv (l.take (k+1))=lv (l.take k)++[lf l[k]]:=by
 unfold lv;rw [Bi h,K9];rfl
theorem leaves_f {s:State_forge} (hl:∀ e∈s.log,Ng e=some (lf e,⟨0,0⟩)∧Dig (lf e)) (hn:s.log.length≤1000):Ew s=some (lv s.log):=by
 unfold Ew
 obtain ⟨r,e,rfl⟩:=Ov (f:=fun x:Int×List Int=>Ew.l1 s x.1 x.2) s.log.length (fun k x=>x=lv (s.log.take k)) (fun r=>r=lv s.log) (by
  rintro k x hk rfl;refine ⟨_,?_,rfl⟩;rw [lv_succ hk];unfold Ew.l1;simp only;rw [A2,Af (by omega),Ds hk,Aa,(hl _ (A5 hk)).1,Aa]
  simp only;rw [H6 (by rw [Ug,Bg,Ar];omega),Aa,C9 (by omega) (by omega),Aa];rfl) (by
  rintro x rfl;unfold Ew.l1;simp only;rw [A2,Ae (by omega),C2]
  exact ⟨_,rfl,rfl⟩) [] rfl
 rw [e,Aa];rfl
theorem lv_dig {s:State_forge} (hl:∀ e∈s.log,Ng e=some (lf e,⟨0,0⟩)∧Dig (lf e)):∀ x∈lv s.log,Dig x:=by
 intro x hx;obtain ⟨e,he,rfl⟩:=Kd.1 hx;exact (hl e he).2
structure Ran (keys:List Int) (events:B1) (s:State_forge):Prop where
 inv:Inv keys events.length s
 n40:events.length≤40
 len:s.log.length≤40
 leaf:∀ e∈s.log,Ng e=some (lf e,⟨0,0⟩)∧Dig (lf e)
 runs:∃ out,runs (st0 keys) [] events=some (s,out)∧∃ t,Mu keys events=some (t,s.log,out,⟨0,0⟩)
 root:O1 keys events=some (rt (lv s.log),⟨0,0⟩)
theorem ran {keys:List Int} {events:B1} (hv:(fvF keys events).Code=0):∃ s,Ran keys events s:=by
 obtain ⟨s,out,t,v,r1,h,_,hvs,ht,hvl,hr⟩:=run_tot hv;have h40:=((Xz keys events).1 hv).2.1;have hlog:=h.log;have hve:=h.vers;have hl:=leaf_ok h h40;refine ⟨s,h,h40,by omega,hl,⟨out,r1,_,hr⟩,?_⟩
 unfold O1;rw [play_f hv r1,Aa];simp only;rw [leaves_f hl (by omega),Aa,TRoot_f (lv_dig hl) (by rw [Ug];omega),Aa]
theorem Prove_g {keys:List Int} {events:B1} (hv:(fvF keys events).Code=0) {s:State_forge} (h:Ran keys events s) (i:Int) :
  Oy keys events i=if i < 0∨i ≥ s.log.length then some ([],⟨3,-20⟩) else M6 (lv s.log) i:=by
 obtain ⟨out,r1,_⟩:=h.runs;have hlen:=h.len;unfold Oy;rw [play_f hv r1,Aa];simp only;by_cases h1:i < 0
 ·have hc:i < 0∨i ≥ s.log.length:=.inl h1;rw [A2,Af h1,Aa,Af rfl,Af hc]
 ·rw [A2,Ae h1,Aa];by_cases h2:i ≥ s.log.length
  ·have hc:i < 0∨i ≥ s.log.length:=.inr h2;rw [Aw h2,Af rfl,Af hc]
  ·have hc:¬ (i < 0∨i ≥ s.log.length):=by omega
   rw [Az h2,Ae Ay,Ae hc,leaves_f h.leaf (by omega),Aa]
   cases M6 (lv s.log) i <;> rfl
theorem Root_bad {keys:List Int} {events:B1} (hv:(fvF keys events).Code≠0):O1 keys events=some (0,fvF keys events):=by
 unfold O1;rw [play_bad hv,Aa]
theorem Prove_bad {keys:List Int} {events:B1} (hv:(fvF keys events).Code≠0) (i:Int):Oy keys events i=some ([],fvF keys events):=by
 unfold Oy;rw [play_bad hv,Aa]
end Go.Dc
