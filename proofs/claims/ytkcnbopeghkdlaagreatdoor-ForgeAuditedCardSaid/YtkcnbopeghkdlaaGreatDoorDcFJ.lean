import Derived.Test.YtkcnbopeghkdlaaGreatDoorDcF2
import Derived.Test.YtkcnbopeghkdlaaGreatDoorDcR
set_option linter.unusedSimpArgs false
set_option linter.unusedVariables false
set_option maxRecDepth 4000
namespace Go.Dc
open Go
def O5 (b:Ao) (p:ByteArray):Ag:=match b[Ks b p]? with
 | some g=>g.Lines
 | Option.none=>[]
def rmOf (b:Ao) (f:File):Option TreeChange:=if K1 b f.Path=true then Option.none else some ⟨2,f.Path,ByteArray.empty,f.Lines,⟨[]⟩⟩
def edOf (b:Ao) (f:File):Option TreeChange:=if K1 b f.Path=true∧Mi f.Lines (O5 b f.Path)≠[] then some (edF f.Path ⟨Mi f.Lines (O5 b f.Path)⟩) else Option.none
def adOf (a:Ao) (f:File):Option TreeChange:=if K1 a f.Path=true then Option.none else some ⟨1,f.Path,ByteArray.empty,f.Lines,⟨[]⟩⟩
theorem text0 {l:Ag} (h:Lr l):(Cl l).Code=0:=(Gq _).1 ((Ko _).1 h)
theorem diff2_iter {a b:Ao} (ha:TrOk a) (hb:TrOk b):∀ (r:Ao) (k:Nat) (e d:A0),a.drop k=r→e.length≤k→d.length≤k →
  Gk (fun s=>Bw.l2 ⟨a⟩ ⟨b⟩ s.1 s.2.1 s.2.2) ((k:Int),e,d)=some (e++r.filterMap (edOf b),d++r.filterMap (rmOf b)):=by
 intro r
 induction r with
 | nil =>
  intro k e d hk _ _;have:=Ni hk;refine C4 ?_;show Bw.l2 ⟨a⟩ ⟨b⟩ _ _ _=_;unfold Bw.l2;simp only;rw [Az (by omega),Ae Ay]
  simp
 | cons f r ih =>
  intro k e d hk he hd;obtain ⟨hlt,hx,hr⟩:=N7 hk;have hfm:f∈a:=hx ▸ A5 hlt;have hft:=ha.text_len hfm;have hal:=ha.len;have hbl:=hb.len
  have j4:∀ (u v:A0),Bw.j4 (k:Int) u v=some (Step.next (((k+1:Nat):Int),v,u)):=by
   intro u v;unfold Bw.j4;rw [C9 (by omega) (by omega),Aa];rfl
  have hs:Bw.l2 ⟨a⟩ ⟨b⟩ (k:Int) e d=some (Step.next (((k+1:Nat):Int),e++(edOf b f).toList,d++(rmOf b f).toList)):=by
   unfold Bw.l2 edOf rmOf;simp only;rw [Aw (by omega),Af rfl,Ds hlt,Aa,hx,Find_f hb.srt (by omega),Aa]
   simp only;cases hh:K1 b f.Path with
   | false =>
    rw [Af (by rfl),clone_f _ (by omega),Aa,H6 (by simp;omega),Aa,j4]
    simp
   | true =>
    obtain ⟨hp,hpe⟩:=X9 hb.srt hh;have hgm:=A5 hp;rw [Ae (show ¬ ((!true)=true) by decide),Ds hp,Aa,script_f,Aa]
    have h1:=text0 (ha.text f hfm);have h2:=text0 (hb.text _ hgm);rw [Ae (fun hn=>hn h1),Ae (fun hn=>hn h2)]
    have hla:O5 b f.Path=b[Ks b f.Path].Lines:=by
     unfold O5;rw [Bb hp]
    rw [hla];unfold Bw.j5;simp only;by_cases hsc:Mi f.Lines b[Ks b f.Path].Lines=[]
    ·rw [Az (by rw [hsc];simp),Ae Ay,j4]
     simp [hsc]
    ·have:0 < (Mi f.Lines b[Ks b f.Path].Lines).length:=Nl.2 hsc;rw [Aw (by omega),Af rfl,H6 (by simp;omega),Aa,j4]
     simp [hsc,edF]
  rw [C7 (s':=(((k+1:Nat):Int),e++(edOf b f).toList,d++(rmOf b f).toList)) hs];have l1:(edOf b f).toList.length≤1:=by cases edOf b f <;> simp
  have l2:(rmOf b f).toList.length≤1:=by cases rmOf b f <;> simp
  rw [ih (k+1) _ _ hr (by rw [Au];omega) (by rw [Au];omega)]
  rw [A6,A6];cases h1:edOf b f <;> cases h2:rmOf b f <;> simp [List.filterMap_cons,h1,h2]
theorem diff1_iter {a b:Ao} (ha:TrOk a) (hb:TrOk b):∀ (r:Ao) (k:Nat) (e:A0),b.drop k=r→e.length≤k →
  Gk (fun s=>Bw.l1 ⟨a⟩ ⟨b⟩ s.1 s.2) ((k:Int),e)=some (e++r.filterMap (adOf a)):=by
 intro r
 induction r with
 | nil =>
  intro k e hk _;have:=Ni hk;refine C4 ?_;show Bw.l1 ⟨a⟩ ⟨b⟩ _ _=_;unfold Bw.l1;simp only;rw [Az (by omega),Ae Ay]
  simp
 | cons f r ih =>
  intro k e hk he;obtain ⟨hlt,hx,hr⟩:=N7 hk;have hfm:f∈b:=hx ▸ A5 hlt;have hft:=hb.text_len hfm;have hal:=ha.len;have hbl:=hb.len
  have j3:∀ (u:A0),Bw.j3 (k:Int) u=some (Step.next (((k+1:Nat):Int),u)):=by
   intro u;unfold Bw.j3;rw [C9 (by omega) (by omega),Aa];rfl
  have hs:Bw.l1 ⟨a⟩ ⟨b⟩ (k:Int) e=some (Step.next (((k+1:Nat):Int),e++(adOf a f).toList)):=by
   unfold Bw.l1 adOf;simp only;rw [Aw (by omega),Af rfl,Ds hlt,Aa,hx,Find_f ha.srt (by omega),Aa]
   simp only;cases hh:K1 a f.Path with
   | false =>
    rw [Af (by rfl),clone_f _ (by omega),Aa,H6 (by simp;omega),Aa,j3]
    simp
   | true =>
    rw [Ae (show ¬ ((!true)=true) by decide),j3]
    simp
  rw [C7 (s':=(((k+1:Nat):Int),e++(adOf a f).toList)) hs];have l1:(adOf a f).toList.length≤1:=by cases adOf a f <;> simp
  rw [ih (k+1) _ hr (by rw [Au];omega),A6]
  cases h1:adOf a f <;> simp [List.filterMap_cons,h1]
theorem concat3 {x y z:A0} (hx:x.length≤100) (hy:y.length≤100) (hz:z.length≤100):Ct [x,y,z]=some (x++y++z):=by
 unfold Ct
 have s0:∀ (k:Nat) (v:A0) (n:Nat),[x,y,z][k]? = some v→v.length≤100→n≤1000→Ct.l2 [x,y,z] (k:Int) (n:Int)=some (Step.next (((k+1:Nat):Int),((n+v.length:Nat):Int))):=by
  intro k v n hv hl hn;have hk:k < 3:=by have:=List.getElem?_eq_some_iff.1 hv;obtain ⟨h,_⟩:=this;simpa using h
  unfold Ct.l2 Ct.j3;have:at? [x,y,z] (k:Int)=some v:=by unfold at?;rw [Af (by omega),Bn,hv]
  rw [Af (by simp;omega),this,Aa,C9 (by omega) (by omega),Aa,Ae (by simp;omega),C9 (by omega) (by omega),Aa];rfl
 have t0:∀ (k:Nat) (v w:A0),[x,y,z][k]? = some v→v.length≤100→w.length≤1000→Ct.l1 [x,y,z] (k:Int) w=some (Step.next (((k+1:Nat):Int),w++v)):=by
  intro k v w hv hl hn;have hk:k < 3:=by have:=List.getElem?_eq_some_iff.1 hv;obtain ⟨h,_⟩:=this;simpa using h
  unfold Ct.l1;have:at? [x,y,z] (k:Int)=some v:=by unfold at?;rw [Af (by omega),Bn,hv]
  rw [Af (by simp;omega),this,Aa,H6 (by omega),Aa,C9 (by omega) (by omega),Aa];rfl
 have e1:Gk (fun s=>Ct.l2 [x,y,z] s.1 s.2) ((0:Int),(0:Int))=some ((0+x.length+y.length+z.length:Nat):Int):=by
  rw [C7 (s':=(((0+1:Nat):Int),((0+x.length:Nat):Int))) (s0 0 x 0 rfl hx (by omega))]
  rw [C7 (s':=(((1+1:Nat):Int),((0+x.length+y.length:Nat):Int))) (s0 1 y _ rfl hy (by omega))]
  rw [C7 (s':=(((2+1:Nat):Int),((0+x.length+y.length+z.length:Nat):Int))) (s0 2 z _ rfl hz (by omega))]
  refine C4 ?_;show Ct.l2 [x,y,z] _ _=_;unfold Ct.l2;rw [Ae (by simp)]
 rw [e1,Aa];unfold Ct.j1 Ct.j2
 have e2:grow0 TreeChange 88 ((0+x.length+y.length+z.length:Nat):Int)=some []:=by
  unfold grow0;rw [Af ⟨by omega,by omega⟩]
 rw [e2,Aa]
 have e3:Gk (fun s=>Ct.l1 [x,y,z] s.1 s.2) ((0:Int),([]:A0))=some (x++y++z):=by
  rw [C7 (s':=(((0+1:Nat):Int),[]++x)) (t0 0 x [] rfl hx (by simp))]
  rw [C7 (s':=(((1+1:Nat):Int),[]++x++y)) (t0 1 y _ rfl hy (by simp;omega))]
  rw [C7 (s':=(((2+1:Nat):Int),[]++x++y++z)) (t0 2 z _ rfl hz (by simp;omega))]
  refine C4 ?_;show Ct.l1 [x,y,z] _ _=_;unfold Ct.l1;rw [Ae (by simp)];simp
 rw [e3,Aa]
def O4 (a b:Ao):A0:=a.filterMap (rmOf b)++a.filterMap (edOf b)++b.filterMap (adOf a)
theorem ch_ok {k:Int} {f:File} (hk:k=1∨k=2) (h1:K3 f.Path=true) (h2:Lr f.Lines):OkCh ⟨k,f.Path,ByteArray.empty,f.Lines,⟨[]⟩⟩ :=
 ⟨by simp only;omega,h1,fun h=>by simp only at h;omega,fun _=>rfl,fun h=>by simp only at h;omega,fun h=>by simp only at h;omega,fun _=>rfl,text0 h2,(by decide +kernel:(Kp ⟨[]⟩).Code=0)⟩
theorem Wr {b:Ao} (hb:TrOk b) {p:ByteArray} (h:K1 b p=true):(⟨p,O5 b p⟩:File)∈b:=by
 obtain ⟨hp,he⟩:=X9 hb.srt h
 have e:(⟨p,O5 b p⟩:File)=b[Ks b p]:=by
  unfold O5;rw [Bb hp];simp only;generalize b[Ks b p]=g at he;obtain ⟨gp,gl⟩:=g;simp only at he;rw [he]
 rw [e];exact A5 hp
theorem has_mem {l:Ao} {f:File} (h:f∈l):K1 l f.Path=true:=by
 unfold K1;rw [Li];exact ⟨f,h,Aw rfl⟩
theorem has_ex {l:Ao} {p:ByteArray} (h:K1 l p=true):∃ f∈l,f.Path=p:=by
 unfold K1 at h;rw [Li] at h;obtain ⟨f,hf,e⟩:=h;exact ⟨f,hf,L5 e⟩
theorem rel_ne {b:Ao} (hb:TrOk b) {f g:File} (hf:f∈b) (hg:g∈b) (hne:f≠g):T8 f.Path g.Path=false:=by
 obtain ⟨i,hi,rfl⟩:=Cd hf;obtain ⟨j,hj,rfl⟩:=Cd hg;rcases Oo i j with h | h | h
 ·exact Cp.1 hb.rel i j hi hj h
 ·subst h;exact absurd rfl hne
 ·rw [relB_comm];exact Cp.1 hb.rel j i hj hi h
theorem sub_len:∀ {l b:Ao},M3 l→M3 b→(∀ f∈l,f∈b)→l.length≤b.length
 | [],b,_,_,_=>by simp
 | f::l,[],_,_,h=>absurd (h f B9) (by simp)
 | f::l,g::b,hl,hb,h=>by
  have hl':=Du.1 hl;have hb':=Du.1 hb
  have sub:∀ x∈l,x∈b:=by
   intro x hx;rcases Bt.1 (h x (Be _ hx)) with e | e
   ·subst e;have h1:=hl'.1 x hx;rcases Bt.1 (h f B9) with e2 | e2
    ·subst e2;rw [Us] at h1;cases h1
    ·have:=hb'.1 f e2;rw [T9 this] at h1;cases h1
   ·exact e
  have:=sub_len hl'.2 hb'.2 sub;simp only [Dl];omega
abbrev Dis (r:Ao):Prop:=r.Pairwise fun f g=>f.Path≠g.Path
theorem rm_run {b:Ao}:∀ (r:Ao) (k:Nat) (l:Ao),TrOk l→Dis r→(∀ f∈r,f∈l) →
  ∃ l',Um k (r.filterMap (rmOf b)) l=(l',⟨0,0⟩)∧TrOk l'∧∀ g,g∈l'↔g∈l∧∀ f∈r,K1 b f.Path=false→g.Path≠f.Path
 | [],k,l,h,_,_=>⟨l,rfl,h,fun g=>by simp⟩
 | f::r,k,l,h,hd,hm=>by
  have hd':=Du.1 hd;rw [List.filterMap_cons];unfold rmOf;cases hh:K1 b f.Path with
  | true =>
   simp only [G0];obtain ⟨l',e1,e2,e3⟩:=rm_run (b:=b) r k l h hd'.2 fun g hg=>hm g (Be _ hg);refine ⟨l',e1,e2,fun g=>?_⟩;rw [e3 g];constructor
   ·rintro ⟨h1,h2⟩;refine ⟨h1,fun x hx hf=>?_⟩;rcases Bt.1 hx with rfl | hx
    ·rw [hh] at hf;cases hf
    ·exact h2 x hx hf
   ·rintro ⟨h1,h2⟩;exact ⟨h1,fun x hx hf=>h2 x (Be _ hx) hf⟩
  | false =>
   simp only [Bc,Cg];have hf:=hm f B9;have hc:OkCh ⟨2,f.Path,ByteArray.empty,f.Lines,⟨[]⟩⟩:=ch_ok (.inr rfl) (h.path f hf) (h.text f hf);rcases can_make h hc (x:=Option.none) (.inr (.inl ⟨rfl,hf,rfl⟩)) with ⟨q,_⟩ | ⟨m1,m2⟩
   ·cases q
   have h1:=makeF_ok h hc m1;obtain ⟨l',e1,e2,e3⟩:=rm_run (b:=b) r (k+1) _ h1 hd'.2 fun g hg=>(m2 g).2 (.inl ⟨hm g (Be _ hg),(hd'.1 g hg).symm⟩);refine ⟨l',by rw [Um,Ae (by rw [m1];simp)];exact e1,e2,fun g=>?_⟩
   rw [e3 g,m2 g];constructor
   ·rintro ⟨⟨q1,q2⟩ | q1,q3⟩
    ·refine ⟨q1,fun x hx hf=>?_⟩;rcases Bt.1 hx with rfl | hx
     ·exact q2
     ·exact q3 x hx hf
    ·cases q1
   ·rintro ⟨q1,q2⟩;exact ⟨.inl ⟨q1,q2 f B9 hh⟩,fun x hx hf=>q2 x (Be _ hx) hf⟩
def Edd (b:Ao) (f:File):Prop:=K1 b f.Path=true∧Mi f.Lines (O5 b f.Path)≠[]
theorem ed_run {b:Ao} (hb:TrOk b):∀ (r:Ao) (k:Nat) (l:Ao),TrOk l→Dis r→(∀ f∈r,K1 b f.Path=true→f∈l) →
  ∃ l',Um k (r.filterMap (edOf b)) l=(l',⟨0,0⟩)∧TrOk l'∧∀ g,g∈l'↔(g∈l∧∀ f∈r,Edd b f→g.Path≠f.Path)∨∃ f∈r,Edd b f∧g=⟨f.Path,O5 b f.Path⟩
 | [],k,l,h,_,_=>⟨l,rfl,h,fun g=>by simp⟩
 | f::r,k,l,h,hd,hm=>by
  have hd':=Du.1 hd;rw [List.filterMap_cons];unfold edOf;by_cases hh:K1 b f.Path=true∧Mi f.Lines (O5 b f.Path)≠[]
  ·rw [Af hh];simp only;have hf:=hm f B9 hh.1;have hbm:=Wr hb hh.1;obtain ⟨s1,s2,s3⟩:=script_ok (h.text f hf) (hb.text _ hbm);have hc:OkCh (edF f.Path ⟨Mi f.Lines (O5 b f.Path)⟩):=okCh_ed (h.path f hf) hh.2 s1
   have hcan:Can (edF f.Path ⟨Mi f.Lines (O5 b f.Path)⟩) l (some ⟨f.Path,O5 b f.Path⟩) :=
    .inr (.inr (.inr ⟨rfl,f.Lines,hf,by simp only [edF];rw [s2],by simp only [edF];rw [s2]⟩))
   rcases can_make h hc hcan with ⟨q,_⟩ | ⟨m1,m2⟩
   ·cases q
   have h1:=makeF_ok h hc m1;obtain ⟨l',e1,e2,e3⟩:=ed_run hb r (k+1) _ h1 hd'.2 fun g hg hgb=>(m2 g).2 (.inl ⟨hm g (Be _ hg) hgb,(hd'.1 g hg).symm⟩);refine ⟨l',by rw [Um,Ae (by rw [m1];simp)];exact e1,e2,fun g=>?_⟩
   rw [e3 g,m2 g];simp only [edF,Option.some.injEq];constructor
   ·rintro (⟨⟨q1,q2⟩ | q1,q3⟩ | ⟨x,q1,q2,q3⟩)
    ·refine .inl ⟨q1,fun x hx hf=>?_⟩;rcases Bt.1 hx with rfl | hx
     ·exact q2
     ·exact q3 x hx hf
    ·exact .inr ⟨f,B9,hh,q1⟩
    ·exact .inr ⟨x,Be _ q1,q2,q3⟩
   ·rintro (⟨q1,q2⟩ | ⟨x,q1,q2,q3⟩)
    ·exact .inl ⟨.inl ⟨q1,q2 f B9 hh⟩,fun x hx hf=>q2 x (Be _ hx) hf⟩
    ·rcases Bt.1 q1 with rfl | q1
     ·refine .inl ⟨.inr q3,fun y hy _=>?_⟩;rw [q3];exact hd'.1 y hy
     ·exact .inr ⟨x,q1,q2,q3⟩
  ·rw [Ae hh];simp only;obtain ⟨l',e1,e2,e3⟩:=ed_run hb r k l h hd'.2 fun g hg=>hm g (Be _ hg);refine ⟨l',e1,e2,fun g=>?_⟩;rw [e3 g];constructor
   ·rintro (⟨q1,q2⟩ | ⟨x,q1,q2,q3⟩)
    ·refine .inl ⟨q1,fun x hx hf=>?_⟩;rcases Bt.1 hx with rfl | hx
     ·exact absurd hf hh
     ·exact q2 x hx hf
    ·exact .inr ⟨x,Be _ q1,q2,q3⟩
   ·rintro (⟨q1,q2⟩ | ⟨x,q1,q2,q3⟩)
    ·exact .inl ⟨q1,fun x hx hf=>q2 x (Be _ hx) hf⟩
    ·rcases Bt.1 q1 with rfl | q1
     ·exact absurd q2 hh
     ·exact .inr ⟨x,q1,q2,q3⟩
theorem ad_run {a b:Ao} (hb:TrOk b):∀ (r:Ao) (k:Nat) (l:Ao),TrOk l→Dis r→(∀ f∈r,f∈b)→(∀ g∈l,g∈b)→(∀ f∈r,K1 a f.Path=false→∀ g∈l,g.Path≠f.Path) →
  ∃ l',Um k (r.filterMap (adOf a)) l=(l',⟨0,0⟩)∧TrOk l'∧∀ g,g∈l'↔g∈l∨(g∈r∧K1 a g.Path=false)
 | [],k,l,h,_,_,_,_=>⟨l,rfl,h,fun g=>by simp⟩
 | f::r,k,l,h,hd,hm,hs,hn=>by
  have hd':=Du.1 hd;rw [List.filterMap_cons];unfold adOf;cases hh:K1 a f.Path with
  | true =>
   simp only [G0];obtain ⟨l',e1,e2,e3⟩:=ad_run (a:=a) hb r k l h hd'.2 (fun g hg=>hm g (Be _ hg)) hs (fun g hg=>hn g (Be _ hg));refine ⟨l',e1,e2,fun g=>?_⟩;rw [e3 g];constructor
   ·rintro (q | ⟨q1,q2⟩)
    ·exact .inl q
    ·exact .inr ⟨Be _ q1,q2⟩
   ·rintro (q | ⟨q1,q2⟩)
    ·exact .inl q
    ·rcases Bt.1 q1 with rfl | q1
     ·rw [hh] at q2;cases q2
     ·exact .inr ⟨q1,q2⟩
  | false =>
   simp only [Bc,Cg];have hf:=hm f B9;have hc:OkCh ⟨1,f.Path,ByteArray.empty,f.Lines,⟨[]⟩⟩:=ch_ok (.inl rfl) (hb.path f hf) (hb.text f hf);have hnf:=hn f B9 hh;have hrel:∀ g∈l,T8 g.Path f.Path=false:=fun g hg=>rel_ne hb (hs g hg) hf fun e=>hnf g hg (by rw [e])
   have hra:=rel_all.2 hrel
   have hlen:l.length < 24:=by
    have h1:=sub_len (ins_srt h.srt (rel_has hra)) hb.srt fun g hg=>by
     rcases Yf.1 hg with e | e
     ·subst e;exact hf
     ·exact hs g e
    rw [ins_len] at h1;have:=hb.len;omega
   have hcan:Can ⟨1,f.Path,ByteArray.empty,f.Lines,⟨[]⟩⟩ l (some f):=.inl ⟨rfl,hrel,rfl⟩;rcases can_make h hc hcan with ⟨_,m0⟩ | ⟨m1,m2⟩
   ·exfalso;unfold Qq at m0;rw [Af rfl] at m0;simp only at m0;rw [hra,Ae Ay,Ae (by omega)] at m0
    cases m0
   have h1:=makeF_ok h hc m1
   obtain ⟨l',e1,e2,e3⟩:=ad_run (a:=a) hb r (k+1) _ h1 hd'.2 (fun g hg=>hm g (Be _ hg)) (fun g hg=>by
    rcases (m2 g).1 hg with q | q
    ·exact hs g q.1
    ·cases q;exact hf) (fun x hx hxa g hg=>by
    rcases (m2 g).1 hg with q | q
    ·exact hn x (Be _ hx) hxa g q.1
    ·cases q;exact hd'.1 x hx)
   refine ⟨l',by rw [Um,Ae (by rw [m1];simp)];exact e1,e2,fun g=>?_⟩
   rw [e3 g,m2 g];simp only [Option.some.injEq];constructor
   ·rintro ((⟨q1,_⟩ | q1) | ⟨q1,q2⟩)
    ·exact .inl q1
    ·subst q1;exact .inr ⟨B9,hh⟩
    ·exact .inr ⟨Be _ q1,q2⟩
   ·rintro (q | ⟨q1,q2⟩)
    ·exact .inl (.inl ⟨q,hnf g q⟩)
    ·rcases Bt.1 q1 with rfl | q1
     ·exact .inl (.inr rfl)
     ·exact .inr ⟨q1,q2⟩
theorem dis_of {l:Ao} (h:M3 l):Dis l:=h.imp fun h=>sLt_ne h
theorem dif_ok {a b:Ao} (ha:TrOk a) (hb:TrOk b):(∀ c∈O4 a b,OkCh c)∧Um 0 (O4 a b) a=(b,⟨0,0⟩):=by
 constructor
 ·intro c hc;unfold O4 at hc;rw [Bl,Bl,Kj,Kj,Kj] at hc;rcases hc with (⟨f,hf,e⟩ | ⟨f,hf,e⟩) | ⟨f,hf,e⟩
  ·unfold rmOf at e;split at e
   ·cases e
   ·cases e;exact ch_ok (.inr rfl) (ha.path f hf) (ha.text f hf)
  ·unfold edOf at e;split at e
   ·rename_i hh
    cases e;exact okCh_ed (ha.path f hf) hh.2 (script_ok (ha.text f hf) (hb.text _ (Wr hb hh.1))).1
   ·cases e
  ·unfold adOf at e;split at e
   ·cases e
   ·cases e;exact ch_ok (.inl rfl) (hb.path f hf) (hb.text f hf)
 ·obtain ⟨l1,r1,o1,m1⟩:=rm_run (b:=b) a 0 a ha (dis_of ha.srt) fun f hf=>hf
  have k1:∀ g,g∈l1↔g∈a∧K1 b g.Path=true:=by
   intro g;rw [m1 g];constructor
   ·rintro ⟨q1,q2⟩;refine ⟨q1,?_⟩;cases hh:K1 b g.Path
    ·exact absurd rfl (q2 g q1 hh)
    ·rfl
   ·rintro ⟨q1,q2⟩;exact ⟨q1,fun f hf hff e=>by rw [← e,q2] at hff;cases hff⟩
  obtain ⟨l2,r2,o2,m2⟩:=ed_run hb a (0+(a.filterMap (rmOf b)).length) l1 o1 (dis_of ha.srt) fun f hf hfb=>(k1 f).2 ⟨hf,hfb⟩
  have same:∀ f∈a,K1 b f.Path=true→¬ Edd b f→f∈b:=by
   intro f hf hfb hne;have hbm:=Wr hb hfb
   have hsc:Mi f.Lines (O5 b f.Path)=[]:=by
    by_cases h0:Mi f.Lines (O5 b f.Path)=[]
    ·exact h0
    ·exact absurd ⟨hfb,h0⟩ hne
   have:f.Lines=O5 b f.Path:=(script_ok (ha.text f hf) (hb.text _ hbm)).2.2 hsc;rw [← this] at hbm;exact hbm
  have k2:∀ g∈l2,g∈b∧K1 a g.Path=true:=by
   intro g hg;rcases (m2 g).1 hg with ⟨q1,q2⟩ | ⟨f,q1,q2,q3⟩
   ·obtain ⟨p1,p2⟩:=(k1 g).1 q1;refine ⟨same g p1 p2 fun he=>q2 g p1 he rfl,has_mem p1⟩
   ·subst q3;exact ⟨Wr hb q2.1,show K1 a f.Path=true from has_mem q1⟩
  obtain ⟨l3,r3,o3,m3⟩:=ad_run (a:=a) hb b (0+(a.filterMap (rmOf b)++a.filterMap (edOf b)).length) l2 o2 (dis_of hb.srt) (fun f hf=>hf) (fun g hg=>(k2 g hg).1) (fun f hf hfa g hg e=>by
   have:=(k2 g hg).2;rw [e,hfa] at this;cases this)
  have hrun:Um 0 (O4 a b) a=(l3,⟨0,0⟩):=by
   unfold O4
   have e12:Um 0 (a.filterMap (rmOf b)++a.filterMap (edOf b)) a=(l2,⟨0,0⟩):=by
    rw [run_app _ _ _ _ (by rw [r1]),r1];exact r2
   rw [run_app _ _ _ _ (by rw [e12]),e12];exact r3
  rw [hrun];congr 1;refine res_eq o3.srt hb.srt fun g=>?_;rw [m3 g];constructor
  ·rintro (q | ⟨q,_⟩)
   ·exact (k2 g q).1
   ·exact q
  ·intro hg;cases hh:K1 a g.Path with
   | false=>exact .inr ⟨hg,rfl⟩
   | true =>
    left;obtain ⟨f,hf,e⟩:=has_ex hh;have hfb:K1 b f.Path=true:=by rw [e];exact has_mem hg
    rw [m2 g];by_cases he:Edd b f
    ·right;refine ⟨f,hf,he,?_⟩;exact srt_uniq hb.srt hg (Wr hb hfb) e.symm
    ·left;have hfg:f=g:=srt_uniq hb.srt (same f hf hfb he) hg e;subst hfg;refine ⟨(k1 f).2 ⟨hf,hfb⟩,fun x hx hxe ex=>?_⟩;have:=srt_uniq ha.srt hf hx ex;subst this;exact he hxe
def Vr (a b:Ao):TreePatch×Fault :=
 if (Ki a).Code≠0 then (⟨[]⟩,Ki a) else if (Ki b).Code≠0 then (⟨[]⟩,⟨(Ki b).Code,-2⟩) else if (O4 a b).length > 30 then (⟨[]⟩,⟨10,-1⟩) else (⟨O4 a b⟩,⟨0,0⟩)
theorem tdifT_f (a b:Ao):Bw ⟨a⟩ ⟨b⟩=some (Vr a b):=by
 unfold Bw Vr;rw [Validate_f,Aa];simp only;rcases Xd a with h | h
 ·have ha:=(Lv a).1 (by rw [h])
  rw [Ae (by rw [h];decide),tsecond_f,Aa,Ae (show ¬ (Ki a).Code≠0 by rw [h];decide)]
  simp only;by_cases hb0:(Ki b).Code=0
  ·have hb:=(Lv b).1 hb0;have hal:=ha.len;have hbl:=hb.len;have i2:=diff2_iter ha hb a 0 [] [] rfl (C8 _) (C8 _);have i1:=diff1_iter ha hb b 0 [] rfl (C8 _);rw [show ((0:Nat):Int)=0 from rfl] at i1 i2;have f1:=Ee (edOf b) a;have f2:=Ee (rmOf b) a;have f3:=Ee (adOf a) b;rw [Af hb0,Ae (by decide),i2,Aa,Ae (fun hn=>hn hb0)]
   unfold Bw.j1 Bw.j2 O4;rw [i1,Aa];simp only [Cw];rw [concat3 (by omega) (by omega) (by omega),Aa]
   by_cases h30:((a.filterMap (rmOf b)++a.filterMap (edOf b)++b.filterMap (adOf a)).length:Int) > 30
   ·rw [Aw h30,Af rfl,Af (by omega)]
   ·rw [Az h30,Ae Ay,Ae (by omega)]
  ·rw [Ae hb0,Af (by simp [hb0]),Af hb0]
 ·rw [Af (by simp [h]),Af h]
theorem tp_refl {l:A0} (h:∀ c∈l,OkCh c) (hl:l.length≤1000):Dj ⟨l⟩ ⟨l⟩=some true:=by
 unfold Dj;simp only;rw [Ae (by simp),scan0 l (fun _ _=>(Option.none:Option Bool)) ?_ ?_,Aa]
 ·have:Ll (fun _ _=>(Option.none:Option Bool)) 0 l=Option.none:=by rw [Tw];intro j hj;rfl
  rw [this];rfl
 ·intro k hk _;unfold Dj.l1;simp only;rw [Aw (by omega),Af rfl,Ds hk,Aa,Aa,refl_ok (h _ (A5 hk)),Aa,Ae (by decide),C9 (by omega) (by omega),Aa];rfl
 ·unfold Dj.l1;rw [Az (by simp),Ae Ay]
theorem ints_eq (a b:List Int) (hb:a.length≤1000000):Ef a b=some (decide (a=b)):=by
 unfold Ef;rw [Q8];by_cases hl:(a.length:Int)=(b.length:Int)
 ·rw [Af hl];have hl':a.length=b.length:=by omega
  obtain ⟨r,h1,h2⟩:=T7 (m:=fun s=>Ef.l1 a b s) (fun s=>∃ k:Nat,s=(k:Int)∧k≤a.length∧a.take k=b.take k) (fun s=>a.length - s.toNat)
   (fun r=>(r=.inr ()∧a=b)∨(r=.inl false∧a≠b)) (by
    rintro s ⟨k,rfl,hk,hall⟩;unfold Ef.l1;rw [A2];by_cases hlt:k < a.length
    ·rw [Af (by omega),Ds hlt,Aa,Ds (by omega),Aa,Q8]
     by_cases he:a[k]=b[k]
     ·rw [Af he,C9 (by omega) (by omega),Aa]
      exact .inl ⟨_,rfl,⟨k+1,by omega,hlt,by rw [Bi hlt,Bi (by omega),hall,he]⟩,by omega⟩
     ·rw [Ae he];exact .inr ⟨_,rfl,.inr ⟨rfl,fun h=>he (by subst h;rfl)⟩⟩
    ·rw [Ae (by omega)]
     refine .inr ⟨_,rfl,.inl ⟨rfl,?_⟩⟩;rw [C5 (by omega),C5 (by omega)] at hall
     exact hall) 0 ⟨0,rfl,Dh _,by simp⟩
  rw [h1,Aa];rcases h2 with ⟨rfl,h⟩ | ⟨rfl,h⟩
  ·rw [Aw h];rfl
  ·rw [Az h]
 ·rw [Ae hl,Az (fun h=>hl (by rw [h]))]
theorem rem_nn {x m:Int} (h0:0≤x) (hm:0 < m):rem? x m=some (x % m):=by
 unfold rem?;rw [Ae (by omega),Int.tmod_eq_emod_of_nonneg h0]
theorem shr1 {b:Int}:shr? .i64 b 1=some (b / 2):=by
 unfold shr?;rw [Ae (by decide)]
 have:(2:Int) ^ (min (1:Int).toNat IntKind.i64.bits)=2:=by decide
 rw [this,Int.fdiv_eq_ediv_of_nonneg _ (by decide)]
def Dig (x:Int):Prop:=0≤x∧x < 2305843009213693951
theorem dig_mod {x:Int}:Dig (x % 2305843009213693951):=⟨Int.emod_nonneg _ (by decide),Int.emod_lt_of_pos _ (by decide)⟩
theorem mul_ok {a b:Int} (ha:Dig a) (hb:0≤b):∃ r,Kr a b=some r∧Dig r:=by
 unfold Kr
 obtain ⟨r,h1,h2⟩:=T7 (m:=fun s:Int×Int×Int=>Kr.l1 s.1 s.2.1 s.2.2) (fun s=>Dig s.1∧Dig s.2.1∧0≤s.2.2) (fun s=>s.2.2.toNat) Dig (by
  rintro ⟨o,x,y⟩ ⟨h1,h2,h3⟩;simp only at h1 h2 h3 ⊢;obtain ⟨p1,p2⟩:=h1;obtain ⟨q1,q2⟩:=h2;unfold Kr.l1;simp only [A2];by_cases hy:y > 0
  ·left;rw [Af hy]
   have j2:∀ o',Dig o'→∃ s',Kr.j2 x y o'=some (.next s')∧(Dig s'.1∧Dig s'.2.1∧0≤s'.2.2)∧s'.2.2.toNat < y.toNat:=by
    intro o' ho;unfold Kr.j2;rw [C9 (by omega) (by omega),Aa,rem_nn (by omega) (by decide),Aa,shr1,Aa]
    exact ⟨_,rfl,⟨ho,dig_mod,by simp only;omega⟩,by simp only;omega⟩
   by_cases hc:andI .i64 y 1=1
   ·rw [Af hc,C9 (by omega) (by omega),Aa,rem_nn (by omega) (by decide),Aa]
    exact j2 _ dig_mod
   ·rw [Ae hc];exact j2 _ ⟨p1,p2⟩
  ·right;rw [Ae hy];exact ⟨_,rfl,p1,p2⟩) (0,a,b) ⟨⟨Int.le_refl 0,(by decide:(0:Int) < 2305843009213693951)⟩,ha,hb⟩
 rw [h1,Aa];exact ⟨r,rfl,h2⟩
theorem dnext_ok {s:Step_digest} {f:Int} (h0:Dig s.e0) (h1:Dig s.e1) (hf:0≤f):∃ r,Tu s f=some r∧Dig r:=by
 obtain ⟨r,h2,h3,h4⟩:=mul_ok h0 hf;unfold Tu;obtain ⟨p1,p2⟩:=h1;rw [h2,Aa,C9 (by omega) (by omega),Aa,rem_nn (by omega) (by decide),Aa]
 exact ⟨_,rfl,dig_mod⟩
theorem of_ok {l:List UInt8} (hl:l.length≤4096):∃ r,Lq l=some (r,⟨0,0⟩)∧Dig r:=by
 unfold Lq;rw [A2,Ae (by omega)]
 obtain ⟨r,h1,h2⟩:=T7 (m:=fun s:Int×Int=>Lq.l1 l s.1 s.2) (fun s=>∃ k:Nat,s.1=(k:Int)∧k≤l.length∧Dig s.2) (fun s=>l.length - s.1.toNat) Dig (by
  rintro ⟨x,h⟩ ⟨k,hx,hk,hd⟩;simp only at hx hd ⊢;subst hx;unfold Lq.l1;rw [A2];by_cases hlt:k < l.length
  ·left;have hb:(l[k]).toNat < 256:=(l[k]).toNat_lt;rw [Af (by omega),Ds hlt,Aa,C9 (by omega) (by omega),Aa,C9 (by omega) (by omega),Aa]
   obtain ⟨r,e1,e2⟩:=dnext_ok (s:={ e0:=h,e1:=((l[k]).toNat:Int)+1 }) (f:=257) hd ⟨by simp only;omega,by simp only;omega⟩ (by decide)
   rw [e1,Aa,C9 (by omega) (by omega),Aa]
   exact ⟨_,rfl,⟨k+1,by simp,hlt,e2⟩,by simp only;omega⟩
  ·right;rw [Ae (by omega)]
   exact ⟨_,rfl,hd⟩) (0,1) ⟨0,rfl,Dh _,by decide,by decide⟩
 rw [h1,Aa];exact ⟨r,rfl,h2⟩
theorem pair_ok {a b:Int} (ha:Dig a) (hb:Dig b):∃ r,Qp a b=some r∧Dig r:=by
 unfold Qp;obtain ⟨r,h1,h2⟩:=dnext_ok (s:={ e0:=b,e1:=7 }) (f:=31) hb ⟨(by decide:(0:Int)≤7),(by decide:(7:Int) < 2305843009213693951)⟩ (by decide)
 rw [h1,Aa];obtain ⟨r',h3,h4⟩:=dnext_ok (s:={ e0:=a,e1:=r }) (f:=1000003) ha h2 (by decide)
 rw [h3];exact ⟨r',rfl,h4⟩
theorem is_eq {a:Int} (h:Dig a):Ys a=some true:=by
 obtain ⟨h1,h2⟩:=h;unfold Ys;rw [A2,Af h1,Aa,Aw h2]
theorem Pair_ok {a b:Int} (ha:Dig a) (hb:Dig b):∃ r,Gd a b=some (r,⟨0,0⟩)∧Dig r:=by
 unfold Gd
 have:Gk (fun s=>Gd.l1 a b s) 0=some (.inr ()):=by
  refine iter_eq_of (fun s=>s=0∨s=1∨s=2) (fun s=>2 - s.toNat) _ ?_ _ (.inl rfl);rintro s (rfl | rfl | rfl)
  ·left;unfold Gd.l1;rw [A2,Af (by decide),show at? [a,b] 0=some a from rfl,Aa,is_eq ha,Aa,Ae (by decide),C9 (by decide) (by decide),Aa]
   exact ⟨_,rfl,.inr (.inl rfl),by decide⟩
  ·left;unfold Gd.l1;rw [A2,Af (by decide),show at? [a,b] 1=some b from rfl,Aa,is_eq hb,Aa,Ae (by decide),C9 (by decide) (by decide),Aa]
   exact ⟨_,rfl,.inr (.inr rfl),by decide⟩
  ·right;unfold Gd.l1;rw [A2,Ae (by decide)]
 rw [this,Aa];simp only;unfold Gd.j1;obtain ⟨r,h1,h2⟩:=pair_ok ha hb;rw [h1,Aa];exact ⟨r,rfl,h2⟩
theorem Pair_pair {a b:Int} (ha:Dig a) (hb:Dig b):Gd a b=(Qp a b).bind fun y=>some (y,⟨0,0⟩):=by
 unfold Gd
 have s0:Gd.l1 a b 0=some (.next 1):=by
  unfold Gd.l1;rw [A2,Af (by decide),show at? [a,b] 0=some a from rfl,Aa,is_eq ha,Aa,Ae (by decide),C9 (by decide) (by decide),Aa];rfl
 have s1:Gd.l1 a b 1=some (.next 2):=by
  unfold Gd.l1;rw [A2,Af (by decide),show at? [a,b] 1=some b from rfl,Aa,is_eq hb,Aa,Ae (by decide),C9 (by decide) (by decide),Aa];rfl
 have s2:Gd.l1 a b 2=some (.done (.inr ())):=by
  unfold Gd.l1;rw [A2,Ae (by decide)]
 rw [C7 s0,C7 s1,C4 s2,Aa];rfl
end Go.Dc
set_option linter.unusedSimpArgs false
set_option linter.unusedVariables false
set_option maxRecDepth 4000
noncomputable section
namespace Go.Dc
open Go
def dg (l:List UInt8):Int:=((Lq l).map (·.1)).getD 0
def pr (a b:Int):Int:=((Gd a b).map (·.1)).getD 0
theorem dg_ok {l:List UInt8} (hl:l.length≤4096):Lq l=some (dg l,⟨0,0⟩)∧Dig (dg l)∧True:=by
 obtain ⟨r,h1,h2⟩:=of_ok hl;have e:dg l=r:=by unfold dg;rw [h1];rfl
 rw [e];exact ⟨h1,h2,trivial⟩
theorem pr_ok {a b:Int} (ha:Dig a) (hb:Dig b):Gd a b=some (pr a b,⟨0,0⟩)∧Qp a b=some (pr a b)∧Dig (pr a b)∧True:=by
 obtain ⟨r,h1,h2⟩:=Pair_ok ha hb;have e:pr a b=r:=by unfold pr;rw [h1];rfl
 rw [e];refine ⟨h1,?_,h2,trivial⟩;rw [Pair_pair ha hb] at h1;obtain ⟨r',h3,_⟩:=pair_ok ha hb;rw [h3,Aa] at h1;cases h1;exact h3
theorem Mv {x:Int} (h0:0≤x) (h1:x≤1000000000000):Dig x:=⟨h0,by omega⟩
def ds (l:Ag):Int:=l.foldl (fun h s=>pr h (dg s.data.toList)) 2
theorem line_len {s:ByteArray} (h:s.size≤4096):s.data.toList.length≤4096:=by rw [Array.length_toList];exact h
theorem dfold_dig:∀ (l:Ag) (x:Int),Dig x→(∀ s∈l,s.size≤4096)→Dig (l.foldl (fun h s=>pr h (dg s.data.toList)) x)
 | [],_,h,_=>h
 | s::l,x,h,hl=>dfold_dig l _ (pr_ok h (dg_ok (line_len (hl s (by simp)))).2.1).2.2.1 fun t ht=>hl t (by simp [ht])
theorem ds_ok {m:Ag} (h:Lr m):H1 m=some (ds m,⟨0,0⟩)∧Dig (ds m)∧True∧K7 m=some (ds m):=by
 have hl:=h.1;have hs:∀ s∈m,s.size≤4096:=fun s hs=>Ck (h.2 s hs).1 (by decide)
 have hd:Dig (ds m):=dfold_dig m 2 (Mv (by decide) (by decide)) hs
 have k1:H1 m=some (ds m,⟨0,0⟩):=by
  unfold H1;rw [A2,Ae (by omega)]
  obtain ⟨r,hr,rfl⟩:=Ov (f:=fun s:Int×Int=>H1.l1 m s.1 s.2) m.length (fun k x=>x=(m.take k).foldl (fun h s=>pr h (dg s.data.toList)) 2) (fun r=>r=.inr (ds m))
   (by
    rintro k x hk rfl;have hx:Dig ((m.take k).foldl (fun h s=>pr h (dg s.data.toList)) 2):=dfold_dig _ 2 (Mv (by decide) (by decide)) fun s hs'=>hs s (C3 hs')
    refine ⟨_,?_,rfl⟩;rw [Bi hk,L4];generalize (m.take k).foldl (fun h s=>pr h (dg s.data.toList)) 2=x at hx ⊢;obtain ⟨d1,d2,_⟩:=dg_ok (line_len (hs _ (A5 hk)));unfold H1.l1;rw [A2,Af (by omega),Ds hk,Aa,d1,Aa]
    simp only [Dd,Eu,C6,Bc,Cg];rw [(pr_ok hx d2).2.1,Aa,C9 (by omega) (by omega),Aa];rfl)
   (by
    rintro x rfl;unfold H1.l1;rw [A2,Ae (by omega),C2]
    exact ⟨_,rfl,rfl⟩) 2 rfl
  rw [hr,Aa];rfl
 exact ⟨k1,hd,trivial,by unfold K7;rw [k1,Aa]⟩
theorem Y2:∀ (l:List Int) (x:Int),Dig x→(∀ s∈l,Dig s)→Dig (l.foldl pr x)
 | [],_,h,_=>h
 | s::l,x,h,hl=>Y2 l _ (pr_ok h (hl s (by simp))).2.2.1 fun t ht=>hl t (by simp [ht])
theorem combine_f {h:Int} {l:List Int} (hh:Dig h) (hl:∀ s∈l,Dig s) (hn:l.length≤1000):Hd h l=some (l.foldl pr h):=by
 unfold Hd
 obtain ⟨r,hr,rfl⟩:=Ov (f:=fun s:Int×Int=>Hd.l1 l s.1 s.2) l.length (fun k x=>x=(l.take k).foldl pr h) (fun r=>r=l.foldl pr h)
  (by
   rintro k x hk rfl;have hx:=Y2 (l.take k) h hh fun s hs=>hl s (C3 hs);refine ⟨_,?_,rfl⟩;rw [Bi hk,L4];generalize (l.take k).foldl pr h=x at hx ⊢;unfold Hd.l1;rw [A2,Af (by omega),Ds hk,Aa,(pr_ok hx (hl _ (A5 hk))).1,Aa,C9 (by omega) (by omega),Aa];rfl)
  (by
   rintro x rfl;unfold Hd.l1;rw [A2,Ae (by omega),C2]
   exact ⟨_,rfl,rfl⟩) h rfl
 rw [hr,Aa];rfl
def hd (x:Int) (h:Hunk):Int:=[h.At,ds h.Old,ds h.New].foldl pr x
def cd0 (x:Int) (c:TreeChange):Int:=[c.Kind,dg c.Path.data.toList,dg c.To.data.toList,ds c.Lines].foldl pr x
def cd (x:Int) (c:TreeChange):Int:=c.Patch.Hunks.foldl hd (cd0 x c)
def pd (p:A0):Int:=p.foldl cd 3
structure HOk (h:Hunk):Prop where
 at0:Dig h.At
 old:Lr h.Old
 new:Lr h.New
theorem hunks_ok {c:TreeChange} (hc:OkCh c):c.Patch.Hunks.length≤130∧∀ h∈c.Patch.Hunks,HOk h:=by
 obtain ⟨h1,h2⟩:=(Td _).1 hc.patch;refine ⟨h1,fun x hx=>?_⟩;obtain ⟨a1,a2,a3,a4,_⟩:=good_at h2 (by omega) x hx
 exact ⟨Mv (by omega) (by omega),(Ko _).2 ((Gq _).2 a3),(Ko _).2 ((Gq _).2 a4)⟩
theorem hd_list {h:Hunk} (hh:HOk h):∀ s∈[h.At,ds h.Old,ds h.New],Dig s:=by
 intro s hs;simp only [Bt,List.not_mem_nil,or_false] at hs;rcases hs with rfl | rfl | rfl
 ·exact hh.at0
 ·exact (ds_ok hh.old).2.1
 ·exact (ds_ok hh.new).2.1
theorem hd_dig {x:Int} {h:Hunk} (hx:Dig x) (hh:HOk h):Dig (hd x h):=Y2 _ _ hx (hd_list hh)
theorem hds_dig:∀ (l:Bx) (x:Int),Dig x→(∀ h∈l,HOk h)→Dig (l.foldl hd x)
 | [],_,h,_=>h
 | s::l,x,h,hl=>hds_dig l _ (hd_dig h (hl s (by simp))) fun t ht=>hl t (by simp [ht])
theorem path_sz {p:ByteArray} (h:K3 p=true):p.size≤60:=by
 unfold K3 at h;rw [Gb] at h;exact L5 h.1
theorem ch_len {c:TreeChange} (hc:OkCh c):c.Path.data.toList.length≤4096∧c.To.data.toList.length≤4096:=by
 refine ⟨line_len (Ck (path_sz hc.path) (by decide)),?_⟩
 by_cases h3:c.Kind=3
 ·exact line_len (Ck (path_sz (hc.to h3).1) (by decide))
 ·rw [hc.noTo h3];decide
theorem cd0_list {c:TreeChange} (hc:OkCh c):∀ s∈[c.Kind,dg c.Path.data.toList,dg c.To.data.toList,ds c.Lines],Dig s:=by
 intro s hs;have hk:=hc.kind;simp only [Bt,List.not_mem_nil,or_false] at hs;rcases hs with rfl | rfl | rfl | rfl
 ·exact Mv (by omega) (by omega)
 ·exact (dg_ok (ch_len hc).1).2.1
 ·exact (dg_ok (ch_len hc).2).2.1
 ·exact (ds_ok ((Ko _).2 ((Gq _).2 hc.lines))).2.1
theorem cd0_dig {x:Int} {c:TreeChange} (hx:Dig x) (hc:OkCh c):Dig (cd0 x c):=Y2 _ _ hx (cd0_list hc)
theorem cd_dig {x:Int} {c:TreeChange} (hx:Dig x) (hc:OkCh c):Dig (cd x c):=hds_dig _ _ (cd0_dig hx hc) (hunks_ok hc).2
theorem cds_dig:∀ (l:A0) (x:Int),Dig x→(∀ h∈l,OkCh h)→Dig (l.foldl cd x)
 | [],_,h,_=>h
 | s::l,x,h,hl=>cds_dig l _ (cd_dig h (hl s (by simp))) fun t ht=>hl t (by simp [ht])
theorem dig3:Dig 3:=Mv (by decide) (by decide)
theorem pd_dig {p:A0} (hp:∀ c∈p,OkCh c):Dig (pd p):=cds_dig p 3 dig3 hp
theorem hloop_f {c:TreeChange} (hc:OkCh c) {x:Int} (hx:Dig x):Gk (fun s=>Cf.l2 c s.1 s.2) (0,x)=some (c.Patch.Hunks.foldl hd x):=by
 obtain ⟨hn,hh⟩:=hunks_ok hc
 obtain ⟨r,hr,rfl⟩:=Ov (f:=fun s:Int×Int=>Cf.l2 c s.1 s.2) c.Patch.Hunks.length (fun k y=>y=(c.Patch.Hunks.take k).foldl hd x) (fun r=>r=c.Patch.Hunks.foldl hd x)
  (by
   rintro k y hk rfl;have hy:=hds_dig (c.Patch.Hunks.take k) x hx fun s hs=>hh s (C3 hs);refine ⟨_,?_,rfl⟩;rw [Bi hk,L4];generalize (c.Patch.Hunks.take k).foldl hd x=y at hy ⊢;have ho:=hh _ (A5 hk);unfold Cf.l2;rw [A2,Af (by omega),Ds hk,Aa,(ds_ok ho.old).2.2.2,Aa,(ds_ok ho.new).2.2.2,Aa,combine_f hy (hd_list ho) (by simp),Aa,C9 (by omega) (by omega),Aa];rfl)
  (by
   rintro y rfl;unfold Cf.l2;rw [A2,Ae (by omega),C2]
   exact ⟨_,rfl,rfl⟩) x rfl
 exact hr
theorem s1_f {s:ByteArray} (h:s.data.toList.length≤4096):L1 s=some (dg s.data.toList):=by
 unfold L1;rw [(dg_ok h).1,Aa]
def pdT (p:A0):Int×Fault:=if (pcF p).Code≠0 then (0,pcF p) else (pd p,⟨0,0⟩)
theorem PatchDigest_f (p:TreePatch):Cf p=some (pdT p.Changes):=by
 obtain ⟨p⟩:=p;unfold Cf pdT;rw [VPatch_f,Aa];simp only;rcases pcF_ok p with h | h
 ·obtain ⟨hl,hp⟩:=(Wh p).1 (by rw [h])
  rw [h];simp only [Dd,Eu,C6,Bc,Cg,ne_eq,not_true_eq_false]
  obtain ⟨r,hr,rfl⟩:=Ov (f:=fun s:Int×Int=>Cf.l1 ⟨p⟩ s.1 s.2) p.length (fun k y=>y=(p.take k).foldl cd 3) (fun r=>r=pd p)
   (by
    rintro k y hk rfl;have hy:=cds_dig (p.take k) 3 dig3 fun s hs=>hp s (C3 hs);refine ⟨_,?_,rfl⟩;rw [Bi hk,L4];generalize (p.take k).foldl cd 3=y at hy ⊢;have hc:=hp _ (A5 hk);have hcl:=(Ko _).2 ((Gq _).2 hc.lines);unfold Cf.l1;simp only;rw [A2,Af (by omega),Ds hk,Aa,s1_f (ch_len hc).1,Aa,s1_f (ch_len hc).2,Aa,(ds_ok hcl).2.2.2,Aa,combine_f hy (cd0_list hc) (by simp),Aa]
    rw [hloop_f hc (Y2 _ _ hy (cd0_list hc)),Aa];unfold Cf.j3 Cf.j2;rw [C9 (by omega) (by omega),Aa];rfl)
   (by
    rintro y rfl;unfold Cf.l1;simp only;rw [A2,Ae (by omega),C2]
    exact ⟨_,rfl,rfl⟩) 3 rfl
  rw [hr,Aa];rfl
 ·rw [Af h,Af (Qd.2 fun h2=>h h2.1)]
def Oc (k:Int):Prop:=1≤k∧k≤1000000000
instance (k:Int):Decidable (Oc k):=inferInstanceAs (Decidable (_∧_))
theorem isKey_f (k:Int):O0 k=some (decide (Oc k)):=by
 unfold O0 Oc;rw [A2];by_cases h:k ≥ 1
 ·rw [Af h,Aa];exact congrArg some (C1.2 ⟨fun h2=>⟨h,h2⟩,fun h2=>h2.2⟩)
 ·rw [Ae h,Aa];exact congrArg some (Az fun h2=>h h2.1).symm
theorem Zh {a:Int} (h:Dig a):Kn a=some true:=by
 obtain ⟨h1,h2⟩:=h;unfold Kn;rw [A2,Af h1,Aa,Aw h2]
def sg (key:Int) (d:List UInt8):Int:=pr key (dg d)
theorem sign_f {key:Int} {d:List UInt8} (hk:Oc key) (hd:d.length≤4096):T2 key d=some (sg key d,⟨0,0⟩)∧Dig (sg key d):=by
 obtain ⟨d1,d2,_⟩:=dg_ok hd;have p:=pr_ok (Mv (x:=key) (by have:=hk.1;omega) (by have:=hk.2;omega)) d2
 refine ⟨?_,p.2.2.1⟩;unfold T2;rw [isKey_f,Aa,Aw hk,Ae (by decide),d1,Aa]
 simp only [Dd,Eu,C6,Bc,Cg];rw [p.1,Aa];rfl
theorem verify_f {key s:Int} {d:List UInt8} (hk:Oc key) (hd:d.length≤4096) (hs:Dig s):Tx key d s=some (decide (sg key d=s),⟨0,0⟩):=by
 unfold Tx;rw [(sign_f hk hd).1,Aa];simp only [Dd,Eu,C6,Bc,Cg];rw [Zh hs,Aa,Ae (by decide)]
theorem big_f {n:Int} (h:Dig n):∃ b,Lo n=some b∧b.length=8:=by
 obtain ⟨h0,h1⟩:=h;unfold Lo
 have hz:∀ k:Int,0≤k→k≤56→∃ z,shr? .i64 n k=some z:=by
  intro k hk hk2;unfold shr?;rw [Ae (by omega)]
  exact ⟨_,rfl⟩
 obtain ⟨r,hr,hq⟩:=T7 (m:=fun s:Int×List UInt8=>Lo.l1 n s.1 s.2) (fun s=>∃ j:Nat,j≤8∧s.1=56 - 8 * (j:Int)∧s.2.length=j) (fun s=>(s.1+8).toNat) (fun r=>r.length=8) (by
  rintro ⟨x,l⟩ ⟨j,hj,hx,hl⟩;simp only at hx hl ⊢;subst hx;unfold Lo.l1;rw [A2];by_cases h8:j=8
  ·right;rw [Ae (by omega)]
   exact ⟨_,rfl,by omega⟩
  ·left;obtain ⟨z,hz⟩:=hz (56 - 8 * (j:Int)) (by omega) (by omega)
   rw [Af (by omega),hz,Aa,Aa,H6 (by rw [Ar];omega),Aa,C9 (by omega) (by omega),Aa]
   exact ⟨_,rfl,⟨j+1,by omega,by simp only;omega,by simp [hl]⟩,by simp only;omega⟩) (56,[]) ⟨0,by omega,by simp,rfl⟩
 rw [hr,Aa];exact ⟨r,rfl,hq⟩
theorem message_f {l:List Int} (hl:l.length≤64) (hd:∀ x∈l,Dig x):∃ d,Hk l=some (d,⟨0,0⟩)∧d.length=8 * l.length:=by
 unfold Hk;rw [A2,Ae (by omega)]
 obtain ⟨r,hr,d,rfl,hq⟩:=Ov (f:=fun s:Int×List UInt8=>Hk.l1 l s.1 s.2) l.length (fun k y=>y.length=8 * k) (fun r=>∃ d,r=.inr d∧d.length=8 * l.length)
  (by
   intro k y hk hy;obtain ⟨b,hb,hb8⟩:=big_f (hd _ (A5 hk));show ∃ s',Hk.l1 l (k:Int) y=some (.next (((k+1:Nat):Int),s'))∧s'.length=8 * (k+1)
   unfold Hk.l1;rw [A2,Af (by omega),Ds hk,Aa,Zh (hd _ (A5 hk)),Aa,Ae (by decide),hb,Aa,H6 (by omega),Aa,C9 (by omega) (by omega),Aa]
   exact ⟨_,rfl,by rw [Au,hy,hb8];omega⟩)
  (by
   intro y hy;unfold Hk.l1;rw [A2,Ae (by omega)]
   exact ⟨_,rfl,_,rfl,hy⟩) [] rfl
 rw [hr,Aa];exact ⟨d,rfl,hq⟩
def md (m:Message_forge):List UInt8:=(Kk m).getD []
structure MsgOk (m:Message_forge):Prop where
 user:Dig m.user
 number:Dig m.number
 base:Dig m.base
theorem pdT_dig (p:A0):Dig (pdT p).1:=by
 unfold pdT;split
 ·exact (Mv (by decide) (by decide):Dig 0)
 ·next h=>exact pd_dig ((Wh p).1 (by simpa using h)).2
theorem md_f {m:Message_forge} (h:MsgOk m):Kk m=some (md m)∧(md m).length=32:=by
 have e:∃ d,Kk m=some d∧d.length=32:=by
  unfold Kk;rw [PatchDigest_f,Aa]
  obtain ⟨d,h1,h2⟩:=message_f (l:=[m.user,m.number,m.base,(pdT m.patch.Changes).1]) (by simp) (by
   intro x hx;simp only [Bt,List.not_mem_nil,or_false] at hx;rcases hx with rfl | rfl | rfl | rfl
   ·exact h.user
   ·exact h.number
   ·exact h.base
   ·exact pdT_dig _)
  rw [h1,Aa];exact ⟨d,rfl,h2⟩
 obtain ⟨d,h1,h2⟩:=e;have:md m=d:=by unfold md;rw [h1];rfl
 rw [this];exact ⟨h1,h2⟩
end Go.Dc
set_option linter.unusedSimpArgs false
set_option linter.unusedVariables false
set_option maxRecDepth 4000
namespace Go.Dc
open Go
def Net (e:ForgeEvent):Prop:=e.Kind=4∨e.Kind=5∨e.Kind=6∨e.Kind=7
instance (e:ForgeEvent):Decidable (Net e):=inferInstanceAs (Decidable (_∨_))
def evD (n:Int) (e:ForgeEvent):Int:=if e.User < 0∨e.User ≥ n∨(e.Kind=3∧¬ Oc e.Key) then 3 else if e.Kind=2 then (pcF e.Patch.Changes).Code else 0
def evN (e:ForgeEvent):Int:=if e.N < 0∨e.N > 1000000000 then 3 else 0
def evC (n:Int) (e:ForgeEvent):Int :=
 if Net e then evN e
 else if e.Kind=1∨e.Kind=2∨e.Kind=3∨e.Kind=8 then
  evD n e
 else 4
theorem ce2 (e:ForgeEvent) (n:Int) (b:Bool):D9.j2 e n b=some (if b=true then evD n e else 4):=by
 unfold D9.j2 evD;cases b
 ·rw [Ae Ay,Ae Ay]
 rw [Af rfl,Af rfl];simp only [A2,isKey_f,VPatch_f,Aa];by_cases h1:e.User < 0
 ·rw [Af h1,Aa,Af rfl,Aa,Af rfl,Af (.inl h1)]
 rw [Ae h1,Aa];simp only [A2];by_cases h2:e.User ≥ n
 ·rw [Af h2,Aa,Af rfl,Af (.inr (.inl h2))]
 rw [Ae h2];by_cases h3:e.Kind=3
 ·rw [Af h3,Aa,Aa];by_cases h4:Oc e.Key
  ·have hP:¬ (e.User < 0∨e.User ≥ n∨(e.Kind=3∧¬ Oc e.Key)):=by rintro (h | h | h);exact h1 h;exact h2 h;exact h.2 h4
   rw [Aw h4,Ae (by decide),Ae hP]
   split <;> rfl
  ·rw [Az h4,Af (by decide),Af (.inr (.inr ⟨h3,h4⟩))]
 ·have hP:¬ (e.User < 0∨e.User ≥ n∨(e.Kind=3∧¬ Oc e.Key)):=by rintro (h | h | h);exact h1 h;exact h2 h;exact h3 h.1
  rw [Ae h3,Aa,Aa,Ae Ay,Ae hP];split <;> rfl
theorem checkEvent_f (e:ForgeEvent) (n:Int):D9 e n=some (evC n e):=by
 have j1t:D9.j1 e n true=some (evN e):=by
  unfold D9.j1 evN;rw [Af rfl];by_cases h1:e.N < 0
  ·rw [Aw h1,Af rfl,Aa,Af rfl,Af (.inl h1)]
  ·rw [Az h1,Ae Ay,Aa,A2];by_cases h2:e.N > 1000000000
   ·rw [Af h2,Af (.inr h2)]
   ·rw [Ae h2,Ae (by omega)]
 have j1f:D9.j1 e n false=some (if e.Kind=1∨e.Kind=2∨e.Kind=3∨e.Kind=8 then
  evD n e
 else 4):=by
  unfold D9.j1;rw [Ae Ay];simp only [ce2,A2];by_cases h1:e.Kind=1
  ·rw [Af h1,Af h1,Af (.inl h1)]
  rw [Ae h1];by_cases h2:e.Kind=2
  ·rw [Af h2,Af h2,Af (.inr (.inl h2))]
  rw [Ae h2];by_cases h3:e.Kind=3
  ·rw [Af h3,Af h3,Af (.inr (.inr (.inl h3)))]
  rw [Ae h3];by_cases h8:e.Kind=8
  ·rw [Af h8,Af (.inr (.inr (.inr h8)))]
  ·rw [Ae h8,Ae (by omega)]
 unfold D9 evC;simp only [A2];by_cases h4:e.Kind=4
 ·rw [Af h4,Aw h4,j1t,Af (show Net e from .inl h4)]
 rw [Ae h4];by_cases h5:e.Kind=5
 ·rw [Af h5,Aw h5,j1t,Af (show Net e from .inr (.inl h5))]
 rw [Ae h5];by_cases h6:e.Kind=6
 ·rw [Af h6,Aw h6,j1t,Af (show Net e from .inr (.inr (.inl h6)))]
 rw [Ae h6];by_cases h7:e.Kind=7
 ·rw [Aw h7,j1t,Af (show Net e from .inr (.inr (.inr h7)))]
 ·rw [Az h7,j1f,Ae (show ¬ Net e by rintro (h | h | h | h) <;> contradiction)]
def evG (n:Int) (k:Nat) (e:ForgeEvent):Option Fault:=if evC n e≠0 then some ⟨evC n e,k⟩ else Option.none
def kyG (k:Nat) (x:Int):Option Fault:=if Oc x then Option.none else some ⟨3,-3 - (k:Int)⟩
def fvF (keys:List Int) (events:B1):Fault :=
 if keys.length=0∨keys.length > 4 then ⟨9,-2⟩ else match Ll kyG 0 keys with
 | some f=>f
 | Option.none=>if events.length > 40 then ⟨2,-1⟩ else (Ll (evG keys.length) 0 events).getD ⟨0,0⟩
theorem FValidate_f (keys:List Int) (events:B1):Ek keys events=some (fvF keys events):=by
 unfold Ek fvF
 have e1:(if decide ((keys.length:Int)=0)=true then some true else some (decide ((keys.length:Int) > 4)))=some (decide (keys.length=0∨keys.length > 4)):=by
  rw [A2];split
  ·rw [Aw (by omega)]
  ·exact congrArg some (C1.2 (by omega))
 rw [e1,Aa,A2];by_cases hk:keys.length=0∨keys.length > 4
 ·rw [Af hk,Af hk]
 rw [Ae hk,Ae hk,scan0 keys kyG ?_ ?_,Aa]
 ·cases hs:Ll kyG 0 keys with
  | some f=>rfl
  | none =>
   show Ek.j1 keys events=_;unfold Ek.j1;simp only;rw [A2];by_cases h40:events.length > 40
   ·rw [Af (by omega),Af h40]
   rw [Ae (by omega),Ae h40,scan0 events (evG keys.length) ?_ ?_,Aa]
   ·cases Ll (evG keys.length) 0 events <;> rfl
   ·intro k hk _;unfold Ek.l1 evG;rw [A2,Af (by omega),Ds hk,Aa,checkEvent_f,Aa]
    by_cases hc:evC keys.length events[k]=0
    ·rw [Aw hc,Ae (by decide),Ae (fun hn=>hn hc),C9 (by omega) (by omega)];rfl
    ·rw [Az hc,Af (show (!false)=true from rfl),Af hc]
   ·unfold Ek.l1;rw [A2,Ae (by omega)]
 ·intro k hk2 _;unfold Ek.l2 kyG;rw [A2,Af (by omega),Ds hk2,Aa,isKey_f,Aa]
  by_cases hc:Oc keys[k]
  ·rw [Aw hc,Ae (by decide),Af hc,C9 (by omega) (by omega)];rfl
  ·rw [Az hc,Af (show (!false)=true from rfl),Ae hc,C9 (by omega) (by omega)];rfl
 ·unfold Ek.l2;rw [A2,Ae (by omega)]
theorem fvF_ok (keys:List Int) (events:B1):fvF keys events=⟨0,0⟩∨(fvF keys events).Code≠0:=by
 unfold fvF;split
 ·right;decide
 ·cases hs:Ll kyG 0 keys with
  | some f =>
   right;obtain ⟨j,hj,e⟩:=Mr hs;unfold kyG at e;split at e
   ·cases e
   ·cases e;simp
  | none =>
   simp only;split
   ·right;decide
   ·cases h:Ll (evG keys.length) 0 events with
    | none=>left;rfl
    | some y =>
     right;obtain ⟨j,hj,e⟩:=Mr h;unfold evG at e;split at e
     ·rename_i hc;cases e;exact hc
     ·cases e
theorem Xz (keys:List Int) (events:B1):(fvF keys events).Code=0↔(1≤keys.length∧keys.length≤4∧∀ k∈keys,Oc k)∧events.length≤40∧∀ e∈events,evC keys.length e=0:=by
 unfold fvF;by_cases hk:keys.length=0∨keys.length > 4
 ·rw [Af hk];exact ⟨fun h=>by simp at h,fun h=>by omega⟩
 rw [Ae hk];cases hs:Ll kyG 0 keys with
 | some f =>
  obtain ⟨j,hj,e⟩:=Mr hs;unfold kyG at e;split at e
  ·cases e
  ·rename_i hc
   cases e;exact ⟨fun h=>by simp at h,fun h=>absurd (h.1.2.2 _ (A5 hj)) hc⟩
 | none =>
  have hall:∀ k∈keys,Oc k:=by
   intro x hx;obtain ⟨j,hj,rfl⟩:=Cd hx;have:=Tw.1 hs j hj;unfold kyG at this;split at this
   ·assumption
   ·cases this
  simp only;by_cases h40:events.length > 40
  ·rw [Af h40];exact ⟨fun h=>by simp at h,fun h=>by omega⟩
  rw [Ae h40];cases h:Ll (evG keys.length) 0 events with
  | some y =>
   obtain ⟨j,hj,e⟩:=Mr h;unfold evG at e;split at e
   ·rename_i hc
    cases e;exact ⟨fun h=>absurd h hc,fun h=>absurd (h.2.2 _ (A5 hj)) hc⟩
   ·cases e
  | none =>
   refine ⟨fun _=>⟨⟨by omega,by omega,hall⟩,by omega,fun e he=>?_⟩,fun _=>rfl⟩
   obtain ⟨j,hj,rfl⟩:=Cd he;have:=Tw.1 h j hj;unfold evG at this;split at this
   ·cases this
   ·rename_i hc;exact Classical.not_not.1 hc
noncomputable def M5 (s:State_forge) (e:ForgeEvent):Option (Int×State_forge):=if Net e then Eg s e else Cm s e
noncomputable def runs:State_forge→List Int→B1→Option (State_forge×List Int)
 | s,out,[]=>some (s,out)
 | s,out,e::r=>(M5 s e).bind fun y=>runs y.2 (out++[y.1]) r
theorem Vy {s s':State_forge} {out:List Int} {e:ForgeEvent} {r:B1} {c:Int} (h:M5 s e=some (c,s')):runs s out (e::r)=runs s' (out++[c]) r:=by
 rw [runs,h,Aa]
theorem play_loop (keys:List Int) (events:B1) (hl:events.length≤1000):∀ (rest:B1) (k:Nat) (out:List Int) (s s':State_forge) (out':List Int),events.drop k=rest→k≤events.length→out.length=k →
  runs s out rest=some (s',out') →
  Gk (fun s=>G5.l1 keys events s.1 s.2.1 s.2.2.1 s.2.2.2.1 s.2.2.2.2.1 s.2.2.2.2.2.1 s.2.2.2.2.2.2) ((k:Int),out,s.keys,s.versions,s.developers,s.flight,s.log)=some (out',s'.keys,s'.versions,s'.developers,s'.flight,s'.log):=by
 intro rest
 induction rest with
 | nil =>
  intro k out s s' out' hk hkl ho hr;have:=Ni hk;rw [runs] at hr;cases hr;refine C4 ?_;unfold G5.l1;simp only;rw [A2,Ae (by omega)]
 | cons e r ih =>
  intro k out s s' out' hk hkl ho hr;obtain ⟨hlt,hx,hr'⟩:=N7 hk;rw [runs] at hr;cases he:M5 s e with
  | none=>rw [he] at hr;cases hr
  | some y =>
   obtain ⟨c,t⟩:=y;rw [he,Aa] at hr;simp only at hr
   have key:G5.l1 keys events (k:Int) out s.keys s.versions s.developers s.flight s.log=some (.next (((k+1:Nat):Int),out++[c],t.keys,t.versions,t.developers,t.flight,t.log)):=by
    have j2:∀ b:Bool,b=decide (Net e)→G5.j2 keys (k:Int) out s.keys s.versions s.developers s.flight s.log e b=some (.next (((k+1:Nat):Int),out++[c],t.keys,t.versions,t.developers,t.flight,t.log)):=by
     rintro b rfl;unfold G5.j2;unfold M5 at he;rw [A2];by_cases hn:Net e
     ·rw [Af hn] at he ⊢;rw [show ({ keys:=s.keys,versions:=s.versions,developers:=s.developers,flight:=s.flight,log:=s.log }:State_forge)=s from rfl,he,Aa,H6 (by rw [Ar];omega),Aa,C9 (by omega) (by omega),Aa];rfl
     ·rw [Ae hn] at he ⊢;rw [show ({ keys:=s.keys,versions:=s.versions,developers:=s.developers,flight:=s.flight,log:=s.log }:State_forge)=s from rfl,he,Aa,H6 (by rw [Ar];omega),Aa,C9 (by omega) (by omega),Aa];rfl
    unfold G5.l1;rw [A2,Af (by omega),Ds hlt,Aa,hx]
    simp only [A2];by_cases h4:e.Kind=4
    ·rw [Af h4];exact j2 _ (C1.2 ⟨fun h=>.inl h,fun _=>h4⟩)
    rw [Ae h4];by_cases h5:e.Kind=5
    ·rw [Af h5];exact j2 _ (C1.2 ⟨fun h=>.inr (.inl h),fun _=>h5⟩)
    rw [Ae h5];by_cases h6:e.Kind=6
    ·rw [Af h6];exact j2 _ (C1.2 ⟨fun h=>.inr (.inr (.inl h)),fun _=>h6⟩)
    rw [Ae h6];exact j2 _ (C1.2 ⟨fun h=>.inr (.inr (.inr h)),fun h=>by rcases h with h | h | h | h;exact absurd h h4;exact absurd h h5;exact absurd h h6;exact h⟩)
   rw [C7 (m:=fun s:Int×List Int×List Int×D8×H0×D5×Df=>G5.l1 keys events s.1 s.2.1 s.2.2.1 s.2.2.2.1 s.2.2.2.2.1 s.2.2.2.2.2.1 s.2.2.2.2.2.2) key];exact ih (k+1) _ t s' out' hr' (by omega) (by rw [Au,ho];rfl) hr
def st0 (keys:List Int):State_forge:=⟨keys,[⟨[]⟩],List.replicate keys.length ⟨⟨[]⟩,0,0,0⟩,[],[]⟩
theorem play_f {keys:List Int} {events:B1} {s:State_forge} {out:List Int} (hv:(fvF keys events).Code=0) (hr:runs (st0 keys) [] events=some (s,out)):G5 keys events=some (.inr (s,out)):=by
 have hz:=(Xz keys events).1 hv;unfold G5;rw [FValidate_f,Aa];rcases fvF_ok keys events with h | h
 ·rw [h];simp only [Dd,Eu,C6,Bc,Cg];rw [mk_eq (by omega) (by omega),Aa,Bn]
  have:=play_loop keys events (by omega) events 0 [] (st0 keys) s out rfl (Dh _) rfl hr
  rw [show ((0:Nat):Int)=0 from rfl] at this;unfold st0 at this;simp only at this;rw [this,Aa];rfl
 ·exact absurd hv h
theorem play_bad {keys:List Int} {events:B1} (hv:(fvF keys events).Code≠0):G5 keys events=some (.inl (fvF keys events)):=by
 unfold G5;rw [FValidate_f,Aa,Af (Qd.2 fun h2=>hv h2.1)]
theorem Run_bad {keys:List Int} {events:B1} (hv:(fvF keys events).Code≠0):Mu keys events=some (⟨[]⟩,[],[],fvF keys events):=by
 unfold Mu;rw [play_bad hv,Aa]
theorem newest_f {s:State_forge} {v:D8} {t:FileTree} (h:s.versions=v++[t]) (hl:v.length≤100000):Kz s=some t:=by
 unfold Kz;rw [h,Au,Ar,C9 (by omega) (by omega),Aa]
 rw [show ((v.length+1:Nat):Int) - 1=(v.length:Int) by omega,Ds (by simp),Aa]
 simp
theorem Run_f {keys:List Int} {events:B1} {s:State_forge} {out:List Int} {v:D8} {t:Ao} (hv:(fvF keys events).Code=0) (hr:runs (st0 keys) [] events=some (s,out))
  (h:s.versions=v++[⟨t⟩]) (hl:v.length≤100000) (ht:TrOk t):Mu keys events=some (⟨t⟩,s.log,out,⟨0,0⟩):=by
 unfold Mu;rw [play_f hv hr,Aa];simp only;rw [newest_f h hl,Aa,copyT_f (fun f hf=>by have:=ht.text_len hf;omega) (by have:=ht.len;omega),Aa]
end Go.Dc
set_option linter.unusedSimpArgs false
set_option linter.unusedVariables false
set_option maxRecDepth 4000
namespace Go.Dc
open Go
structure Side (t:Ag) (hs:Bx):Prop where
 chn:Chn (-1) hs
 ins:∀ h∈hs,0≤h.At∧h.At+h.Old.length≤t.length∧h.New.length≤120∧∀ s∈h.New,OkLine s
 len:hs.length≤130
theorem script_side {a b:Ag} (ha:Lr a) (hb:Lr b):Side a (Mi a b):=by
 have h0:ScI a b ([],0,false) 0 0:=⟨rfl,C8 _,by simp [preS,endS],fun h=>by simp at h,fun _=>.inl rfl,trivial,fun h hh=>by cases hh⟩
 have h:=scr_ok _ 0 0 _ rfl (Dh _) (Dh _) h0;rw [List.drop_zero,List.drop_zero] at h;obtain ⟨_,g2⟩:=good_of ha hb (Mi a b) (-1) h.chn h.each;have hlen:=g2 (by omega) (by omega)
 refine ⟨h.chn,fun x hx=>?_,by omega⟩
 obtain ⟨p,q,h1,h2,h3,h4,h5,_⟩:=h.each x hx;have:=hb.1;refine ⟨by omega,by omega,by omega,fun s hs=>?_⟩
 rw [h5] at hs;exact hb.2 s (Et (C3 hs))
theorem Side.sm {t:Ag} (ht:t.length≤120) {hs:Bx} (h:Side t hs):Sm 120 hs:=⟨h.len,fun x hx=>by
 obtain ⟨h1,h2,h3,_⟩:=h.ins x hx;exact ⟨by omega,by omega,by omega,h3⟩⟩
abbrev RX:=RangeX_commute
def rx (h:Hunk):RX:=⟨h.At,h.At+h.Old.length,[]⟩
def L2 (x y:RX):Prop:=x.Low < y.Low∨(x.Low=y.Low∧x.High < y.High)
def RB (n:Nat) (r:RX):Prop:=0≤r.Low∧r.Low≤r.High∧r.High≤n∧r.Growth=[]
theorem s2_f {n:Nat} (hn:n≤120) {x y:RX} (hx:RB n x) (hy:RB n y):∃ r,Hu x y=some r∧(r < 0↔L2 x y):=by
 obtain ⟨x1,x2,x3,_⟩:=hx;obtain ⟨y1,y2,y3,_⟩:=hy;unfold Hu L2;rw [Q8];by_cases h:x.Low=y.Low
 ·rw [Af h,C9 (by omega) (by omega),Aa]
  exact ⟨_,rfl,by omega⟩
 ·rw [Ae h,C9 (by omega) (by omega),Aa]
  exact ⟨_,rfl,by omega⟩
theorem s2_lt {n:Nat} (hn:n≤120) {x y:RX} (hx:RB n x) (hy:RB n y):ltM Hu x y=true↔L2 x y:=by
 obtain ⟨r,e,h⟩:=s2_f hn hx hy;unfold ltM;rw [e,Option.getD_some,Cs];exact h
theorem s2_ge {n:Nat} (hn:n≤120) {x y:RX} (hx:RB n x) (hy:RB n y):ltM Hu x y=false↔¬ L2 x y:=by
 rw [← s2_lt hn hx hy];simp
theorem fitX {n:Nat} (hn:n≤120) {l:List RX} (h:∀ x∈l,RB n x):CmpFit Hu l where
 some_:=fun x hx y hy=>by obtain ⟨r,e,_⟩:=s2_f hn (h x hx) (h y hy);exact ⟨r,e⟩
 irrefl:=fun x hx=>(s2_ge hn (h x hx) (h x hx)).2 (by unfold L2;omega)
 trans:=fun x hx y hy z hz h1 h2=>(s2_lt hn (h x hx) (h z hz)).2 (by
  have h1:=(s2_lt hn (h x hx) (h y hy)).1 h1;have h2:=(s2_lt hn (h y hy) (h z hz)).1 h2;unfold L2 at *;omega)
 ntrans:=fun x hx y hy z hz h1 h2=>(s2_ge hn (h x hx) (h z hz)).2 (by
  have h1:=(s2_ge hn (h x hx) (h y hy)).1 h1;have h2:=(s2_ge hn (h y hy) (h z hz)).1 h2;unfold L2 at *;omega)
 anti:=fun x hx y hy h1 h2=>by
  have h1:=(s2_ge hn (h x hx) (h y hy)).1 h1;have h2:=(s2_ge hn (h y hy) (h x hx)).1 h2;have e1:=(h x hx).2.2.2;have e2:=(h y hy).2.2.2;obtain ⟨a,b,c⟩:=x;obtain ⟨a',b',c'⟩:=y;simp only at e1 e2;unfold L2 at h1 h2;simp only at h1 h2;have:a=a'∧b=b':=by omega
  rw [this.1,this.2,e1,e2]
def touchB (a b:RX):Bool:=decide (a.High ≥ b.Low) && decide (b.High ≥ a.Low)
def We (out:List RX) (r:RX):List RX:=match out.getLast? with
 | Option.none=>[r]
 | some l=>if touchB l r=true then out.dropLast++[⟨l.Low,max l.High r.High,l.Growth⟩] else out++[r]
theorem touch_x (a b:RX):Q0 a b=some (touchB a b):=by
 unfold Q0 touchB;by_cases h:a.High ≥ b.Low <;> simp [h]
theorem rstep_len (out:List RX) (r:RX):(We out r).length≤out.length+1:=by
 unfold We;split
 ·simp
 ·split <;> simp
theorem fold_len:∀ (l out:List RX),(l.foldl We out).length≤out.length+l.length
 | [],out=>by simp
 | r::l,out=>by
  have:=fold_len l (We out r);have:=rstep_len out r;rw [Hv,Dl];omega
theorem rg_loop {ys:List RX} (hl:ys.length≤1000):Gk (fun s=>E7.l1 ys s.1 s.2) (0,[])=some (ys.foldl We []):=by
 obtain ⟨r,e,rfl⟩:=Ov (f:=fun s=>E7.l1 ys s.1 s.2) ys.length (fun k s=>s=(ys.take k).foldl We []) (fun r=>r=ys.foldl We []) (by
  rintro k s hk hs;have hlen:=fold_len (ys.take k) [];rw [← hs,Bg,Kt] at hlen
  have hj:∀ w,E7.j2 (k:Int) w=some (.next (((k+1:Nat):Int),w)):=by
   intro w;unfold E7.j2;rw [C9 (by omega) (by omega),Aa];rfl
  refine ⟨We s ys[k],?_,by rw [Bi hk,L4,← hs];rfl⟩
  unfold E7.l1;simp only;rw [A2,Af (by omega),Ds hk,Aa]
  unfold We;rcases O3 s with rfl | ⟨o,l,rfl⟩
  ·rw [A2,Ae (by simp),Aa,Ae Ay,H6 (by simp),Aa,hj];rfl
  ·rw [O2] at *;rw [Au,Ar] at *;have e1:((o.length+1:Nat):Int) - 1=(o.length:Int):=by omega
   have e2:at? (o++[l]) (o.length:Int)=some l:=by rw [Ds (by simp)];simp
   rw [A2,Af (by omega),C9 (by omega) (by omega),Aa,e1,e2,Aa,touch_x,Aa,Aa]
   simp only [Qm,Me,Option.some_or,Qk];cases ht:touchB l ys[k]
   ·rw [Ae Ay,Ae Ay,H6 (by simp;omega),Aa,hj]
   ·rw [Af rfl,Af rfl];simp only [e2,Aa];rw [hj,Bn]
    simp) (by
  rintro s rfl;unfold E7.l1;simp only;rw [A2,Ae (by omega),C2]
  exact ⟨_,rfl,rfl⟩) [] rfl
 exact e
noncomputable def regF (P Q:Bx):List RX:=((P.map rx++Q.map rx).mergeSort fun x y=>!ltM Hu y x).foldl We []
theorem rb_of {t:Ag} {hs:Bx} (h:Side t hs):∀ r∈hs.map rx,RB t.length r:=by
 intro r hr;obtain ⟨x,hx,rfl⟩:=Kd.1 hr;obtain ⟨h1,h2,_⟩:=h.ins x hx;exact ⟨h1,by unfold rx;simp only;omega,h2,rfl⟩
theorem rb_both {t:Ag} {P Q:Bx} (hP:Side t P) (hQ:Side t Q):∀ r∈P.map rx++Q.map rx,RB t.length r:=by
 intro r hr;rcases Bl.1 hr with hr | hr
 ·exact rb_of hP r hr
 ·exact rb_of hQ r hr
theorem regions_f {t:Ag} (ht:t.length≤120) {P Q:Bx} (hP:Side t P) (hQ:Side t Q):E7 ⟨P⟩ ⟨Q⟩=some (regF P Q):=by
 have h1:=hP.len;have h2:=hQ.len;have hm:∀ l:Bx,(l.map rng).map M9=l.map rx:=fun l=>by rw [List.map_map];rfl
 unfold E7;rw [oldRanges_f (by omega) ⟨P⟩ (hP.sm ht),Aa,oldRanges_f (by omega) ⟨Q⟩ (hQ.sm ht),Aa]
 simp only;rw [hm,hm,H6 (by simp;omega),Aa,sortM_eq (fitX ht (rb_both hP hQ)) (by simp;omega),Aa,rg_loop (Ck (Nat.le_of_eq (List.mergeSort_perm _ _).length_eq) (by rw [Au,Dz,Dz];omega)),Aa]
 rfl
structure Rgs (n:Nat) (all out:List RX):Prop where
 sep:out.Pairwise fun a b=>a.High < b.Low
 bd:∀ r∈out,0≤r.Low∧r.Low≤r.High∧r.High≤n
 cov:∀ a∈all,∃ r∈out,r.Low≤a.Low∧a.High≤r.High
 len:out.length≤all.length
theorem rgs_fold {n:Nat}:∀ (rest pre out:List RX),Rgs n pre out→(∀ b∈rest,RB n b)→(∀ l,out.getLast? = some l→∀ b∈rest,l.Low≤b.Low)→rest.Pairwise (fun x y=>x.Low≤y.Low)→Rgs n (pre++rest) (rest.foldl We out)
 | [],pre,out,h,_,_,_=>by simpa using h
 | r::rest,pre,out,h,hb,hL,hp=>by
  rw [Du] at hp;obtain ⟨r1,r2,r3,_⟩:=hb r B9;have hb':∀ b∈rest,RB n b:=fun b hb2=>hb b (Be _ hb2);have hlen:=h.len;rw [Hv,show pre++r::rest=(pre++[r])++rest from by simp]
  rcases O3 out with rfl | ⟨o,l,rfl⟩
  ·refine rgs_fold rest _ _ ⟨H9 _ _,?_,?_,by have:(We [] r).length=1:=rfl;rw [Au,Ar];omega⟩ hb' ?_ hp.2
   ·intro x hx;rw [show We [] r=[r] from rfl,Bd] at hx;subst hx;exact ⟨r1,r2,r3⟩
   ·intro a ha;rcases Bl.1 ha with ha | ha
    ·obtain ⟨x,hx,_⟩:=h.cov a ha;cases hx
    ·rw [Bd] at ha;subst ha;exact ⟨a,by rw [show We [] a=[a] from rfl];simp,Int.le_refl _,Int.le_refl _⟩
   ·intro l hl b hb2;rw [show We [] r=[r] from rfl,Me] at hl;cases hl;exact hp.1 b hb2
  ·rw [O2] at *;have hgl:(o++[l]).getLast? = some l:=by simp
   have hlr:=hL l hgl r B9;obtain ⟨l1,l2,l3⟩:=h.bd l (by simp)
   have hsep:=h.sep;rw [Kb] at hsep
   have est:We (o++[l]) r=if touchB l r=true then o++[⟨l.Low,max l.High r.High,l.Growth⟩] else o++[l]++[r]:=by
    unfold We;rw [hgl];simp only [Qk]
   rw [Au,Ar] at hlen;rw [est];by_cases ht:touchB l r=true
   ·rw [Af ht];refine rgs_fold rest _ _ ⟨?_,?_,?_,by simp;omega⟩ hb' ?_ hp.2
    ·rw [Kb];refine ⟨hsep.1,H9 _ _,fun x hx y hy=>?_⟩;rw [Bd] at hy;subst hy;exact hsep.2.2 x hx l (by simp)
    ·intro x hx;rcases Bl.1 hx with hx | hx
     ·exact h.bd x (Gz _ hx)
     ·rw [Bd] at hx;subst hx;simp only;omega
    ·intro a ha;rcases Bl.1 ha with ha | ha
     ·obtain ⟨x,hx,c1,c2⟩:=h.cov a ha;rcases Bl.1 hx with hx | hx
      ·exact ⟨x,Gz _ hx,c1,c2⟩
      ·rw [Bd] at hx;subst hx;exact ⟨_,H4 _ (Bd.2 rfl),c1,by simp only;omega⟩
     ·rw [Bd] at ha;subst ha;exact ⟨_,H4 _ (Bd.2 rfl),hlr,by simp only;omega⟩
    ·intro q hq b hb2;simp only [Qm,Me,Option.some_or] at hq;cases hq;have:=hp.1 b hb2;simp only;omega
   ·rw [Ae ht]
    have hgap:l.High < r.Low:=by
     unfold touchB at ht;simp only [Gb,Cs,not_and] at ht;by_cases h1:l.High ≥ r.Low
     ·exact absurd (show r.High ≥ l.Low by omega) (ht h1)
     ·omega
    refine rgs_fold rest _ _ ⟨?_,?_,?_,by simp;omega⟩ hb' ?_ hp.2
    ·rw [Kb];refine ⟨h.sep,H9 _ _,fun x hx y hy=>?_⟩;rw [Bd] at hy;subst hy;rcases Bl.1 hx with hx | hx
     ·have:=hsep.2.2 x hx l (by simp);omega
     ·rw [Bd] at hx;subst hx;exact hgap
    ·intro x hx;rcases Bl.1 hx with hx | hx
     ·exact h.bd x hx
     ·rw [Bd] at hx;subst hx;exact ⟨r1,r2,r3⟩
    ·intro a ha;rcases Bl.1 ha with ha | ha
     ·obtain ⟨x,hx,c⟩:=h.cov a ha;exact ⟨x,Gz _ hx,c⟩
     ·rw [Bd] at ha;subst ha;exact ⟨a,H4 _ (Bd.2 rfl),Int.le_refl _,Int.le_refl _⟩
    ·intro q hq b hb2;simp only [Qm,Me,Option.some_or] at hq;cases hq;exact hp.1 b hb2
theorem regF_ok {t:Ag} (ht:t.length≤120) {P Q:Bx} (hP:Side t P) (hQ:Side t Q):Rgs t.length ((P.map rx++Q.map rx).mergeSort fun x y=>!ltM Hu y x) (regF P Q):=by
 have hperm:=List.mergeSort_perm (P.map rx++Q.map rx) fun x y=>!ltM Hu y x;have hpw:=sortM_pw (fitX ht (rb_both hP hQ));have hrb:=rb_both hP hQ;unfold regF;generalize (P.map rx++Q.map rx).mergeSort (fun x y=>!ltM Hu y x)=ys at hperm hpw;have hb:∀ b∈ys,RB t.length b:=fun b hb=>hrb b (hperm.mem_iff.1 hb)
 have:=rgs_fold (n:=t.length) ys [] [] ⟨List.Pairwise.nil,by simp,by simp,by simp⟩ hb (by simp) (by
  rw [Cp] at hpw ⊢;intro i j hi hj hij;have h:=(s2_ge ht (hb _ (A5 hj)) (hb _ (A5 hi))).1 (hpw i j hi hj hij);unfold L2 at h;omega)
 simpa using this
theorem reg_len {t:Ag} (ht:t.length≤120) {P Q:Bx} (hP:Side t P) (hQ:Side t Q):(regF P Q).length≤260:=by
 have h1:=(regF_ok ht hP hQ).len;have h2:=(List.mergeSort_perm (P.map rx++Q.map rx) fun x y=>!ltM Hu y x).length_eq;have:=hP.len;have:=hQ.len;rw [Au,Dz,Dz] at h2;omega
def inB (r:RX) (h:Hunk):Bool:=decide (r.Low≤h.At) && decide (h.At+h.Old.length≤r.High)
def wi (P:Bx) (r:RX):Bx:=P.filter (inB r)
theorem within_f {t:Ag} (ht:t.length≤120) {P:Bx} (hP:Side t P) (r:RX):Gy ⟨P⟩ r=some (wi P r):=by
 have hl:=hP.len;unfold Gy
 obtain ⟨q,e,rfl⟩:=Ov (f:=fun s=>Gy.l1 ⟨P⟩ r s.1 s.2) P.length (fun k s=>s=wi (P.take k) r) (fun q=>q=wi P r) (by
  rintro k s hk rfl;have hlen:(wi (P.take k) r).length≤k:=Ck (Lw _ _) (by rw [Bg];omega)
  have hj:∀ w,Gy.j2 (k:Int) w=some (.next (((k+1:Nat):Int),w)):=by
   intro w;unfold Gy.j2;rw [C9 (by omega) (by omega),Aa];rfl
  obtain ⟨h1,h2,_⟩:=hP.ins _ (A5 hk);refine ⟨_,?_,rfl⟩
  have e:wi (P.take (k+1)) r=wi (P.take k) r++if inB r P[k]=true then [P[k]] else []:=by
   unfold wi;rw [Bi hk,List.filter_append];cases h:inB r P[k] <;> simp [h]
  unfold Gy.l1;simp only;rw [A2,Af (by omega),Ds hk,Aa,end_f _ (by omega) (by omega) (by omega),Aa]
  have ec:(if decide (P[k].At ≥ r.Low)=true then some (decide (P[k].At+(P[k].Old.length:Int)≤r.High)) else some false)=some (inB r P[k]):=by
   unfold inB;by_cases h:r.Low≤P[k].At <;> simp [h]
  rw [ec,Aa,e];cases h:inB r P[k]
  ·rw [Ae Ay,Ae Ay,hj,Ba]
  ·rw [Af rfl,Af rfl,H6 (by rw [Ar];omega),Aa,hj]) (by
  rintro s rfl;unfold Gy.l1;simp only;rw [A2,Ae (by omega),C2]
  exact ⟨_,rfl,rfl⟩) [] rfl
 rw [e,Aa];rfl
def rawIn (t:Ag):Bx→Nat→Nat→Ag
 | [],lo,hi=>(t.drop lo).take (hi - lo)
 | h::r,lo,hi=>(t.drop lo).take (h.At.toNat - lo)++(h.New++rawIn t r (h.At.toNat+h.Old.length) hi)
def InR:Bx→Nat→Nat→Prop
 | [],lo,hi=>lo≤hi
 | h::r,lo,hi=>(lo:Int)≤h.At∧InR r (h.At.toNat+h.Old.length) hi
theorem InR.le:∀ {hs:Bx} {lo hi:Nat},InR hs lo hi→lo≤hi
 | [],_,_,h=>h
 | _::_,_,_,h=>by have:=InR.le h.2;have:=h.1;omega
theorem raw_in {t:Ag} (ht:t.length≤120) {hi:Nat} (hhi:hi≤t.length) (hs:Bx) (hn:hs.length≤130) (hnew:∀ h∈hs,h.New.length≤120):∀ (rest:Bx) (k lo:Nat) (out:Ag),hs.drop k=rest→InR rest lo hi→out.length≤k * 240→k≤130 →
  ∃ fin:Nat,fin≤hi∧∃ o,Gk (fun s=>Ei.l1 hs t s.1 s.2.1 s.2.2) ((k:Int),out,(lo:Int))=some (o,(fin:Int))∧o++(t.drop fin).take (hi - fin)=out++rawIn t rest lo hi∧o.length≤131 * 240
 | [],k,lo,out,hk,hin,hout,hk2=>by
  have:=Ni hk;refine ⟨lo,hin,out,C4 ?_,rfl,by omega⟩
  unfold Ei.l1;simp only;rw [A2,Ae (by omega)]
 | h::rest,k,lo,out,hk,hin,hout,hk2=>by
  obtain ⟨hlt,hh,hr⟩:=N7 hk;have hmem:h∈hs:=by rw [← hh];exact A5 hlt
  have h1:=hnew h hmem;obtain ⟨c1,c2⟩:=hin;have c3:=c2.le
  have e0:Ei.l1 hs t (k:Int) out (lo:Int)=some (.next (((k+1:Nat):Int),out++(t.drop lo).take (h.At.toNat - lo)++h.New,((h.At.toNat+h.Old.length:Nat):Int))):=by
   unfold Ei.l1;have hc:(((t.take h.At.toNat).drop lo):Ag)=(t.drop lo).take (h.At.toNat - lo):=by rw [List.take_drop];congr 2;omega
   rw [A2,Af (by omega),Ds hlt,Aa,hh,Vd (by omega) (by omega) (by omega),Aa,Bn,hc]
   have l1:((t.drop lo).take (h.At.toNat - lo)).length≤120:=by simp;omega
   rw [H6 (by omega),Aa,H6 (by rw [Au];omega),Aa,end_f h (by omega) (by omega) (by omega),Aa,C9 (by omega) (by omega),Aa]
   have e7:h.At+(h.Old.length:Int)=((h.At.toNat+h.Old.length:Nat):Int):=by omega
   rw [e7];rfl
  obtain ⟨fin,f1,o,f2,f3,f4⟩:=raw_in ht hhi hs hn hnew rest (k+1) (h.At.toNat+h.Old.length) (out++(t.drop lo).take (h.At.toNat - lo)++h.New) hr c2 (by simp only [Au,Bg,Bz];omega) (by omega)
  refine ⟨fin,f1,o,by rw [C7 (m:=fun s:Int×Ag×Int=>Ei.l1 hs t s.1 s.2.1 s.2.2) e0];exact f2,?_,f4⟩
  rw [f3,rawIn];simp only [A6]
theorem RawIn_f {t:Ag} (ht:t.length≤120) {hs:Bx} (hn:hs.length≤130) (hnew:∀ h∈hs,h.New.length≤120) {lo hi:Nat} (hhi:hi≤t.length) (hin:InR hs lo hi):Ei hs t (lo:Int) (hi:Int)=some (rawIn t hs lo hi):=by
 obtain ⟨fin,f1,o,f2,f3,f4⟩:=raw_in ht hhi hs hn hnew hs 0 lo [] rfl hin (by simp) (by omega)
 unfold Ei;rw [show ((0:Nat):Int)=0 from rfl] at f2;rw [f2,Aa];unfold Ei.j1;have hc:(((t.take hi).drop fin):Ag)=(t.drop fin).take (hi - fin):=by rw [List.take_drop];congr 2;omega
 rw [Vd (by omega) (by omega) (by omega),Aa,Bn,Bn,hc,H6 (by simp;omega),Aa,f3]
 rfl
theorem wi_in {r:RX} (h0:0≤r.Low):∀ (P:Bx) (e:Int) (lo:Nat),Chn e P→(∀ h∈P,0≤h.At)→((lo:Int)≤e+1∨(lo:Int)≤r.Low)→(lo:Int)≤r.High→InR (wi P r) lo r.High.toNat
 | [],e,lo,_,_,_,hr=>by
  show lo≤_;omega
 | h::P,e,lo,hc,hp,hlo,hr=>by
  obtain ⟨c1,c2⟩:=hc;have hp0:=hp h B9;have hp':∀ x∈P,0≤x.At:=fun x hx=>hp x (Be _ hx);unfold wi;rw [List.filter_cons];cases hb:inB r h
  ·rw [Ae Ay];exact wi_in h0 P _ lo c2 hp' (by omega) hr
  ·rw [Af rfl];unfold inB at hb;simp only [Gb,Cs] at hb;exact ⟨by omega,wi_in h0 P _ _ c2 hp' (by omega) (by omega)⟩
theorem rawIn_len (t:Ag):∀ (hs:Bx) (lo hi:Nat),(∀ h∈hs,h.New.length≤120)→(rawIn t hs lo hi).length≤(hs.length+1) * (120+t.length)
 | [],lo,hi,_=>by rw [rawIn];simp;omega
 | h::hs,lo,hi,hn=>by
  have:=rawIn_len t hs (h.At.toNat+h.Old.length) hi fun x hx=>hn x (Be _ hx);have:=hn h B9;rw [rawIn,Au,Au,Dl,B4];have:((t.drop lo).take (h.At.toNat - lo)).length≤t.length:=by simp;omega
  omega
end Go.Dc
set_option linter.unusedSimpArgs false
set_option linter.unusedVariables false
set_option maxRecDepth 4000
namespace Go.Dc
open Go
def linC (l:Ag):Chunk:=⟨false,l,[],[],[]⟩
def Tz (out:E6) (l:Ag):E6 :=
 if l=[] then out else match out.getLast? with
 | Option.none=>[linC l]
 | some c=>if c.Conflict=true then out++[linC l] else out.dropLast++[{ c with Lines:=c.Lines++l }]
structure Csm (k B:Nat) (out:E6):Prop where
 len:out.length≤k
 lin:∀ c∈out,c.Lines.length≤B
 oth:∀ c∈out,c.Base.length≤40000∧c.Left.length≤40000∧c.Right.length≤40000
theorem Csm.le {k B k' B':Nat} {o:E6} (h:Csm k B o) (hk:k≤k') (hB:B≤B'):Csm k' B' o :=
 ⟨Ck h.len hk,fun c hc=>Ck (h.lin c hc) hB,h.oth⟩
theorem plain_f {k B:Nat} {out:E6} (h:Csm k B out) (hk:k≤100000) (hB:B≤100000000) {l:Ag} (hl:l.length≤40000):Gf ⟨out⟩ l=some ⟨Tz out l⟩∧Csm (k+1) (B+l.length) (Tz out l):=by
 have hlen:=h.len;unfold Gf Tz;by_cases h0:l=[]
 ·subst h0;rw [Af (by simp),Af rfl]
  exact ⟨rfl,by omega,fun c hc=>by have:=h.lin c hc;omega,h.oth⟩
 rw [Ae (by simpa using h0),Ae h0]
 have hj:∀ (o:E6) (c:Chunk),o.length≤100000→c.Lines.length≤100000000→Gf.j1 l (o++[c])=some ⟨o++[{ c with Lines:=c.Lines++l }]⟩:=by
  intro o c ho hc;unfold Gf.j1;have e1:(((o++[c]).length:Nat):Int) - 1=(o.length:Int):=by rw [Au,Ar];omega
  have e2:at? (o++[c]) (o.length:Int)=some c:=by rw [Ds (by simp)];simp
  rw [e1,C9 (by omega) (by omega),Aa,e2,Aa,H6 (by omega),Aa,Aa,Bn]
  simp
 rcases O3 out with rfl | ⟨o,c,rfl⟩
 ·rw [Af (by simp),Aa,Af rfl,H6 (by simp),Aa,hj [] _ (by simp) (by simp)]
  refine ⟨rfl,by simp,fun c hc=>?_,fun c hc=>?_⟩
  ·rw [show (([]:E6).getLast?)=Option.none from rfl] at hc;rw [Bd] at hc;subst hc;simp only [linC];omega
  ·rw [show (([]:E6).getLast?)=Option.none from rfl] at hc;rw [Bd] at hc;subst hc;simp [linC]
 ·rw [O2] at *;rw [Au,Ar] at *;have e1:((o.length+1:Nat):Int) - 1=(o.length:Int):=by omega
  have e2:at? (o++[c]) (o.length:Int)=some c:=by rw [Ds (by simp)];simp
  have hc:=h.lin c (by simp)
  have hco:=h.oth c (by simp)
  have hgl:(o++[c]).getLast? = some c:=by simp
  have ho:∀ x∈o,x.Lines.length≤B:=fun x hx=>h.lin x (Gz _ hx);have hoo:∀ x∈o,x.Base.length≤40000∧x.Left.length≤40000∧x.Right.length≤40000:=fun x hx=>h.oth x (Gz _ hx);rw [A2,Ae (by omega),C9 (by omega) (by omega),Aa,e1,e2,Aa,Aa,hgl]
  simp only [Qk];cases hcc:c.Conflict
  ·rw [Ae Ay,Ae Ay,hj o c (by omega) (by omega)]
   refine ⟨by rw [hcc],by rw [Au,Ar];omega,fun x hx=>?_,fun x hx=>?_⟩
   ·rcases Bl.1 hx with hx | hx
    ·have:=ho x hx;omega
    ·rw [Bd] at hx;subst hx;simp only [Au];omega
   ·rcases Bl.1 hx with hx | hx
    ·exact hoo x hx
    ·rw [Bd] at hx;subst hx;exact hco
  ·rw [Af rfl,Af rfl,H6 (by rw [Au,Ar,Ar];omega),Aa,hj (o++[c]) _ (by rw [Au,Ar];omega) (by simp)]
   refine ⟨rfl,by rw [Au,Au,Ar,Ar];omega,fun x hx=>?_,fun x hx=>?_⟩
   ·rcases Bl.1 hx with hx | hx
    ·have:=h.lin x hx;omega
    ·rw [Bd] at hx;subst hx;simp only [linC];omega
   ·rcases Bl.1 hx with hx | hx
    ·exact h.oth x hx
    ·rw [Bd] at hx;subst hx;simp [linC]
def AA (t:Ag) (P:Bx) (r:RX):Ag:=rawIn t (wi P r) r.Low.toNat r.High.toNat
def mchk (t:Ag) (P Q:Bx):List RX→Nat→E6→E6
 | [],at_,o=>Tz o (t.drop at_)
 | r::R,at_,o =>
  if wi Q r=[]∨AA t P r=AA t Q r then mchk t P Q R r.High.toNat (Tz (Tz o ((t.drop at_).take (r.Low.toNat - at_))) (AA t P r))
  else if wi P r=[] then mchk t P Q R r.High.toNat (Tz (Tz o ((t.drop at_).take (r.Low.toNat - at_))) (AA t Q r))
  else mchk t P Q R r.High.toNat (Tz o ((t.drop at_).take (r.Low.toNat - at_))++[⟨true,[],(t.drop r.Low.toNat).take (r.High.toNat - r.Low.toNat),AA t P r,AA t Q r⟩])
theorem AA_len {t:Ag} (ht:t.length≤120) {P:Bx} (hP:Side t P) (r:RX):(AA t P r).length≤40000:=by
 have h1:(wi P r).length≤130:=Ck (Lw _ _) hP.len;have:=rawIn_len t (wi P r) r.Low.toNat r.High.toNat fun h hh=>(hP.ins h (Mp.1 hh).1).2.2.1;have:((wi P r).length+1) * (120+t.length)≤131 * 240:=Nat.mul_le_mul (by omega) (by omega)
 unfold AA;omega
theorem AA_f {t:Ag} (ht:t.length≤120) {P:Bx} (hP:Side t P) {r:RX} (hr:0≤r.Low∧r.Low≤r.High∧r.High≤t.length):Ei (wi P r) t r.Low r.High=some (AA t P r):=by
 have h1:(wi P r).length≤130:=Ck (Lw _ _) hP.len;have h2:=wi_in (r:=r) hr.1 P (-1) r.Low.toNat hP.chn (fun h hh=>(hP.ins h hh).1) (by omega) (by omega)
 have:=RawIn_f ht h1 (fun h hh=>(hP.ins h (Mp.1 hh).1).2.2.1) (lo:=r.Low.toNat) (hi:=r.High.toNat) (by omega) h2
 rw [show ((r.Low.toNat:Nat):Int)=r.Low from by omega,show ((r.High.toNat:Nat):Int)=r.High from by omega] at this
 exact this
theorem len0 {α:Type} (l:List α):decide ((l.length:Int)=0)=decide (l=[]):=C1.2 (by cases l <;> simp <;> omega)
theorem b9 (k n:Nat) (hn:n≤40000):k * 90000+120+n≤(k+1) * 90000:=by omega
theorem merge_loop {t:Ag} (ht:t.length≤120) {P Q:Bx} (hP:Side t P) (hQ:Side t Q) {f1 f2:Fault} {R:List RX} (hsep:R.Pairwise fun a b=>a.High < b.Low) (hbd:∀ r∈R,0≤r.Low∧r.Low≤r.High∧r.High≤t.length) (hRl:R.length≤260) :
  ∀ (rest:List RX) (k at_:Nat) (o:E6),R.drop k=rest→(∀ r∈rest,(at_:Int)≤r.Low)→at_≤t.length→Csm (3 * k) (k * 90000) o→k≤260 →
   ∃ (a2:Nat) (o2:E6),Gk (fun s=>E5.l1 t (⟨P⟩,f1) (⟨Q⟩,f2) R s.1 s.2.1 s.2.2) ((k:Int),(at_:Int),o)=some ((a2:Int),o2)∧a2≤t.length∧Csm 1000 30000000 o2∧Tz o2 (t.drop a2)=mchk t P Q rest at_ o
 | [],k,at_,o,hk,_,hat,hc,hk2=>by
  have:=Ni hk;refine ⟨at_,o,C4 ?_,hat,⟨by have:=hc.len;omega,fun c hh=>by have:=hc.lin c hh;have:k * 90000≤260 * 90000:=A3 _ hk2;omega,hc.oth⟩,rfl⟩
  unfold E5.l1;simp only;rw [A2,Ae (by omega)]
 | r::rest,k,at_,o,hk,hle,hat,hc,hk2=>by
  obtain ⟨hlt,hh,hr⟩:=N7 hk;have hb:=hbd r (by rw [← hh];exact A5 hlt)
  have hlo:=hle r B9;have hcl:=hc.len;have hkB:k * 90000≤260 * 90000:=A3 _ hk2
  have hnext:∀ x∈rest,((r.High.toNat:Nat):Int)≤x.Low:=by
   intro x hx;have hd:(R.drop k).Pairwise fun a b=>a.High < b.Low:=hsep.sublist (List.drop_sublist _ _);rw [hk,Du] at hd;have:=hd.1 x hx;omega
  have hpre:((t.take r.Low.toNat).drop at_)=(t.drop at_).take (r.Low.toNat - at_):=by rw [List.take_drop];congr 2;omega
  have hbase:((t.take r.High.toNat).drop r.Low.toNat)=(t.drop r.Low.toNat).take (r.High.toNat - r.Low.toNat):=by rw [List.take_drop];congr 2;omega
  have l1:((t.drop at_).take (r.Low.toNat - at_)).length≤120:=by simp;omega
  obtain ⟨p1,p20⟩:=plain_f hc (by omega) (by omega) (l:=(t.drop at_).take (r.Low.toNat - at_)) (by omega)
  have p3:Csm (3 * k+1) (k * 90000+120) (Tz o ((t.drop at_).take (r.Low.toNat - at_))):=Csm.le p20 (C8 _) (Nat.add_le_add_left l1 _);clear p20;have hk9:k * 90000+120≤100000000:=Ck (Nat.add_le_add_right hkB 120) (by decide)
  have h3k:3 * k+1≤100000:=by omega
  generalize hO:Tz o ((t.drop at_).take (r.Low.toNat - at_))=o1 at p1 p3;have lA:=AA_len ht hP r;have lB:=AA_len ht hQ r;have hB9:∀ n,n≤40000→k * 90000+120+n≤(k+1) * 90000:=fun n hn=>b9 k n hn;obtain ⟨q1,q2⟩:=plain_f p3 h3k hk9 lA;obtain ⟨q3,q4⟩:=plain_f p3 h3k hk9 lB
  have hj:∀ w,E5.j2 (k:Int) r.High w=some (.next (((k+1:Nat):Int),((r.High.toNat:Nat):Int),w)):=by
   intro w;unfold E5.j2;rw [C9 (by omega) (by omega),Aa,show ((r.High.toNat:Nat):Int)=r.High from by omega];rfl
  have key:∀ w,Csm (3 * (k+1)) ((k+1) * 90000) w→E5.l1 t (⟨P⟩,f1) (⟨Q⟩,f2) R (k:Int) (at_:Int) o=some (.next (((k+1:Nat):Int),((r.High.toNat:Nat):Int),w))→mchk t P Q (r::rest) at_ o=mchk t P Q rest r.High.toNat w →
    ∃ (a2:Nat) (o2:E6),Gk (fun s=>E5.l1 t (⟨P⟩,f1) (⟨Q⟩,f2) R s.1 s.2.1 s.2.2) ((k:Int),(at_:Int),o)=some ((a2:Int),o2)∧a2≤t.length∧Csm 1000 30000000 o2∧Tz o2 (t.drop a2)=mchk t P Q (r::rest) at_ o:=by
   intro w hw e1 e2;obtain ⟨a2,o2,g1,g2,g3,g4⟩:=merge_loop ht hP hQ hsep hbd hRl rest (k+1) r.High.toNat w hr hnext (by omega) hw (by omega)
   exact ⟨a2,o2,by rw [C7 (m:=fun s:Int×Int×E6=>E5.l1 t (⟨P⟩,f1) (⟨Q⟩,f2) R s.1 s.2.1 s.2.2) e1];exact g1,g2,g3,by rw [e2];exact g4⟩
  have ho1:=p3.len
  have hstep:E5.l1 t (⟨P⟩,f1) (⟨Q⟩,f2) R (k:Int) (at_:Int) o=if wi Q r=[]∨AA t P r=AA t Q r then some (.next (((k+1:Nat):Int),((r.High.toNat:Nat):Int),Tz o1 (AA t P r)))
    else if wi P r=[] then some (.next (((k+1:Nat):Int),((r.High.toNat:Nat):Int),Tz o1 (AA t Q r)))
    else some (.next (((k+1:Nat):Int),((r.High.toNat:Nat):Int),o1++[⟨true,[],(t.drop r.Low.toNat).take (r.High.toNat - r.Low.toNat),AA t P r,AA t Q r⟩])):=by
   unfold E5.l1;simp only
   rw [A2,Af (by omega),Ds hlt,Aa,hh,Vd (by omega) (by omega) (by omega),Aa,Bn,hpre,p1,Aa,within_f ht hP,Aa,within_f ht hQ,Aa,AA_f ht hP hb,Aa,AA_f ht hQ hb,Aa,
    Yy _ _ (by omega),Aa,len0,len0]
   have ec:(if decide (wi Q r=[])=true then some true else some (decide (AA t P r=AA t Q r)))=some (decide (wi Q r=[]∨AA t P r=AA t Q r)):=by
    by_cases h:wi Q r=[] <;> simp [h]
   rw [ec,Aa,A2,A2,q1,Aa,q3,Aa];simp only;rw [hj,hj,Vd (by omega) (by omega) (by omega),Aa,hbase,clone_f _ (by simp;omega),Aa,H6 (by rw [Ar];omega),Aa,hj]
  by_cases c1:wi Q r=[]∨AA t P r=AA t Q r
  ·exact key (Tz o1 (AA t P r)) (Csm.le q2 (by omega) (hB9 _ lA)) (by rw [hstep,Af c1]) (by rw [mchk,Af c1,hO])
  ·by_cases c2:wi P r=[]
   ·exact key (Tz o1 (AA t Q r)) (Csm.le q4 (by omega) (hB9 _ lB)) (by rw [hstep,Ae c1,Af c2]) (by rw [mchk,Ae c1,Af c2,hO])
   ·refine key (o1++[⟨true,[],(t.drop r.Low.toNat).take (r.High.toNat - r.Low.toNat),AA t P r,AA t Q r⟩]) ⟨by rw [Au,Ar];omega,fun c hh=>?_,fun c hh=>?_⟩ (by rw [hstep,Ae c1,Ae c2]) (by rw [mchk,Ae c1,Ae c2,hO])
    ·rcases Bl.1 hh with hh | hh
     ·exact Ck (p3.lin c hh) (Ck (Nat.le_add_right _ 0) (hB9 0 (by decide)))
     ·rw [Bd] at hh;subst hh;simp
    ·rcases Bl.1 hh with hh | hh
     ·exact p3.oth c hh
     ·rw [Bd] at hh;subst hh;exact ⟨by simp;omega,lA,lB⟩
noncomputable def chunksF (b l r:Ag):E6:=mchk b (Mi b l) (Mi b r) (regF (Mi b l) (Mi b r)) 0 []
theorem Merge_f {b l r:Ag} (hb:Lr b) (hl:Lr l) (hr:Lr r):E5 b l r=some (chunksF b l r,⟨0,0⟩)∧Csm 1001 40000000 (chunksF b l r):=by
 have ht:=hb.1;have hP:=script_side hb hl;have hQ:=script_side hb hr;have tb:=(Gq b).1 ((Ko b).1 hb);have tl:=(Gq l).1 ((Ko l).1 hl);have tr:=(Gq r).1 ((Ko r).1 hr);have h1:=regF_ok ht hP hQ;obtain ⟨a2,o2,g1,g2,g3,g4⟩:=merge_loop ht hP hQ (f1:=⟨0,0⟩) (f2:=⟨0,0⟩) h1.sep h1.bd (reg_len ht hP hQ) _ 0 0 [] rfl (fun r hr=>(h1.bd r hr).1) (Dh _) ⟨by simp,by simp,by simp⟩ (by omega)
 obtain ⟨p1,p2⟩:=plain_f g3 (by omega) (by omega) (l:=b.drop a2) (by simp;omega)
 have e1:Uz b l=some ⟨0,0⟩:=by rw [both_f,Ae (fun h=>h tb),Af tl]
 have e2:M0 r (-3)=some ⟨0,0⟩:=by rw [second_f,Af tr]
 have e3:E1 b l=some (⟨Mi b l⟩,⟨0,0⟩):=by rw [script_f,Ae (fun h=>h tb),Ae (fun h=>h tl)]
 have e4:E1 b r=some (⟨Mi b r⟩,⟨0,0⟩):=by rw [script_f,Ae (fun h=>h tb),Ae (fun h=>h tr)]
 unfold E5;rw [e1,Aa,Ae (by simp),e2,Aa,Ae (by simp),e3,Aa,e4,Aa]
 simp only;rw [regions_f ht hP hQ,Aa];rw [show ((0:Nat):Int)=0 from rfl] at g1;rw [g1,Aa];unfold E5.j1;simp only;rw [Vd (by omega) (by omega) (by omega),Aa,Bn,Bn,C2,p1,Aa,g4]
 rw [g4] at p2;have:(b.drop a2).length≤120:=by simp;omega
 exact ⟨rfl,Csm.le p2 (by omega) (by omega)⟩
theorem check_l2 (k:Int) (c:Chunk):∃ r,Gk (fun s=>Dx.l2 k c s) 0=some r∧((r=.inr ()∧(Cl c.Lines).Code=0)∨(∃ f,r=.inl f∧f.Code≠0))∧((Cl c.Lines).Code=0→(Cl c.Base).Code=0→(Cl c.Left).Code=0→(Cl c.Right).Code=0→r=.inr ()):=by
 have st:∀ (j:Nat) (l:Ag),j < 4→[c.Lines,c.Base,c.Left,c.Right][j]? = some l→Dx.l2 k c (j:Int)=if (Cl l).Code=0 then some (.next ((j:Int)+1)) else some (.done (.inl ⟨(Cl l).Code,k⟩)):=by
  intro j l hj hl;unfold Dx.l2;rw [A2,Af (by omega),show at? [c.Lines,c.Base,c.Left,c.Right] (j:Int)=some l from by unfold at?;rw [Af (by omega)];simpa using hl,Aa,second_f,Aa]
  by_cases h:(Cl l).Code=0
  ·rw [Af h,Af h,Ae (by simp),C9 (by omega) (by omega),Aa]
  ·rw [Ae h,Ae h,Af (by simp [h])]
 have s0:=st 0 c.Lines (by omega) rfl
 have s1:=st 1 c.Base (by omega) rfl
 have s2:=st 2 c.Left (by omega) rfl
 have s3:=st 3 c.Right (by omega) rfl
 have s4:Dx.l2 k c 4=some (.done (.inr ())):=by unfold Dx.l2;rw [A2,Ae (by decide)]
 rw [show ((0:Nat):Int)=0 from rfl,show (0:Int)+1=1 from rfl] at s0;rw [show ((1:Nat):Int)=1 from rfl,show (1:Int)+1=2 from rfl] at s1;rw [show ((2:Nat):Int)=2 from rfl,show (2:Int)+1=3 from rfl] at s2;rw [show ((3:Nat):Int)=3 from rfl,show (3:Int)+1=4 from rfl] at s3;by_cases h0:(Cl c.Lines).Code=0
 case neg=>rw [Ae h0] at s0;exact ⟨_,C4 s0,.inr ⟨_,rfl,h0⟩,fun h=>absurd h h0⟩
 rw [Af h0] at s0;rw [C7 s0];by_cases h1:(Cl c.Base).Code=0
 case neg=>rw [Ae h1] at s1;exact ⟨_,C4 s1,.inr ⟨_,rfl,h1⟩,fun _ h=>absurd h h1⟩
 rw [Af h1] at s1;rw [C7 s1];by_cases h2:(Cl c.Left).Code=0
 case neg=>rw [Ae h2] at s2;exact ⟨_,C4 s2,.inr ⟨_,rfl,h2⟩,fun _ _ h=>absurd h h2⟩
 rw [Af h2] at s2;rw [C7 s2];by_cases h3:(Cl c.Right).Code=0
 case neg=>rw [Ae h3] at s3;exact ⟨_,C4 s3,.inr ⟨_,rfl,h3⟩,fun _ _ _ h=>absurd h h3⟩
 rw [Af h3] at s3;rw [C7 s3];exact ⟨_,C4 s4,.inl ⟨rfl,h0⟩,fun _ _ _ _=>rfl⟩
theorem check_tot {k B:Nat} {o:E6} (h:Csm k B o) (hk:k≤100000) (hB:B≤100000000):∃ f,Dx o=some f∧(f=⟨0,0⟩∨f.Code≠0)∧(f=⟨0,0⟩→∀ c∈o,(Cl c.Lines).Code=0):=by
 have hl:=h.len;unfold Dx;rw [A2];by_cases h1:(o.length:Int) > 240
 ·rw [Af h1];exact ⟨_,rfl,.inr (by decide),fun h=>by cases h⟩
 rw [Ae h1]
 have key:∀ (d k:Nat),k+d=o.length→(∀ j (hj:j < o.length),j < k→(Cl o[j].Lines).Code=0)→∃ r,Gk (fun s=>Dx.l1 o s) (k:Int)=some r∧((r=.inr ()∧∀ c∈o,(Cl c.Lines).Code=0)∨∃ f,r=.inl f∧f.Code≠0):=by
  intro d
  induction d with
  | zero =>
   intro k hk hpre;refine ⟨_,C4 (r:=.inr ()) ?_,.inl ⟨rfl,fun c hc=>?_⟩⟩
   ·unfold Dx.l1;rw [A2,Ae (by omega)]
   ·obtain ⟨j,hj,rfl⟩:=Cd hc;exact hpre j hj (by omega)
  | succ d ih =>
   intro k hk hpre;have hlt:k < o.length:=by omega
   obtain ⟨r,e,hr,_⟩:=check_l2 (k:Int) o[k];have hc:=h.lin _ (A5 hlt);have ho:=h.oth _ (A5 hlt);rcases hr with ⟨rfl,h0⟩ | ⟨f,rfl,hf⟩
   ·have hs:Dx.l1 o (k:Int)=some (.next (((k+1:Nat):Int)))∨∃ f,Dx.l1 o (k:Int)=some (.done (.inl f))∧f.Code≠0:=by
     unfold Dx.l1;rw [A2,Af (by omega),Ds hlt,Aa,e,Aa]
     simp only;unfold Dx.j3;rw [C9 (by omega) (by omega),Aa,C9 (by omega) (by omega),Aa]
     have hb:∃ z:Bool,((if o[k].Conflict=true then some (decide ((o[k].Lines.length:Int) > 0)) else some false).bind fun x3=>(if x3=true then some true else (if (!o[k].Conflict)=true then (if decide ((o[k].Lines.length:Int)=0)=true then some true else some (decide ((o[k].Base.length:Int)+(o[k].Left.length:Int)+(o[k].Right.length:Int) > 0))).bind fun x6=>some x6 else some false).bind fun x5=>some x5))=some z:=by
      generalize decide ((o[k].Lines.length:Int) > 0)=z1;generalize decide ((o[k].Lines.length:Int)=0)=z2;generalize decide ((o[k].Base.length:Int)+(o[k].Left.length:Int)+(o[k].Right.length:Int) > 0)=z3;cases o[k].Conflict <;> cases z1 <;> cases z2 <;> cases z3 <;> exact ⟨_,rfl⟩
     obtain ⟨z,hz⟩:=hb;rw [← Option.bind_assoc,hz,Aa];cases z
     ·rw [Ae Ay];unfold Dx.j2;rw [C9 (by omega) (by omega),Aa]
      exact .inl rfl
     ·rw [Af rfl];exact .inr ⟨_,rfl,by simp⟩
    rcases hs with hs | ⟨f,hs,hf⟩
    ·rw [C7 hs];refine ih (k+1) (by omega) fun j hj hjk=>?_
     rcases N8 (Nat.le_of_lt_succ hjk) with h2 | h2
     ·exact hpre j hj h2
     ·subst h2;exact h0
    ·exact ⟨_,C4 hs,.inr ⟨f,rfl,hf⟩⟩
   ·refine ⟨_,C4 (r:=.inl f) ?_,.inr ⟨f,rfl,hf⟩⟩;unfold Dx.l1;rw [A2,Af (by omega),Ds hlt,Aa,e,Aa]
 obtain ⟨r,e,hr⟩:=key o.length 0 (by omega) (fun _ _ h=>absurd h (by omega))
 rw [show ((0:Nat):Int)=0 from rfl] at e;rw [e,Aa];rcases hr with ⟨rfl,h2⟩ | ⟨f,rfl,hf⟩
 ·exact ⟨_,rfl,.inl rfl,fun _=>h2⟩
 ·exact ⟨f,rfl,.inr hf,fun hh=>by rw [hh] at hf;exact absurd rfl hf⟩
theorem clean_tot {k B:Nat} {o:E6} (h:Csm k B o) (hk:k≤1100) (hB:B≤100000000):∃ s ok f,Kl o=some (s,ok,f)∧(ok=true→Lr s):=by
 have hl:=h.len;obtain ⟨f,e,hf,hok⟩:=check_tot h (by omega) hB
 unfold Kl;rw [e,Aa];rcases hf with rfl | hf
 ·rw [Ae (by simp)]
  have hlines:∀ c∈o,∀ s∈c.Lines,OkLine s:=fun c hc=>((Ko _).2 ((Gq _).2 (hok rfl c hc))).2
  obtain ⟨r,e2,hr⟩:=inv_loopE (f:=fun s=>Kl.l1 o s.1 s.2) 0 o.length (Dh _) (fun i s=>s.length≤i * 100000000∧∀ x∈s,OkLine x) (fun r=>r=.inl ([],false,⟨0,0⟩)∨∃ s,r=.inr s∧∀ x∈s,OkLine x) (by
   rintro i s _ hi ⟨g1,g2⟩;have hlin:=h.lin _ (A5 hi);unfold Kl.l1;simp only;rw [A2,Af (by omega),Ds hi,Aa]
   cases hcc:o[i].Conflict
   ·left;have:i * 100000000≤1100 * 100000000:=A3 _ (by omega)
    rw [Ae Ay,H6 (by omega),Aa,C9 (by omega) (by omega),Aa]
    refine ⟨_,rfl,by rw [Au];omega,fun x hx=>?_⟩
    rcases Bl.1 hx with hx | hx
    ·exact g2 x hx
    ·exact hlines _ (A5 hi) x hx
   ·right;rw [Af rfl];exact ⟨_,rfl,.inl rfl⟩) (by
   rintro s ⟨_,g2⟩;unfold Kl.l1;simp only;rw [A2,Ae (by omega)]
   exact ⟨_,rfl,.inr ⟨s,rfl,g2⟩⟩) [] ⟨by simp,by simp⟩
  rw [show ((0:Nat):Int)=0 from rfl] at e2;rw [e2,Aa];rcases hr with rfl | ⟨s,rfl,hs⟩
  ·exact ⟨_,_,_,rfl,fun hh=>by cases hh⟩
  ·simp only;unfold Kl.j1 Xh;rw [A2];by_cases h120:s.length > 120
   ·rw [Af (by omega),Aa]
    exact ⟨_,_,_,rfl,fun hh=>by simp at hh⟩
   ·rw [Ae (by omega),Aa]
    exact ⟨_,_,_,rfl,fun _=>⟨(by omega:s.length≤120),hs⟩⟩
 ·rw [Af (by simp [hf])]
  exact ⟨_,_,_,rfl,fun hh=>by cases hh⟩
end Go.Dc
set_option linter.unusedSimpArgs false
set_option linter.unusedVariables false
set_option maxRecDepth 4000
noncomputable section
namespace Go.Dc
open Go
abbrev OT:=Option Ag
def ver:OT→Version_treecommute
 | Option.none=>⟨false,[]⟩
 | some l=>⟨true,l⟩
def OkO (o:OT):Prop:=∀ l,o=some l→Lr l
def lk (l:Ao) (p:ByteArray):OT:=if K1 l p=true then (l[Ks l p]?).map (·.Lines) else Option.none
theorem lk_some {l:Ao} (h:M3 l) {p:ByteArray} {L:Ag}:lk l p=some L↔(⟨p,L⟩:File)∈l:=by
 unfold lk;constructor
 ·intro e;by_cases hh:K1 l p=true
  ·rw [Af hh] at e;obtain ⟨hp,e2⟩:=X9 h hh;rw [Bb hp,Option.map_some] at e;have e3:=Gx e;have hm:=A5 hp
   have:l[Ks l p]=⟨p,L⟩:=by
    generalize l[Ks l p]=f at e2 e3;obtain ⟨a,b⟩:=f;simp only at e2 e3;rw [e2,e3]
   rw [this] at hm;exact hm
  ·rw [Ae hh] at e;cases e
 ·intro hm;obtain ⟨hp,h1,h2⟩:=mem_has h hm;rw [Af h1,Bb hp,h2];rfl
theorem lk_none {l:Ao} (h:M3 l) {p:ByteArray}:lk l p=Option.none↔K1 l p=false:=by
 unfold lk;cases hh:K1 l p
 ·simp
 ·rw [Af rfl];obtain ⟨hp,_⟩:=X9 h hh;rw [Bb hp];simp
theorem Wq {l:Ao} {p:ByteArray}:K1 l p=true↔∃ f∈l,f.Path=p:=by
 unfold K1;rw [Li];exact ⟨fun ⟨f,h1,h2⟩=>⟨f,h1,by simpa using h2⟩,fun ⟨f,h1,h2⟩=>⟨f,h1,by simpa using h2⟩⟩
theorem lk_ok {l:Ao} (h:TrOk l) (p:ByteArray):OkO (lk l p):=fun L e=>h.text _ ((lk_some h.srt).1 e)
theorem tcfind_f {l:Ao} (h:TrOk l) (p:ByteArray):L3 ⟨l⟩ p=some (ver (lk l p)):=by
 have hl:=h.len;unfold L3 lk;rw [Find_f h.srt (by omega),Aa]
 simp only;cases hh:K1 l p
 ·rfl
 ·obtain ⟨hp,_⟩:=X9 h.srt hh;rw [Ae (by decide),Ds hp,Aa,Af rfl,Bb hp];rfl
theorem same_f {a b:OT} (ha:OkO a) (hb:OkO b):Mw (ver a) (ver b)=some (decide (a=b)):=by
 unfold Mw;cases a with
 | none =>
  cases b with
  | none =>
   have e:=Yy [] [] (by simp)
   simp [ver,e]
  | some y=>simp [ver]
 | some x =>
  cases b with
  | none=>simp [ver]
  | some y =>
   have:=(ha x rfl).1;have e:=Yy x y (by omega)
   simp [ver,e]
def unv (v:Version_treecommute):OT:=if v.is=true then some v.lines else Option.none
def mgO (b l r:OT):OT×Bool:=((Hi (ver b) (ver l) (ver r)).map fun y=>(unv y.1,y.2)).getD (Option.none,false)
theorem unv_ver (o:OT):unv (ver o)=o:=by cases o <;> rfl
theorem merged_x {b l r:OT} (hb:OkO b) (hl:OkO l) (hr:OkO r):∃ o k,Hi (ver b) (ver l) (ver r)=some (ver o,k)∧OkO o∧((r=b∨r=l)→o=l∧k=true)∧(¬ (r=b∨r=l)→l=b→o=r∧k=true):=by
 unfold Hi;rw [same_f hr hb,Aa,same_f hr hl,Aa];have e1:(if decide (r=b)=true then some true else some (decide (r=l)))=some (decide (r=b∨r=l)):=by by_cases h:r=b <;> simp [h]
 rw [e1,Aa,A2];by_cases h1:r=b∨r=l
 ·rw [Af h1];exact ⟨l,true,rfl,hl,fun _=>⟨rfl,rfl⟩,fun h=>absurd h1 h⟩
 rw [Ae h1,same_f hl hb,Aa,A2];by_cases h2:l=b
 ·rw [Af h2];exact ⟨r,true,rfl,hr,fun h=>absurd h h1,fun _ _=>⟨rfl,rfl⟩⟩
 rw [Ae h2];have fin:∃ o k,Hi.j1 (ver l)=some (ver o,k)∧OkO o∧((r=b∨r=l)→o=l∧k=true)∧(¬ (r=b∨r=l)→l=b→o=r∧k=true):=⟨l,false,rfl,hl,fun h=>absurd h h1,fun _ h=>absurd h h2⟩;cases b with
 | none=>exact fin
 | some x =>
  cases l with
  | none=>exact fin
  | some y =>
   cases r with
   | none=>exact fin
   | some z =>
    have ox:=hb x rfl;have oy:=hl y rfl;have oz:=hr z rfl;obtain ⟨m1,m2⟩:=Merge_f ox oy oz;obtain ⟨s,ok,f,e,hc⟩:=clean_tot m2 (by omega) (by omega)
    simp only [ver,G0,Aa];rw [m1,Aa];simp only [Dd,Eu,G0];rw [e,Aa];simp only;by_cases hk:ok=true
    ·subst hk;simp only [G0,Aa];by_cases hz:(decide (f.Code=0) && decide (f.Index=0))=true
     ·rw [Af hz];exact ⟨some s,true,rfl,fun L h=>by cases h;exact hc rfl,fun h=>absurd h h1,fun _ h=>absurd h h2⟩
     ·rw [Ae hz];exact fin
    ·rw [Ae hk,Aa,Ae Ay];exact fin
theorem merged_f {b l r:OT} (hb:OkO b) (hl:OkO l) (hr:OkO r):Hi (ver b) (ver l) (ver r)=some (ver (mgO b l r).1,(mgO b l r).2)∧OkO (mgO b l r).1:=by
 obtain ⟨o,k,e,h,_⟩:=merged_x hb hl hr;have:mgO b l r=(o,k):=by unfold mgO;rw [e];simp [unv_ver]
 rw [this];exact ⟨e,h⟩
theorem mgO_l {b l r:OT} (hb:OkO b) (hl:OkO l) (hr:OkO r) (h:r=b∨r=l):mgO b l r=(l,true):=by
 obtain ⟨o,k,e,_,h1,_⟩:=merged_x hb hl hr;obtain ⟨rfl,rfl⟩:=h1 h;unfold mgO;rw [e];simp [unv_ver]
theorem mgO_r {b l r:OT} (hb:OkO b) (hl:OkO l) (hr:OkO r) (h:¬ (r=b∨r=l)) (h2:l=b):mgO b l r=(r,true):=by
 obtain ⟨o,k,e,_,_,h1⟩:=merged_x hb hl hr;obtain ⟨rfl,rfl⟩:=h1 h h2;unfold mgO;rw [e];simp [unv_ver]
def lastF (p:TreePatch) (path:ByteArray):Int:=(Ea p path).getD (-1)
theorem last_f {p:TreePatch} (hp:∀ c∈p.Changes,OkCh c) (hl:p.Changes.length≤30) {path:ByteArray} (hs:path.size≤1000000) :
  Ea p path=some (lastF p path)∧((lastF p path = -1∧∀ c∈p.Changes,touB path c=false)∨∃ k,∃ h:k < p.Changes.length,lastF p path=(k:Int)∧touB path p.Changes[k]=true):=by
 have key:∀ k,k≤p.Changes.length→(∀ j (h:j < p.Changes.length),k≤j→touB path p.Changes[j]=false) →
   ∃ r,Gk (fun s=>Ea.l1 p path s) ((k:Int) - 1)=some r∧((r=.inr ()∧∀ c∈p.Changes,touB path c=false)∨∃ j,∃ h:j < p.Changes.length,r=.inl (j:Int)∧touB path p.Changes[j]=true):=by
  intro k
  induction k with
  | zero =>
   intro _ h;refine ⟨.inr (),C4 ?_,.inl ⟨rfl,fun c hc=>?_⟩⟩
   ·unfold Ea.l1;rw [A2,Ae (by omega)]
   ·obtain ⟨j,hj,rfl⟩:=Cd hc;exact h j hj (Dh _)
  | succ k ih =>
   intro hk h;have hlt:k < p.Changes.length:=by omega
   have e1:((k+1:Nat):Int) - 1=(k:Int):=by omega
   rw [e1]
   have hs1:Ea.l1 p path (k:Int)=if touB path p.Changes[k]=true then some (.done (.inl (k:Int))) else some (.next ((k:Int) - 1)):=by
    unfold Ea.l1;rw [A2,Af (by omega),Ds hlt,Aa,touches_f hs (hp _ (A5 hlt)).size,Aa]
    split
    ·rfl
    ·rw [C9 (by omega) (by omega),Aa]
   by_cases ht:touB path p.Changes[k]=true
   ·rw [Af ht] at hs1;exact ⟨_,C4 hs1,.inr ⟨k,hlt,rfl,ht⟩⟩
   ·rw [Ae ht] at hs1;rw [C7 hs1];refine ih (by omega) fun j hj hkj=>?_
    rcases N8 hkj with h2 | h2
    ·exact h j hj h2
    ·subst h2;simpa using ht
 obtain ⟨r,e,hr⟩:=key p.Changes.length (C8 _) fun j hj h=>by omega
 have e0:∃ x,Ea p path=some x∧((x = -1∧∀ c∈p.Changes,touB path c=false)∨∃ j,∃ h:j < p.Changes.length,x=(j:Int)∧touB path p.Changes[j]=true):=by
  unfold Ea;rw [C9 (by omega) (by omega),Aa,e,Aa]
  rcases hr with ⟨rfl,h2⟩ | ⟨j,hj,rfl,h2⟩
  ·exact ⟨_,rfl,.inl ⟨rfl,h2⟩⟩
  ·exact ⟨_,rfl,.inr ⟨j,hj,rfl,h2⟩⟩
 obtain ⟨x,e1,h1⟩:=e0;have ex:lastF p path=x:=by unfold lastF;rw [e1];rfl
 rw [ex];exact ⟨e1,h1⟩
def Kq (l:Ao):Ag:=l.map (·.Path)
theorem prow_f (t:FileTree) (hl:t.Files.length≤1000) (acc:Ag) (ha:acc.length≤10000) :
  Gk (fun s=>Ch.l2 t s.1 s.2) (0,acc)=some (acc++Kq t.Files):=by
 obtain ⟨r,e,rfl⟩:=Ov (f:=fun s=>Ch.l2 t s.1 s.2) t.Files.length (fun k x=>x=acc++Kq (t.Files.take k)) (fun x=>x=acc++Kq t.Files) (by
  rintro k x hk rfl;unfold Ch.l2;simp only;have hlen:(Kq (t.Files.take k)).length=k:=by unfold Kq;rw [Dz,Bg];omega
  refine ⟨_,?_,rfl⟩;rw [A2,Af (by omega),Ds hk,Aa,H6 (by simp only [Au,hlen,Ar];omega),Aa,C9 (by omega) (by omega),Aa]
  unfold Kq;rw [Bi hk,K9,A6];rfl) (by
  rintro x rfl;unfold Ch.l2;simp only;rw [A2,Ae (by omega),C2]
  exact ⟨_,rfl,rfl⟩) acc (by simp [Kq])
 exact e
theorem all_f3 {a b c:FileTree} (ha:a.Files.length≤24) (hb:b.Files.length≤24) (hc:c.Files.length≤24):Ch [a,b,c]=some (ksort (Kq a.Files++Kq b.Files++Kq c.Files)):=by
 have la:(Kq a.Files).length≤24:=by unfold Kq;rw [Dz];exact ha
 have lb:(Kq b.Files).length≤24:=by unfold Kq;rw [Dz];exact hb
 have lc:(Kq c.Files).length≤24:=by unfold Kq;rw [Dz];exact hc
 have st:∀ (j:Nat) (t:FileTree) (acc:Ag),j < 3→[a,b,c][j]? = some t→t.Files.length≤24→acc.length≤100→Ch.l1 [a,b,c] (j:Int) acc=some (.next ((j:Int)+1,acc++Kq t.Files)):=by
  intro j t acc hj ht hl hacc;unfold Ch.l1;rw [A2,Af (by simp;omega),show at? [a,b,c] (j:Int)=some t from by unfold at?;rw [Af (by omega)];simpa using ht,Aa,prow_f _ (by omega) _ (by omega),Aa]
  unfold Ch.j3 Ch.j2;rw [C9 (by omega) (by omega),Aa]
 have s0:=st 0 a [] (by omega) rfl ha (by simp)
 have s1:=st 1 b (Kq a.Files) (by omega) rfl hb (by omega)
 have s2:=st 2 c (Kq a.Files++Kq b.Files) (by omega) rfl hc (by rw [Au];omega)
 rw [show ((0:Nat):Int)=0 from rfl,show (0:Int)+1=1 from rfl,Cw] at s0;rw [show ((1:Nat):Int)=1 from rfl,show (1:Int)+1=2 from rfl] at s1;rw [show ((2:Nat):Int)=2 from rfl,show (2:Int)+1=3 from rfl] at s2;have s3:∀ x,Ch.l1 [a,b,c] 3 x=some (.done x):=by intro x;unfold Ch.l1;rw [A2,Ae (by simp)]
 unfold Ch
 rw [C7 (m:=fun s:Int×Ag=>Ch.l1 [a,b,c] s.1 s.2) s0,C7 (m:=fun s:Int×Ag=>Ch.l1 [a,b,c] s.1 s.2) s1,C7 (m:=fun s:Int×Ag=>Ch.l1 [a,b,c] s.1 s.2) s2,
  C4 (m:=fun s:Int×Ag=>Ch.l1 [a,b,c] s.1 s.2) (s3 _),Aa]
 unfold Ch.j1;have hl3:(Kq a.Files++Kq b.Files++Kq c.Files).length≤72:=by rw [Au,Au];omega
 have hs:sortS? (Kq a.Files++Kq b.Files++Kq c.Files)=some (W7 (Kq a.Files++Kq b.Files++Kq c.Files)):=by
  unfold sortS?;rw [Af (by omega)]
 rw [hs,Aa,scompact_f (by rw [(sortS_perm _).length_eq];omega),Aa];rfl
theorem pathsL_mem {l:Ao} {p:ByteArray}:p∈Kq l↔K1 l p=true:=by
 rw [Wq];unfold Kq;rw [Kd]
section
variable (B L R : Ao)
def vF (p:ByteArray):OT×Bool:=mgO (lk B p) (lk L p) (lk R p)
def outO (p:ByteArray):Option File:=match (vF B L R p).1,lk L p with
 | some v,some _=>some ⟨p,v⟩
 | _,_=>Option.none
def X8 (p:ByteArray):Option File:=match (vF B L R p).1,lk L p with
 | some v,Option.none=>some ⟨p,v⟩
 | _,_=>Option.none
def fstO (left right:TreePatch) (p:ByteArray):Option Arr2_Int:=if (vF B L R p).2=true then Option.none else some ⟨lastF left p,lastF right p⟩
end
theorem fm_snoc {α β:Type} (f:α→Option β) (l:List α) (x:α):(l++[x]).filterMap f=l.filterMap f++(f x).toList:=by
 rw [List.filterMap_append];cases h:f x <;> simp [List.filterMap,h]
theorem fm_path {f:ByteArray→Option File} (hf:∀ p x,f p=some x→x.Path=p):∀ {l:Ag},SAsc l→M3 (l.filterMap f)
 | [],_=>List.Pairwise.nil
 | p::l,h=>by
  have h1:l.Pairwise fun x y=>sLt x y=true:=(Du.1 h).2;have ih:=fm_path hf (l:=l) h1;cases e:f p with
  | none=>rw [List.filterMap_cons_none e];exact ih
  | some x =>
   rw [List.filterMap_cons_some e];refine Du.2 ⟨fun y hy=>?_,ih⟩;obtain ⟨q,hq,hqy⟩:=Kj.1 hy;rw [hf p x e,hf q y hqy];exact (Du.1 h).1 q hq
theorem outO_path (B L R:Ao):∀ p x,outO B L R p=some x→x.Path=p:=by
 intro p x h;unfold outO at h;split at h
 ·cases h;rfl
 ·cases h
theorem Y9 (B L R:Ao):∀ p x,X8 B L R p=some x→x.Path=p:=by
 intro p x h;unfold X8 at h;split at h
 ·cases h;rfl
 ·cases h
theorem put_end {l:Ao} (h:M3 l) (hl:l.length≤1000) {p:ByteArray} (hp:∀ f∈l,sLt f.Path p=true) {t:Ag} (ht:t.length≤1000000):Kh ⟨l⟩ p t=some ⟨l++[⟨p,t⟩]⟩:=by
 have hn:K1 l p=false:=by
  cases hh:K1 l p
  ·rfl
  ·obtain ⟨f,hf,e⟩:=Wq.1 hh;have:=hp f hf;rw [e,Us] at this;cases this
 rw [Put_f h hl hn ht,ins_end hp]
theorem walk_f {B L R:Ao} (hB:TrOk B) (hL:TrOk L) (hR:TrOk R) {left right:TreePatch} (hcl:∀ c∈left.Changes,OkCh c) (hll:left.Changes.length≤30) (hcr:∀ c∈right.Changes,OkCh c) (hrl:right.Changes.length≤30) {fl fr:Fault}
  {K:Ag} (hK:SAsc K) (hKl:K.length≤100) (hKs:∀ p∈K,p.size≤60) :
  Gk (fun s=>A4.l3 ⟨B⟩ left right (⟨L⟩,fl) (⟨R⟩,fr) K s.1 s.2.1 s.2.2.1 s.2.2.2) (0,[],[],[])=some (K.filterMap (fstO B L R left right),K.filterMap (X8 B L R),K.filterMap (outO B L R),R):=by
 obtain ⟨r,e,rfl⟩:=Ov (f:=fun s=>A4.l3 ⟨B⟩ left right (⟨L⟩,fl) (⟨R⟩,fr) K s.1 s.2.1 s.2.2.1 s.2.2.2) K.length
  (fun k s=>s=((K.take k).filterMap (fstO B L R left right),(K.take k).filterMap (X8 B L R),(K.take k).filterMap (outO B L R)))
  (fun r=>r=(K.filterMap (fstO B L R left right),K.filterMap (X8 B L R),K.filterMap (outO B L R),R)) (by
  rintro k s hk rfl;have hsz:=hKs _ (A5 hk);have hKt:SAsc (K.take k):=List.Pairwise.sublist (List.take_sublist _ _) hK
  have hlt:∀ q∈K.take k,sLt q K[k]=true:=by
   intro q hq;obtain ⟨j,hj,rfl⟩:=Cd hq;rw [Bg] at hj;rw [Gg];exact (Cp.1 hK) j k (by omega) hk (by omega)
  have so:=fm_path (outO_path B L R) hKt;have sl:=fm_path (Y9 B L R) hKt;have lo:((K.take k).filterMap (outO B L R)).length≤k:=Ck (Ee _ _) (by rw [Bg];omega)
  have ll:((K.take k).filterMap (X8 B L R)).length≤k:=Ck (Ee _ _) (by rw [Bg];omega)
  have lf:((K.take k).filterMap (fstO B L R left right)).length≤k:=Ck (Ee _ _) (by rw [Bg];omega)
  have po:∀ f∈(K.take k).filterMap (outO B L R),sLt f.Path K[k]=true:=by
   intro f hf;obtain ⟨q,hq,e⟩:=Kj.1 hf;rw [outO_path B L R q f e];exact hlt q hq
  have pl:∀ f∈(K.take k).filterMap (X8 B L R),sLt f.Path K[k]=true:=by
   intro f hf;obtain ⟨q,hq,e⟩:=Kj.1 hf;rw [Y9 B L R q f e];exact hlt q hq
  refine ⟨_,?_,rfl⟩;rw [Bi hk,fm_snoc,fm_snoc,fm_snoc];generalize (K.take k).filterMap (outO B L R)=o at so lo po;generalize (K.take k).filterMap (X8 B L R)=lt at sl ll pl;generalize (K.take k).filterMap (fstO B L R left right)=fs at lf;obtain ⟨m1,m2⟩:=merged_f (lk_ok hB K[k]) (lk_ok hL K[k]) (lk_ok hR K[k]);obtain ⟨t1,_⟩:=last_f hcl hll (path:=K[k]) (by omega)
  obtain ⟨t2,_⟩:=last_f hcr hrl (path:=K[k]) (by omega)
  unfold A4.l3;simp only;rw [A2,Af (by omega),Ds hk,Aa,tcfind_f hL,Aa,tcfind_f hB,Aa,tcfind_f hR,Aa,m1,Aa]
  have hj6:∀ a b c,A4.j6 (k:Int) a b c=some (.next (((k+1:Nat):Int),a,b,c)):=by
   intro a b c;unfold A4.j6;rw [C9 (by omega) (by omega),Aa];rfl
  have hv:vF B L R K[k]=mgO (lk B K[k]) (lk L K[k]) (lk R K[k]):=rfl
  have hj8:∀ a,A4.j8 (k:Int) lt o K[k] (ver (lk L K[k])) (ver (mgO (lk B K[k]) (lk L K[k]) (lk R K[k])).1,(mgO (lk B K[k]) (lk L K[k]) (lk R K[k])).2) a=some (.next (((k+1:Nat):Int),a,lt++(X8 B L R K[k]).toList,o++(outO B L R K[k]).toList)):=by
   intro a;unfold A4.j8 X8 outO;rw [hv];cases hm:(mgO (lk B K[k]) (lk L K[k]) (lk R K[k])).1 with
   | none =>
    simp [ver,hj6]
   | some v =>
    have hv2:=(m2 v hm).1;cases hlk:lk L K[k] with
    | none =>
     have e:=put_end sl (by omega) pl (t:=v) (by omega)
     simp [ver,e,hj6]
    | some w =>
     have e:=put_end so (by omega) po (t:=v) (by omega)
     simp [ver,e,hj6]
  unfold A4.j7 fstO;simp only;rw [hv,t1,Aa,t2,Aa];cases hc:(mgO (lk B K[k]) (lk L K[k]) (lk R K[k])).2
  ·rw [hc] at hj8;rw [Af (show (!false)=true from rfl),H6 (by rw [Ar];omega),Aa,hj8]
   simp
  ·rw [hc] at hj8;rw [Ae (show ¬ (!true)=true by decide),hj8]
   simp) (by
  rintro s rfl;unfold A4.l3;simp only;rw [A2,Ae (by omega),C2]
  exact ⟨_,rfl,rfl⟩) ([],[],[]) rfl
 exact e
def ownF (R out:Ao):Ao:=out.filter fun x=>!K1 R x.Path
theorem own_f {R out:Ao} (hR:TrOk R) (hl:out.length≤1000):Gk (fun s=>A4.l2 out R s.1 s.2) (0,[])=some (ownF R out):=by
 obtain ⟨r,e,rfl⟩:=Ov (f:=fun s=>A4.l2 out R s.1 s.2) out.length (fun k s=>s=ownF R (out.take k)) (fun r=>r=ownF R out) (by
  rintro k s hk rfl;have hlen:(ownF R (out.take k)).length≤k:=Ck (Lw _ _) (by rw [Bg];omega)
  have hj:∀ w,A4.j5 (k:Int) w=some (.next (((k+1:Nat):Int),w)):=by
   intro w;unfold A4.j5;rw [C9 (by omega) (by omega),Aa];rfl
  refine ⟨_,?_,rfl⟩
  have e:ownF R (out.take (k+1))=ownF R (out.take k)++if K1 R out[k].Path=true then [] else [out[k]]:=by
   unfold ownF;rw [Bi hk,List.filter_append];cases h:K1 R out[k].Path <;> simp [h]
  have hi:(ver (lk R out[k].Path)).is=K1 R out[k].Path:=by
   cases h:K1 R out[k].Path
   ·rw [(lk_none hR.srt).2 h];rfl
   ·cases h2:lk R out[k].Path with
    | none=>rw [(lk_none hR.srt).1 h2] at h;cases h
    | some v=>rfl
  unfold A4.l2;simp only;rw [A2,Af (by omega),Ds hk,Aa,tcfind_f hR,Aa,hi,e]
  cases h:K1 R out[k].Path
  ·rw [Af (show (!false)=true from rfl),H6 (by rw [Ar];omega),Aa,hj,Ae Ay]
  ·rw [Ae (show ¬ (!true)=true by decide),hj,Af rfl,Ba]) (by
  rintro s rfl;unfold A4.l2;simp only;rw [A2,Ae (by omega),C2]
  exact ⟨_,rfl,rfl⟩) [] rfl
 exact e
theorem clash_any {l:Ao} {p:ByteArray} (hl:∀ f∈l,f.Path.size≤1000000) (hn:l.length≤1000000) (hp:p.size≤1000000):El l p (-1)=some (Ku l p):=by
 rw [clash_f hl hn hp];congr 1
 have key:∀ (l:Ao) (k:Nat),(Ll (clG p (-1)) k l).isSome=Ku l p:=by
  intro l
  induction l with
  | nil=>intro k;rfl
  | cons f l ih =>
   intro k
   have hcl:clG p (-1) k f=if T8 f.Path p=true then some true else Option.none:=by
    unfold clG;have hk:(k:Int) ≠ -1:=by omega
    by_cases h:T8 f.Path p=true
    ·rw [Af ⟨hk,h⟩,Af h]
    ·rw [Ae (fun hh=>h hh.2),Ae h]
   rw [Ll,hcl];have:=ih (k+1);unfold Ku at this ⊢;rw [O8,← this];cases h:T8 f.Path p
   ·rfl
   ·rfl
 exact key l 0
def Ur (own:Ao) (o:Ao) (x:File):Ao:=if Ku own x.Path=true then o else Zf o x
def secO (left right:TreePatch) (own:Ao) (x:File):Option Arr2_Int:=if Ku own x.Path=true then some ⟨lastF left x.Path,lastF right x.Path⟩ else Option.none
theorem late_mem {own:Ao}:∀ (late o:Ao) (f:File),f∈late.foldl (Ur own) o↔f∈o∨(f∈late∧Ku own f.Path=false)
 | [],o,f=>by simp
 | x::late,o,f=>by
  rw [Hv,late_mem late];unfold Ur;cases h:Ku own x.Path
  ·rw [Ae Ay,Yf];constructor
   ·rintro ((rfl | h1) | ⟨h1,h2⟩)
    ·exact .inr ⟨B9,h⟩
    ·exact .inl h1
    ·exact .inr ⟨Be _ h1,h2⟩
   ·rintro (h1 | ⟨h1,h2⟩)
    ·exact .inl (.inr h1)
    ·rcases Bt.1 h1 with rfl | h1
     ·exact .inl (.inl rfl)
     ·exact .inr ⟨h1,h2⟩
  ·rw [Af rfl];constructor
   ·rintro (h1 | ⟨h1,h2⟩)
    ·exact .inl h1
    ·exact .inr ⟨Be _ h1,h2⟩
   ·rintro (h1 | ⟨h1,h2⟩)
    ·exact .inl h1
    ·rcases Bt.1 h1 with rfl | h1
     ·rw [h] at h2;cases h2
     ·exact .inr ⟨h1,h2⟩
theorem late_srt {own:Ao}:∀ (late o:Ao),M3 o→M3 late→(∀ f∈late,K1 o f.Path=false)→M3 (late.foldl (Ur own) o)∧(late.foldl (Ur own) o).length≤o.length+late.length
 | [],o,h,_,_=>⟨h,by simp⟩
 | x::late,o,h,hl,hn=>by
  have hl1:=Du.1 hl;rw [Hv];have hx:=hn x B9
  have hS:M3 (Ur own o x)∧(Ur own o x).length≤o.length+1:=by
   unfold Ur;split
   ·exact ⟨h,by omega⟩
   ·exact ⟨ins_srt h hx,Nat.le_of_eq (ins_len _ _)⟩
  have hn':∀ f∈late,K1 (Ur own o x) f.Path=false:=by
   intro f hf;have h1:=hn f (Be _ hf);unfold Ur;split
   ·exact h1
   ·cases hh:K1 (Zf o x) f.Path
    ·rfl
    ·obtain ⟨g,hg,e⟩:=Wq.1 hh;rcases Yf.1 hg with rfl | hg
     ·have:=hl1.1 f hf;rw [e,Us] at this;cases this
     ·rw [Wq.2 ⟨g,hg,e⟩] at h1;cases h1
  obtain ⟨i1,i2⟩:=late_srt (own:=own) late _ hS.1 hl1.2 hn';exact ⟨i1,by rw [Dl];omega⟩
theorem late_f {left right:TreePatch} (hcl:∀ c∈left.Changes,OkCh c) (hll:left.Changes.length≤30) (hcr:∀ c∈right.Changes,OkCh c) (hrl:right.Changes.length≤30) {own late out:Ao}
  (ho:M3 out) (hol:out.length≤100) (hlt:M3 late) (hll2:late.length≤100) (hn:∀ f∈late,K1 out f.Path=false) (hsz:∀ f∈late,f.Path.size≤60) (htx:∀ f∈late,f.Lines.length≤1000) (hown:∀ f∈own,f.Path.size≤60) (hownl:own.length≤1000) :
  Gk (fun s=>A4.l1 left right late own s.1 s.2.1 s.2.2) (0,[],out)=some (late.filterMap (secO left right own),late.foldl (Ur own) out):=by
 obtain ⟨r,e,rfl⟩:=Ov (f:=fun s=>A4.l1 left right late own s.1 s.2.1 s.2.2) late.length
  (fun k s=>s=((late.take k).filterMap (secO left right own),(late.take k).foldl (Ur own) out)) (fun r=>r=(late.filterMap (secO left right own),late.foldl (Ur own) out)) (by
  rintro k s hk rfl;have hx:=A5 hk;have hs:=hsz _ hx;obtain ⟨q1,q2⟩:=late_srt (own:=own) (late.take k) out ho (List.Pairwise.sublist (List.take_sublist _ _) hlt) fun f hf=>hn f (C3 hf);rw [Bg] at q2;have q3:((late.take k).foldl (Ur own) out).length≤1000:=by omega
  have hno:K1 ((late.take k).foldl (Ur own) out) late[k].Path=false:=by
   cases hh:K1 ((late.take k).foldl (Ur own) out) late[k].Path
   ·rfl
   ·obtain ⟨g,hg,e⟩:=Wq.1 hh;rcases (late_mem _ _ _).1 hg with h1 | ⟨h1,_⟩
    ·have:=hn _ hx;rw [Wq.2 ⟨g,h1,e⟩] at this;cases this
    ·obtain ⟨j,hj,rfl⟩:=Cd h1;rw [Bg] at hj;rw [Gg] at e;have:=(Cp.1 hlt) j k (by omega) hk (by omega)
     rw [e,Us] at this;cases this
  have ls:((late.take k).filterMap (secO left right own)).length≤k:=Ck (Ee _ _) (by rw [Bg];omega)
  have hj:∀ a b,A4.j4 (k:Int) a b=some (.next (((k+1:Nat):Int),a,b)):=by
   intro a b;unfold A4.j4;rw [C9 (by omega) (by omega),Aa];rfl
  obtain ⟨t1,_⟩:=last_f hcl hll (path:=late[k].Path) (by omega)
  obtain ⟨t2,_⟩:=last_f hcr hrl (path:=late[k].Path) (by omega)
  refine ⟨_,?_,rfl⟩;rw [Bi hk,fm_snoc,L4];unfold A4.l1;simp only [Hv,List.foldl_nil];rw [A2,Af (by omega),Ds hk,Aa,clash_any (fun f hf=>by have:=hown f hf;omega) (by omega) (by omega),Aa]
  cases h:Ku own late[k].Path
  ·have e1:secO left right own late[k]=Option.none:=by unfold secO;rw [h];rfl
   have e2:∀ o,Ur own o late[k]=Zf o late[k]:=fun o=>by unfold Ur;rw [h];rfl
   rw [Ae Ay,Put_f q1 q3 hno (Ck (htx _ hx) (by decide)),Aa,hj,e1,e2]
   simp
  ·have e1:secO left right own late[k]=some ⟨lastF left late[k].Path,lastF right late[k].Path⟩:=by unfold secO;rw [h];rfl
   have e2:∀ o,Ur own o late[k]=o:=fun o=>by unfold Ur;rw [h];rfl
   rw [Af rfl,t1,Aa,t2,Aa,H6 (by rw [Ar];omega),Aa,hj,e1,e2]
   rfl) (by
  rintro s rfl;unfold A4.l1;simp only;rw [A2,Ae (by omega),C2]
  exact ⟨_,rfl,rfl⟩) ([],out) rfl
 exact e
end Go.Dc
set_option linter.unusedSimpArgs false
set_option linter.unusedVariables false
set_option maxRecDepth 4000
noncomputable section
namespace Go.Dc
open Go
section
variable (B L R : Ao)
def tmK:Ag:=ksort (Kq B++Kq L++Kq R)
def Yu:Ao:=(tmK B L R).filterMap (outO B L R)
def Vz:Ao:=(tmK B L R).filterMap (X8 B L R)
def tmFst (left right:TreePatch):De:=(tmK B L R).filterMap (fstO B L R left right)
def Yd:Ao:=ownF R (Yu B L R)
def Wo:Ao:=(Vz B L R).foldl (Ur (Yd B L R)) (Yu B L R)
def tmSec (left right:TreePatch):De:=(Vz B L R).filterMap (secO left right (Yd B L R))
end
theorem mem_K {B L R:Ao} {p:ByteArray}:p∈tmK B L R↔K1 B p=true∨K1 L p=true∨K1 R p=true:=by
 unfold tmK;rw [ksort_mem,Bl,Bl,pathsL_mem,pathsL_mem,pathsL_mem];exact or_assoc
theorem not_K {B L R:Ao} (hB:M3 B) (hL:M3 L) (hR:M3 R) {p:ByteArray} (h:p ∉ tmK B L R):vF B L R p=(Option.none,true):=by
 rw [mem_K,not_or,not_or] at h;have e1:=(lk_none hB).2 (by simpa using h.1)
 have e2:=(lk_none hL).2 (by simpa using h.2.1)
 have e3:=(lk_none hR).2 (by simpa using h.2.2)
 show mgO (lk B p) (lk L p) (lk R p)=_;rw [e1,e2,e3];exact mgO_l (fun _ h=>by cases h) (fun _ h=>by cases h) (fun _ h=>by cases h) (.inl rfl)
theorem mem_out {B L R:Ao} (hB:M3 B) (hL:M3 L) (hR:M3 R) {f:File}:f∈Yu B L R↔(vF B L R f.Path).1=some f.Lines∧lk L f.Path≠Option.none:=by
 unfold Yu;rw [Kj];constructor
 ·rintro ⟨p,_,h⟩;have hp:=outO_path B L R p f h;subst hp;unfold outO at h;split at h
  ·rename_i v w h1 h2
   have e:=congrArg File.Lines (Gx h);simp only at e;exact ⟨by rw [h1,e],by rw [h2];simp⟩
  ·cases h
 ·rintro ⟨h1,h2⟩;refine ⟨f.Path,?_,?_⟩
  ·by_cases hk:f.Path∈tmK B L R
   ·exact hk
   ·rw [not_K hB hL hR hk] at h1;cases h1
  ·unfold outO;cases h3:lk L f.Path with
   | none=>exact absurd h3 h2
   | some w=>rw [h1]
theorem mem_late {B L R:Ao} (hB:M3 B) (hL:M3 L) (hR:M3 R) {f:File}:f∈Vz B L R↔(vF B L R f.Path).1=some f.Lines∧lk L f.Path=Option.none:=by
 unfold Vz;rw [Kj];constructor
 ·rintro ⟨p,_,h⟩;have hp:=Y9 B L R p f h;subst hp;unfold X8 at h;split at h
  ·rename_i v h1 h2
   have e:=congrArg File.Lines (Gx h);simp only at e;exact ⟨by rw [h1,e],h2⟩
  ·cases h
 ·rintro ⟨h1,h2⟩;refine ⟨f.Path,?_,?_⟩
  ·by_cases hk:f.Path∈tmK B L R
   ·exact hk
   ·rw [not_K hB hL hR hk] at h1;cases h1
  ·unfold X8;rw [h1,h2]
theorem K_len {B L R:Ao} (hB:TrOk B) (hL:TrOk L) (hR:TrOk R):(tmK B L R).length≤72:=by
 have:=ksort_len (Kq B++Kq L++Kq R);unfold tmK;have h1:=hB.len;have h2:=hL.len;have h3:=hR.len;unfold Kq at *;rw [Au,Au,Dz,Dz,Dz] at this;omega
theorem K_size {B L R:Ao} (hB:TrOk B) (hL:TrOk L) (hR:TrOk R):∀ p∈tmK B L R,p.size≤60:=by
 intro p hp
 have h:∀ l:Ao,TrOk l→K1 l p=true→p.size≤60:=by
  intro l hl hh;obtain ⟨f,hf,rfl⟩:=Wq.1 hh;exact N1 (hl.path f hf)
 rcases mem_K.1 hp with h1 | h1 | h1
 ·exact h B hB h1
 ·exact h L hL h1
 ·exact h R hR h1
theorem out_srt (B L R:Ao):M3 (Yu B L R):=fm_path (outO_path B L R) (ksort_asc _)
theorem late_srtT (B L R:Ao):M3 (Vz B L R):=fm_path (Y9 B L R) (ksort_asc _)
theorem late_no {B L R:Ao} (hB:M3 B) (hL:M3 L) (hR:M3 R):∀ f∈Vz B L R,K1 (Yu B L R) f.Path=false:=by
 intro f hf;cases hh:K1 (Yu B L R) f.Path
 ·rfl
 ·obtain ⟨g,hg,e⟩:=Wq.1 hh;have h1:=((mem_late hB hL hR).1 hf).2;have h2:=((mem_out hB hL hR).1 hg).2;rw [e] at h2;exact absurd h1 h2
theorem fin_mem {B L R:Ao} {f:File}:f∈Wo B L R↔f∈Yu B L R∨(f∈Vz B L R∧Ku (Yd B L R) f.Path=false):=late_mem _ _ _
theorem fin_srt {B L R:Ao} (hB:M3 B) (hL:M3 L) (hR:M3 R):M3 (Wo B L R):=(late_srt (own:=Yd B L R) _ _ (out_srt B L R) (late_srtT B L R) (late_no hB hL hR)).1
theorem vF_ok {B L R:Ao} (hB:TrOk B) (hL:TrOk L) (hR:TrOk R) (p:ByteArray):OkO (vF B L R p).1:=(merged_f (lk_ok hB p) (lk_ok hL p) (lk_ok hR p)).2
theorem tmerge {B:Ao} {left right:TreePatch} (hB:TrOk B) (h1:(Ga left.Changes B).2.Code=0) (h2:(Ga right.Changes B).2.Code=0) :
  A4 ⟨B⟩ left right=some (if (Wo B (Ga left.Changes B).1 (Ga right.Changes B).1).length > 24 then (⟨[]⟩,[],⟨10,-1⟩)
   else (⟨Wo B (Ga left.Changes B).1 (Ga right.Changes B).1⟩,tmFst B (Ga left.Changes B).1 (Ga right.Changes B).1 left right++tmSec B (Ga left.Changes B).1 (Ga right.Changes B).1 left right,⟨0,0⟩)):=by
 obtain ⟨a1,a2,_,_,hL⟩:=T3 h1;obtain ⟨b1,b2,_,_,hR⟩:=T3 h2
 have f1:(Ga left.Changes B).2=⟨0,0⟩:=by
  obtain ⟨_,c2,c3,c4,_⟩:=T3 h1;rw [c4] at h1 ⊢;exact (run_ok _ _ _ c3 c2 h1).2
 have f2:(Ga right.Changes B).2=⟨0,0⟩:=by
  obtain ⟨_,c2,c3,c4,_⟩:=T3 h2;rw [c4] at h2 ⊢;exact (run_ok _ _ _ c3 c2 h2).2
 have eB:Ki B=⟨0,0⟩:=by
  rcases Xd B with h | h
  ·exact h
  ·exact absurd ((Lv B).2 hB) h
 unfold A4;rw [Validate_f,Aa];simp only;rw [eB];simp only [Dd,Eu,C6,Bc,Cg];rw [Apply_f,Aa];simp only;rw [f1];simp only [Dd,Eu,C6,Bc,Cg];rw [Apply_f,Aa];simp only;rw [f2];simp only [Dd,Eu,C6,Bc,Cg];generalize (Ga left.Changes B).1=L at hL ⊢;generalize (Ga right.Changes B).1=R at hR ⊢;have lK:=K_len hB hL hR;have sK:=K_size hB hL hR;have lo:(Yu B L R).length≤72:=Ck (Ee _ _) lK;have ll:(Vz B L R).length≤72:=Ck (Ee _ _) lK;have lf:(tmFst B L R left right).length≤72:=Ck (Ee _ _) lK
 have hsz:∀ f,(f∈Yu B L R∨f∈Vz B L R)→f.Path.size≤60∧f.Lines.length≤120:=by
  intro f hf
  have hv:(vF B L R f.Path).1=some f.Lines:=by
   rcases hf with hf | hf
   ·exact ((mem_out hB.srt hL.srt hR.srt).1 hf).1
   ·exact ((mem_late hB.srt hL.srt hR.srt).1 hf).1
  refine ⟨?_,(vF_ok hB hL hR f.Path f.Lines hv).1⟩;by_cases hk:f.Path∈tmK B L R
  ·exact sK _ hk
  ·rw [not_K hB.srt hL.srt hR.srt hk] at hv;cases hv
 have lown:(Yd B L R).length≤72:=Ck (Lw _ _) lo
 have hlf:=late_f a2 a1 b2 b1 (own:=Yd B L R) (out_srt B L R) (by omega) (late_srtT B L R) (by omega) (late_no hB.srt hL.srt hR.srt) (fun f hf=>(hsz f (.inr hf)).1) (fun f hf=>by have:=(hsz f (.inr hf)).2;omega)
  (fun f hf=>(hsz f (.inl (Mp.1 hf).1)).1) (by omega)
 have ls:(tmSec B L R left right).length≤72:=Ck (Ee _ _) ll;rw [all_f3 hB.len hL.len hR.len,Aa];rw [show ksort (Kq B++Kq L++Kq R)=tmK B L R from rfl,walk_f hB hL hR a2 a1 b2 b1 (K:=tmK B L R) (ksort_asc _) (by omega) sK,Aa]
 simp only;rw [show (tmK B L R).filterMap (fstO B L R left right)=tmFst B L R left right from rfl,show (tmK B L R).filterMap (X8 B L R)=Vz B L R from rfl,show (tmK B L R).filterMap (outO B L R)=Yu B L R from rfl];unfold A4.j1;rw [own_f hR (by omega),Aa]
 unfold A4.j2;rw [show ownF R (Yu B L R)=Yd B L R from rfl,hlf,Aa];simp only;rw [show (Vz B L R).filterMap (secO left right (Yd B L R))=tmSec B L R left right from rfl,show (Vz B L R).foldl (Ur (Yd B L R)) (Yu B L R)=Wo B L R from rfl];unfold A4.j3;rw [A2];by_cases h24:(Wo B L R).length > 24
 ·rw [Af (by omega),Af h24]
 ·rw [Ae (by omega),Ae h24,H6 (by omega),Aa]
theorem fst_nil {B L R:Ao} (hB:M3 B) (hL:M3 L) (hR:M3 R) {left right:TreePatch}:tmFst B L R left right=[]↔∀ p,(vF B L R p).2=true:=by
 unfold tmFst;rw [List.filterMap_eq_nil_iff];constructor
 ·intro h p;by_cases hk:p∈tmK B L R
  ·have:=h p hk;unfold fstO at this;split at this
   ·assumption
   ·cases this
  ·rw [not_K hB hL hR hk]
 ·intro h p _;unfold fstO;rw [Af (h p)]
theorem sec_nil {B L R:Ao} {left right:TreePatch}:tmSec B L R left right=[]↔∀ x∈Vz B L R,Ku (Yd B L R) x.Path=false:=by
 unfold tmSec;rw [List.filterMap_eq_nil_iff];constructor
 ·intro h x hx;have:=h x hx;unfold secO at this;cases hr:Ku (Yd B L R) x.Path
  ·rfl
  ·rw [Af hr] at this;cases this
 ·intro h x hx;unfold secO;rw [h x hx,Ae Ay]
theorem tm_left {B L R:Ao} (hB:TrOk B) (hL:TrOk L) (hR:TrOk R) (h:∀ p,vF B L R p=(lk R p,true)) (left right:TreePatch):Wo B L R=R∧tmFst B L R left right=[]∧tmSec B L R left right=[]:=by
 have hown:Yd B L R=[]:=by
  unfold Yd ownF;rw [List.filter_eq_nil_iff];intro f hf;have h1:=((mem_out hB.srt hL.srt hR.srt).1 hf).1;rw [h] at h1
  have:K1 R f.Path=true:=by
   cases hh:K1 R f.Path
   ·rw [(lk_none hR.srt).2 hh] at h1;cases h1
   ·rfl
  rw [this];simp
 have hrel:∀ p,Ku (Yd B L R) p=false:=fun p=>by rw [hown];rfl
 refine ⟨res_eq (fin_srt hB.srt hL.srt hR.srt) hR.srt fun f=>?_,(fst_nil hB.srt hL.srt hR.srt).2 fun p=>by rw [h],sec_nil.2 fun x hx=>hrel _⟩
 rw [fin_mem,mem_out hB.srt hL.srt hR.srt,mem_late hB.srt hL.srt hR.srt,h,hrel];constructor
 ·rintro (⟨h1,_⟩ | ⟨⟨h1,_⟩,_⟩)
  ·exact (lk_some hR.srt).1 h1
  ·exact (lk_some hR.srt).1 h1
 ·intro hf;have:=(lk_some hR.srt (p:=f.Path) (L:=f.Lines)).2 hf;by_cases hn:lk L f.Path=Option.none
  ·exact .inr ⟨⟨this,hn⟩,rfl⟩
  ·exact .inl ⟨this,hn⟩
end Go.Dc
set_option linter.unusedSimpArgs false
set_option linter.unusedVariables false
set_option maxRecDepth 4000
namespace Go.Dc
open Go
theorem Wy:TrOk []:=(Lv []).1 (by decide)
theorem tf_ok {l:Ao} (h:TrOk l):Ki l=⟨0,0⟩:=by
 rcases Xd l with e | e
 ·exact e
 ·exact absurd ((Lv l).2 h) e
theorem apT_ok (p:A0) (l:Ao):(Ga p l).2=⟨0,0⟩∨(Ga p l).2.Code≠0:=by
 by_cases h:(Ga p l).2.Code=0
 ·left;obtain ⟨_,c2,c3,c4,_⟩:=T3 h;rw [c4] at h ⊢;exact (run_ok _ _ _ c3 c2 h).2
 ·exact .inr h
theorem difT_ok (a b:Ao):(Vr a b).2=⟨0,0⟩∨(Vr a b).2.Code≠0:=by
 unfold Vr;split
 ·next h=>exact .inr h
 ·split
  ·next h=>exact .inr h
  ·split
   ·right;decide
   ·left;rfl
theorem difT_of {a b:Ao} (ha:TrOk a) (hb:TrOk b) (hl:(O4 a b).length≤30):Vr a b=(⟨O4 a b⟩,⟨0,0⟩):=by
 unfold Vr;rw [tf_ok ha,tf_ok hb,Ae (by decide),Ae (by decide),Ae (by omega)]
theorem difN_len {b:Ao} (hb:TrOk b):(O4 [] b).length≤30:=by
 have h1:(O4 [] b).length≤b.length:=by
  unfold O4;simp only [List.filterMap_nil,Cw];exact Ee _ _
 have:=hb.len;omega
theorem difN {b:Ao} (hb:TrOk b):Vr [] b=(⟨O4 [] b⟩,⟨0,0⟩):=difT_of Wy hb (difN_len hb)
theorem apN {b:Ao} (hb:TrOk b):Ga (O4 [] b) []=(b,⟨0,0⟩):=by
 obtain ⟨h1,h2⟩:=dif_ok Wy hb;rw [applyT_of (difN_len hb) h1 Wy,h2]
theorem not_net2 (u k n:Int) (p:TreePatch):¬ Net ⟨2,u,k,n,p⟩:=by intro h;unfold Net at h;simp at h
theorem not_net3 (u k n:Int) (p:TreePatch):¬ Net ⟨3,u,k,n,p⟩:=by intro h;unfold Net at h;simp at h
theorem net4 (u k n:Int) (p:TreePatch):Net ⟨4,u,k,n,p⟩:=.inl rfl
def setTree (s:State_forge) (u:Int) (D:Developer_forge) (t:Ao):State_forge:=⟨s.keys,s.versions,s.developers.set u.toNat ⟨⟨t⟩,D.base,D.sent,D.accepted⟩,s.flight,s.log⟩
theorem step_edit {s:State_forge} {u k n:Int} {p:TreePatch} {D:Developer_forge} (hD:at? s.developers u=some D) :
  M5 s ⟨2,u,k,n,p⟩=some (if (Ga p.Changes D.tree.Files).2.Code≠0 then ((Ga p.Changes D.tree.Files).2.Code,s) else (0,setTree s u D (Ga p.Changes D.tree.Files).1)):=by
 unfold M5;rw [Ae (not_net2 u k n p)];unfold Cm;simp only;rw [hD,Aa,Ae (by simp),Af (by simp),Apply_f,Aa]
 unfold Cm.j2;simp only;rcases apT_ok p.Changes D.tree.Files with h | h
 ·rw [h];simp only [Dd,Eu,C6,Bc,Cg,ne_eq,not_true_eq_false];rw [Aa];rfl
 ·rw [Af (Qd.2 fun h2=>h h2.1),Af h]
noncomputable def Xu (u:Int) (D:Developer_forge) (key:Int) (q:TreePatch):Message_forge:=⟨u,D.sent+1,D.base,sg key (md ⟨u,D.sent+1,D.base,0,q⟩),q⟩
noncomputable def pushS (s:State_forge) (u:Int) (D:Developer_forge) (key:Int) (q:TreePatch):State_forge :=
 ⟨s.keys,s.versions,s.developers.set u.toNat ⟨D.tree,D.base,D.sent+1,D.accepted⟩,s.flight++[Xu u D key q],s.log⟩
theorem letter_ok {u:Int} {D:Developer_forge} {key:Int} {q:TreePatch} (hu:0≤u∧u≤1000) (hs:0≤D.sent∧D.sent≤1000) (hb:0≤D.base∧D.base≤1000):MsgOk (Xu u D key q) :=
 ⟨Mv hu.1 (by show u≤_;omega),Mv (by show 0≤D.sent+1;omega) (by show D.sent+1≤_;omega),Mv hb.1 (by show D.base≤_;omega)⟩
theorem letter_sig {u:Int} {D:Developer_forge} {key:Int} {q:TreePatch} (hk:Oc key) (hu:0≤u∧u≤1000) (hs:0≤D.sent∧D.sent≤1000) (hb:0≤D.base∧D.base≤1000) :
  (Xu u D key q).signature=sg key (md (Xu u D key q))∧Dig (Xu u D key q).signature :=
 ⟨rfl,(sign_f hk (by rw [(md_f (letter_ok (key:=0) hu hs hb)).2];decide:(md (Xu u D 0 q)).length≤4096)).2⟩
theorem step_push {s:State_forge} {u key n:Int} {p:TreePatch} {D:Developer_forge} {V:Ao} (hD:at? s.developers u=some D) (hV:at? s.versions D.base=some ⟨V⟩) (hk:Oc key)
  (hu:0≤u∧u≤1000) (hs:0≤D.sent∧D.sent≤1000) (hb:0≤D.base∧D.base≤1000) :
  M5 s ⟨3,u,key,n,p⟩=some (if (Vr V D.tree.Files).2.Code≠0 then ((Vr V D.tree.Files).2.Code,s) else if (Vr V D.tree.Files).1.Changes=[] then (11,s) else if s.flight.length ≥ 20 then (14,s) else (0,pushS s u D key (Vr V D.tree.Files).1)):=by
 unfold M5;rw [Ae (not_net3 u key n p)];unfold Cm;simp only;rw [hD,Aa,Ae (by simp),Ae (by simp),Af (by simp)]
 unfold Lm;rw [hD,Aa,hV,Aa];have e0:D.tree=⟨D.tree.Files⟩:=rfl;have e1:Bw ⟨V⟩ D.tree=some (Vr V D.tree.Files):=tdifT_f V D.tree.Files;rw [e1,Aa];generalize hd:Vr V D.tree.Files=d;have hz:d.2=⟨0,0⟩∨d.2.Code≠0:=hd ▸ difT_ok V D.tree.Files;obtain ⟨q,f⟩:=d;unfold Lm.j1;simp only at hz ⊢;rcases hz with rfl | h
 ·simp only [Dd,Eu,C6,Bc,Cg,ne_eq,not_true_eq_false];rw [len_zero_dec,A2];by_cases hq:q.Changes=[]
  ·rw [Af hq,Af hq];rfl
  rw [Ae hq,Ae hq,A2];by_cases hf:s.flight.length ≥ 20
  ·rw [Af (by omega),Af hf];rfl
  rw [Ae (by omega),Ae hf,C9 (by omega) (by omega),Aa,Aa]
  obtain ⟨m1,m2⟩:=md_f (letter_ok (q:=q) (key:=0) hu hs hb);have m3:Kk ⟨u,D.sent+1,D.base,0,q⟩=some (md ⟨u,D.sent+1,D.base,0,q⟩):=m1;have m4:(md ⟨u,D.sent+1,D.base,0,q⟩).length=32:=m2;rw [m3,Aa,(sign_f hk (by omega)).1,Aa,H6 (by rw [Ar];omega),Aa]
  rfl
 ·rw [Af (Qd.2 fun h2=>h h2.1),Af h];rfl
def drp (s:State_forge) (n:Nat):State_forge:=⟨s.keys,s.versions,s.developers,s.flight.take n++s.flight.drop (n+1),s.log⟩
theorem Y8 {s:State_forge} {u k:Int} {n:Nat} {p:TreePatch} (hl:s.flight.length≤1000) :
  M5 s ⟨4,u,k,(n:Int),p⟩=if h:n < s.flight.length then (Di (drp s n) s.flight[n]) else some (6,s):=by
 unfold M5;rw [Af (net4 u k (n:Int) p)];unfold Eg;simp only;rw [A2];by_cases h:n < s.flight.length
 ·rw [Ae (by omega),dif_pos h,Ds h,Aa,Af (by decide),C9 (by omega) (by omega),Aa]
  rw [show (n:Int)+1=((n+1:Nat):Int) from rfl,del?_mk (by omega) h,Aa]
  show (Di (drp s n) s.flight[n]).bind _=_;cases Di (drp s n) s.flight[n] <;> rfl
 ·rw [Af (by omega),dif_neg h]
theorem difT_fst {a b:Ao} (h:(Vr a b).2.Code=0):TrOk a∧TrOk b∧(O4 a b).length≤30∧Vr a b=(⟨O4 a b⟩,⟨0,0⟩):=by
 have h0:=h;unfold Vr at h0;by_cases ha:(Ki a).Code≠0
 ·rw [Af ha] at h0;exact absurd h0 ha
 rw [Ae ha] at h0;by_cases hb:(Ki b).Code≠0
 ·rw [Af hb] at h0;exact absurd h0 hb
 rw [Ae hb] at h0;by_cases hl:(O4 a b).length > 30
 ·rw [Af hl] at h0;simp at h0
 have ha':=(Lv a).1 (by simpa using ha)
 have hb':=(Lv b).1 (by simpa using hb)
 exact ⟨ha',hb',by omega,difT_of ha' hb' (by omega)⟩
theorem difT_app {a b:Ao} (h:(Vr a b).2.Code=0):Ga (Vr a b).1.Changes a=(b,⟨0,0⟩):=by
 obtain ⟨ha,hb,hl,e⟩:=difT_fst h;obtain ⟨h1,h2⟩:=dif_ok ha hb;rw [e];show Ga (O4 a b) a=_;rw [applyT_of hl h1 ha,h2]
noncomputable def accG (s:State_forge) (m:Message_forge) (D:Developer_forge) (V N T:Ao):Int×State_forge :=
 if (Vr V N).2.Code≠0 then ((Vr V N).2.Code,s)
 else if (Wo V N T).length > 24 then (10,s)
 else if tmFst V N T ⟨O4 V N⟩ m.patch++tmSec V N T ⟨O4 V N⟩ m.patch≠[] then (19,s)
 else if (Vr N (Wo V N T)).2.Code≠0 then ((Vr N (Wo V N T)).2.Code,s)
 else (0,⟨s.keys,s.versions++[⟨Wo V N T⟩],s.developers.set m.user.toNat ⟨D.tree,D.base,D.sent,m.number⟩,s.flight,s.log++[⟨m.user,m.number,(Vr N (Wo V N T)).1⟩]⟩)
theorem accept_g {s:State_forge} {m:Message_forge} {D:Developer_forge} {key:Int} {V N T:Ao} {v:D8} (hD:at? s.developers m.user=some D) (hk:at? s.keys m.user=some key) (hik:Oc key) (hm:MsgOk m)
  (hsd:Dig m.signature) (hb:at? s.versions m.base=some ⟨V⟩) (hv:s.versions=v++[⟨N⟩]) (hvl:v.length≤1000) (hll:s.log.length≤1000) (hV:TrOk V) (hN:TrOk N)
  (hp:Ga m.patch.Changes V=(T,⟨0,0⟩)):Di s m=some (if sg key (md m)≠m.signature then (18,s) else if m.number≤D.accepted then (16,s) else accG s m D V N T):=by
 obtain ⟨m1,m2⟩:=md_f hm;unfold Di;rw [hD,Aa,hk,Aa,m1,Aa,verify_f hik (by omega) hsd,Aa]
 unfold Di.j1;simp only;by_cases hs:sg key (md m)=m.signature
 ·have hq:¬ sg key (md m)≠m.signature:=fun h=>h hs;rw [Aw hs,Ae (show ¬ (!true)=true by decide),Ae hq,A2]
  by_cases hn:m.number≤D.accepted
  ·rw [Af hn,Af hn]
  rw [Ae hn,Ae hn,hb,Aa,newest_f hv (by omega),Aa,tdifT_f,Aa]
  unfold Di.j2 accG;rcases difT_ok V N with h | h
  ·have h0:(Vr V N).2.Code=0:=by rw [h]
   obtain ⟨_,_,_,e⟩:=difT_fst h0;have hA:=difT_app h0;rw [e] at hA;simp only at hA;rw [e];simp only [Dd,Eu,C6,Bc,Cg,ne_eq,not_true_eq_false];have t1:=tmerge hV (left:=⟨O4 V N⟩) (right:=m.patch) (by show (Ga (O4 V N) V).2.Code=0;rw [hA]) (by rw [hp])
   have e1:(Ga (⟨O4 V N⟩:TreePatch).Changes V).1=N:=by show (Ga (O4 V N) V).1=N;rw [hA]
   have e2:(Ga m.patch.Changes V).1=T:=by rw [hp]
   rw [e1,e2] at t1;rw [t1,Aa];by_cases h24:(Wo V N T).length > 24
   ·rw [Af h24,Af h24];rfl
   rw [Ae h24,Ae h24];simp only [Dd,Eu,C6,Bc,Cg];rw [len_pos_dec,A2];by_cases hc:tmFst V N T ⟨O4 V N⟩ m.patch++tmSec V N T ⟨O4 V N⟩ m.patch=[]
   ·rw [Ae (fun h=>h hc),Ae (fun h=>h hc),newest_f hv (by omega),Aa,tdifT_f,Aa]
    unfold Di.j3;rcases difT_ok N (Wo V N T) with h | h
    ·rw [h];simp only [Dd,Eu,C6,Bc,Cg,ne_eq,not_true_eq_false];rw [Aa,H6 (by rw [hv,Au,Ar,Ar];omega),Aa,H6 (by rw [Ar];omega),Aa]
    ·rw [Af (Qd.2 fun h2=>h h2.1),Af h]
   ·rw [Af hc,Af hc]
  ·rw [Af h,Af (Qd.2 fun h2=>h h2.1)]
 ·rw [Az hs,Af (show (!false)=true from rfl),Af hs]
end Go.Dc
set_option linter.unusedSimpArgs false
set_option linter.unusedVariables false
set_option maxRecDepth 4000
namespace Go.Dc
open Go
instance:DecidableEq File:=fun x y=>if h:x.Path=y.Path∧x.Lines=y.Lines then isTrue (by obtain ⟨p,q⟩:=x;obtain ⟨p',q'⟩:=y;simp only at h;rw [h.1,h.2]) else isFalse fun e=>h (by rw [e];exact ⟨rfl,rfl⟩)
theorem same_s1 (f g:File) (h:f.Lines.length≤1000000):Ox f g=some (decide (f=g)):=by
 obtain ⟨p,x⟩:=f;obtain ⟨q,y⟩:=g;unfold Ox;simp only at h ⊢;rw [A2];by_cases hp:p=q
 ·rw [Af hp,Yy x y h,Aa,Aa];exact congrArg some (C1.2 (by simp [hp]))
 ·rw [Ae hp,Aa];exact congrArg some (Az (by simp [hp])).symm
def smG (b:Ao) (k:Nat) (f:File):Option Bool:=if b[k]? = some f then Option.none else some false
theorem Same_f {a b:Ao} (ha:∀ f∈a,f.Lines.length≤1000000) (hl:a.length≤1000):Gp ⟨a⟩ ⟨b⟩=some (decide (a=b)):=by
 unfold Gp;simp only;by_cases hn:a.length=b.length
 ·rw [Aw (by omega),Ae (by decide),scan0 a (smG b) ?_ ?_,Aa]
  ·cases h:Ll (smG b) 0 a with
   | none =>
    have he:a=b:=List.ext_getElem hn fun j h1 h2=>by
     have:=Tw.1 h j h1;rw [Hm] at this;unfold smG at this;split at this
     ·next hh=>rw [Bb h2] at hh;exact (Gx hh).symm
     ·cases this
    rw [Aw he];rfl
   | some y =>
    obtain ⟨j,hj,e⟩:=Mr h
    rw [Az fun he=>by
     subst he;unfold smG at e;rw [Af (by simp)] at e
     cases e]
    unfold smG at e;split at e
    ·cases e
    ·cases e;rfl
  ·intro k hk _;have hkb:k < b.length:=by omega
   unfold Gp.l1 smG;simp only;rw [A2,Af (by omega),Ds hk,Aa,Ds hkb,Aa,same_s1 _ _ (ha _ (A5 hk)),Aa,Bb hkb]
   by_cases he:a[k]=b[k]
   ·rw [Aw he,Ae (by decide),Af (by rw [he]),C9 (by omega) (by omega)];rfl
   ·rw [Az he,Af (show (!false)=true from rfl),Ae fun h=>he (Gx h).symm]
  ·unfold Gp.l1;simp only;rw [A2,Ae (by omega)]
 ·rw [Az (by omega),Af (show (!false)=true from rfl),Az fun h=>hn (by rw [h])];rfl
theorem net5 (u k n:Int) (p:TreePatch):Net ⟨5,u,k,n,p⟩:=.inr (.inl rfl)
theorem net6 (u k n:Int) (p:TreePatch):Net ⟨6,u,k,n,p⟩:=.inr (.inr (.inl rfl))
theorem net7 (u k n:Int) (p:TreePatch):Net ⟨7,u,k,n,p⟩:=.inr (.inr (.inr rfl))
theorem not_net1 (u k n:Int) (p:TreePatch):¬ Net ⟨1,u,k,n,p⟩:=by intro h;unfold Net at h;simp at h
theorem not_net8 (u k n:Int) (p:TreePatch):¬ Net ⟨8,u,k,n,p⟩:=by intro h;unfold Net at h;simp at h
theorem step_drop {s:State_forge} {u k:Int} {n:Nat} {p:TreePatch} (hl:s.flight.length≤1000) :
  M5 s ⟨5,u,k,(n:Int),p⟩=some (if n < s.flight.length then (0,drp s n) else (6,s)):=by
 unfold M5;rw [Af (net5 u k (n:Int) p)];unfold Eg;simp only;rw [A2];by_cases h:n < s.flight.length
 ·rw [Ae (by omega),Af h,Ds h,Aa,Ae (by simp),Af (by simp),C9 (by omega) (by omega),Aa]
  rw [show (n:Int)+1=((n+1:Nat):Int) from rfl,del?_mk (by omega) h,Aa]
  rfl
 ·rw [Af (by omega),Ae h]
def dupS (s:State_forge) (n:Nat) (m:Message_forge):State_forge:=⟨s.keys,s.versions,s.developers,s.flight.take (n+1)++[m]++s.flight.drop (n+1),s.log⟩
theorem step_dup {s:State_forge} {u k:Int} {n:Nat} {p:TreePatch} (hl:s.flight.length≤1000) :
  M5 s ⟨6,u,k,(n:Int),p⟩=some (if h:n < s.flight.length then (if s.flight.length ≥ 20 then (14,s) else (0,dupS s n s.flight[n])) else (6,s)):=by
 unfold M5;rw [Af (net6 u k (n:Int) p)];unfold Eg;simp only;rw [A2];by_cases h:n < s.flight.length
 ·rw [Ae (by omega),dif_pos h,Ds h,Aa,Ae (by simp),Ae (by simp),Af (by simp),A2]
  by_cases h20:s.flight.length ≥ 20
  ·rw [Af (by omega),Af h20]
  ·rw [Ae (by omega),Ae h20,C9 (by omega) (by omega),Aa]
   have e:ins? 56 s.flight ((n:Int)+1) [s.flight[n]]=some (s.flight.take (n+1)++[s.flight[n]]++s.flight.drop (n+1)):=by
    unfold ins?;simp only;rw [Af (by omega),H6 (by rw [Ar];omega),Aa,show ((n:Int)+1).toNat=n+1 by omega]
   rw [e,Aa];rfl
 ·rw [Af (by omega),dif_neg h]
def tmp1 (m:Message_forge):Message_forge:=⟨m.user,m.number,m.base,(m.signature+1) % 2305843009213693951,m.patch⟩
def tamS (s:State_forge) (n:Nat) (m:Message_forge):State_forge:=⟨s.keys,s.versions,s.developers,s.flight.set n (tmp1 m),s.log⟩
theorem step_tamper {s:State_forge} {u k:Int} {n:Nat} {p:TreePatch} (hd:∀ m∈s.flight,Dig m.signature) :
  M5 s ⟨7,u,k,(n:Int),p⟩=some (if h:n < s.flight.length then (0,tamS s n s.flight[n]) else (6,s)):=by
 unfold M5;rw [Af (net7 u k (n:Int) p)];unfold Eg;simp only;rw [A2];by_cases h:n < s.flight.length
 ·obtain ⟨d1,d2⟩:=hd _ (A5 h);rw [Ae (by omega),dif_pos h,Ds h,Aa,Ae (by simp),Ae (by simp),Ae (by simp),C9 (by omega) (by omega),Aa,rem_nn (by omega) (by decide),Aa,Aa,Aa,Bn]
  rfl
 ·rw [Af (by omega),dif_neg h]
theorem step_reset {s:State_forge} {u k n:Int} {p:TreePatch} {D:Developer_forge} {V:Ao} (hD:at? s.developers u=some D) (hV:at? s.versions D.base=some ⟨V⟩) :
  M5 s ⟨8,u,k,n,p⟩=some (0,setTree s u D V):=by
 unfold M5;rw [Ae (not_net8 u k n p)];unfold Cm;simp only;rw [hD,Aa,Ae (by simp),Ae (by simp),Ae (by simp),hV,Aa,Aa];rfl
def pullS (s:State_forge) (u:Int) (D:Developer_forge) (t:FileTree) (b:Int):State_forge:=⟨s.keys,s.versions,s.developers.set u.toNat ⟨t,b,D.sent,D.accepted⟩,s.flight,s.log⟩
theorem step_pull {s:State_forge} {u k n:Int} {p:TreePatch} {D:Developer_forge} {V:Ao} {v:D8} {t:FileTree} (hD:at? s.developers u=some D) (hV:at? s.versions D.base=some ⟨V⟩) (hT:TrOk D.tree.Files) (hv:s.versions=v++[t]) (hl:v.length≤1000) :
  M5 s ⟨1,u,k,n,p⟩=some (if D.tree.Files=V then (0,pullS s u D t v.length) else (15,s)):=by
 unfold M5;rw [Ae (not_net1 u k n p)];unfold Cm;simp only;have e1:Gp D.tree ⟨V⟩=some (decide (D.tree.Files=V)):=Same_f (a:=D.tree.Files) (fun f hf=>by have:=hT.text_len hf;omega) (by have:=hT.len;omega)
 rw [hD,Aa,Af (by simp),hV,Aa,e1,Aa]
 by_cases h:D.tree.Files=V
 ·have hvl:s.versions.length=v.length+1:=by rw [hv,Au,Ar]
  rw [Aw h,Ae (by decide),Af h,C9 (by omega) (by omega),Aa,newest_f hv (by omega),Aa,Aa,Aa]
  unfold Cm.j1 pullS;rw [List.set_set,hv,Au,Ar,show ((v.length+1:Nat):Int) - 1=(v.length:Int) by omega]
 ·rw [Az h,Af (show (!false)=true from rfl),Ae h]
end Go.Dc
set_option linter.unusedSimpArgs false
set_option linter.unusedVariables false
set_option maxRecDepth 4000
namespace Go.Dc
open Go
structure LetOk (vs:D8) (nk n:Nat) (m:Message_forge):Prop where
 user:0≤m.user∧m.user < nk
 number:1≤m.number∧m.number≤n
 base:0≤m.base
 sig:Dig m.signature
 app:∃ V T,at? vs m.base=some ⟨V⟩∧TrOk V∧Ga m.patch.Changes V=(T,⟨0,0⟩)
structure DevOk (vs:D8) (n:Nat) (D:Developer_forge):Prop where
 tree:TrOk D.tree.Files
 base:0≤D.base∧D.base < vs.length
 sent:0≤D.sent∧D.sent≤n
 acc:0≤D.accepted∧D.accepted≤n
structure Inv (keys:List Int) (n:Nat) (s:State_forge):Prop where
 ks:s.keys=keys
 kl:keys.length≤4
 devs:s.developers.length=keys.length
 vers:s.versions.length≤n+1
 first:s.versions[0]? = some ⟨[]⟩
 tree:∀ t∈s.versions,TrOk t.Files
 dev:∀ D∈s.developers,DevOk s.versions n D
 fl:s.flight.length≤20
 let_:∀ m∈s.flight,LetOk s.versions keys.length n m
 log:s.log.length+1=s.versions.length
 ent:∀ e∈s.log,(0≤e.User∧e.User < keys.length)∧(1≤e.Number∧e.Number≤n)
 rep:∀ k (h:k < s.log.length),∃ A B,s.versions[k]? = some ⟨A⟩∧s.versions[k+1]? = some ⟨B⟩∧Ga s.log[k].Patch.Changes A=(B,⟨0,0⟩)
theorem LetOk.up {vs:D8} {nk n:Nat} {m:Message_forge} (h:LetOk vs nk n m):LetOk vs nk (n+1) m:=⟨h.user,⟨h.number.1,by have:=h.number.2;omega⟩,h.base,h.sig,h.app⟩
theorem DevOk.up {vs:D8} {n:Nat} {D:Developer_forge} (h:DevOk vs n D):DevOk vs (n+1) D:=⟨h.tree,h.base,⟨h.sent.1,by have:=h.sent.2;omega⟩,⟨h.acc.1,by have:=h.acc.2;omega⟩⟩
theorem Inv.up {keys:List Int} {n:Nat} {s:State_forge} (h:Inv keys n s):Inv keys (n+1) s where
 ks:=h.ks
 kl:=h.kl
 devs:=h.devs
 vers:=by have:=h.vers;omega
 first:=h.first
 tree:=h.tree
 dev:=fun D hD=>(h.dev D hD).up
 fl:=h.fl
 let_:=fun m hm=>(h.let_ m hm).up
 log:=h.log
 ent:=fun e he=>⟨(h.ent e he).1,(h.ent e he).2.1,by have:=(h.ent e he).2.2;omega⟩
 rep:=h.rep
theorem Inv.setDev {keys:List Int} {n:Nat} {s:State_forge} (h:Inv keys n s) (i:Nat) {D:Developer_forge} (hD:DevOk s.versions n D):Inv keys n ⟨s.keys,s.versions,s.developers.set i D,s.flight,s.log⟩ where
 ks:=h.ks
 kl:=h.kl
 devs:=by rw [← h.devs];exact Qx
 vers:=h.vers
 first:=h.first
 tree:=h.tree
 dev:=fun x hx=>by
  rcases List.mem_or_eq_of_mem_set hx with hx | rfl
  ·exact h.dev x hx
  ·exact hD
 fl:=h.fl
 let_:=h.let_
 log:=h.log
 ent:=h.ent
 rep:=h.rep
theorem Inv.setFl {keys:List Int} {n:Nat} {s:State_forge} (h:Inv keys n s) {fl:D5} (h1:fl.length≤20) (h2:∀ m∈fl,LetOk s.versions keys.length n m):Inv keys n ⟨s.keys,s.versions,s.developers,fl,s.log⟩ where
 ks:=h.ks
 kl:=h.kl
 devs:=h.devs
 vers:=h.vers
 first:=h.first
 tree:=h.tree
 dev:=h.dev
 fl:=h1
 let_:=h2
 log:=h.log
 ent:=h.ent
 rep:=h.rep
theorem Inv.newest {keys:List Int} {n:Nat} {s:State_forge} (h:Inv keys n s):∃ v t,s.versions=v++[⟨t⟩]∧TrOk t∧v.length=s.log.length:=by
 have hne:s.versions≠[]:=fun e=>by have:=h.first;rw [e] at this;cases this
 refine ⟨s.versions.dropLast,(s.versions.getLast hne).Files,(List.dropLast_concat_getLast hne).symm,h.tree _ (List.getLast_mem hne),?_⟩;rw [List.length_dropLast];have:=h.log;omega
theorem Inv.drp {keys:List Int} {n:Nat} {s:State_forge} (h:Inv keys n s) (k:Nat):Inv keys n (drp s k):=by
 refine h.setFl ?_ fun m hm=>?_
 ·rw [Au,Bg,Bz];have:=h.fl;omega
 ·rcases Bl.1 hm with hm | hm
  ·exact h.let_ m (C3 hm)
  ·exact h.let_ m (Et hm)
theorem at_lt {α:Type} {l:List α} {i:Int} (h0:0≤i) (h1:i < l.length):∃ x,at? l i=some x∧x∈l∧∃ h:i.toNat < l.length,x=l[i.toNat]:=by
 obtain ⟨k,rfl⟩:=Int.eq_ofNat_of_zero_le h0;have hk:k < l.length:=by omega
 exact ⟨l[k],Ds hk,A5 hk,by simpa using hk,by simp⟩
theorem at_app {α:Type} {l r:List α} {i:Int} {x:α} (h:at? l i=some x):at? (l++r) i=some x:=by
 obtain ⟨h0,hi,e⟩:=Mc h;unfold at?;rw [Af h0,List.getElem?_append_left hi,Bb hi,e]
theorem LetOk.grow {vs:D8} {nk n:Nat} {m:Message_forge} (h:LetOk vs nk n m) (r:D8):LetOk (vs++r) nk n m:=by
 obtain ⟨V,T,h1,h2⟩:=h.app;exact ⟨h.user,h.number,h.base,h.sig,V,T,at_app h1,h2⟩
theorem DevOk.grow {vs:D8} {n:Nat} {D:Developer_forge} (h:DevOk vs n D) (r:D8):DevOk (vs++r) n D:=⟨h.tree,⟨h.base.1,by have:=h.base.2;rw [Au];omega⟩,h.sent,h.acc⟩
theorem Inv.acc {keys:List Int} {n:Nat} {s:State_forge} (h:Inv keys n s) {m:Message_forge} (hm:LetOk s.versions keys.length n m) {D:Developer_forge} (hD:DevOk s.versions n D) {V N T:Ao} {v:D8} (hv:s.versions=v++[⟨N⟩]) (hvl:v.length=s.log.length) :
  Inv keys (n+1) (accG s m D V N T).2:=by
 unfold accG;split
 ·exact h.up
 split
 ·exact h.up
 split
 ·exact h.up
 split
 ·exact h.up
 ·next hd =>
  have hd0:(Vr N (Wo V N T)).2.Code=0:=by simpa using hd
  have happ:=difT_app hd0;obtain ⟨hN,hT,_,_⟩:=difT_fst hd0;have hu:=h.up;have nm:=hm.number;refine ⟨h.ks,h.kl,by rw [← h.devs];exact Qx,?_,?_,?_,?_,h.fl,fun x hx=>((h.let_ x hx).up).grow _,?_,?_,?_⟩
  ·show (s.versions++[_]).length≤_;rw [Au,Ar];have:=h.vers;omega
  ·show (s.versions++[_])[0]? = _;have hl:=h.log;rw [List.getElem?_append_left (by omega)];exact h.first
  ·intro t ht;rcases Bl.1 ht with ht | ht
   ·exact h.tree t ht
   ·rw [Bd] at ht;subst ht;exact hT
  ·intro x hx;rcases List.mem_or_eq_of_mem_set hx with hx | rfl
   ·exact ((h.dev x hx).up).grow _
   ·exact (⟨hD.tree,hD.base,⟨hD.sent.1,by have:=hD.sent.2;show D.sent≤((n+1:Nat):Int);omega⟩,⟨by show 0≤m.number;omega,by show m.number≤((n+1:Nat):Int);omega⟩⟩:DevOk s.versions (n+1) ⟨D.tree,D.base,D.sent,m.number⟩).grow _
  ·show (s.log++[_]).length+1=(s.versions++[_]).length;rw [Au,Au,Ar,Ar,h.log]
  ·intro e he;rcases Bl.1 he with he | he
   ·exact hu.ent e he
   ·rw [Bd] at he;subst he;exact ⟨hm.user,nm.1,by show m.number≤((n+1:Nat):Int);omega⟩
  ·intro k hk;have hlog:=h.log;by_cases hk2:k < s.log.length
   ·obtain ⟨A,B,h1,h2,h3⟩:=h.rep k hk2;refine ⟨A,B,?_,?_,?_⟩
    ·show (s.versions++[_])[k]? = _;rw [List.getElem?_append_left (by omega)];exact h1
    ·show (s.versions++[_])[k+1]? = _;rw [List.getElem?_append_left (by omega)];exact h2
    ·show Ga ((s.log++[_])[k]).Patch.Changes A=_;rw [Hh hk2];exact h3
   ·have hk3:k=s.log.length:=by
     have:k < (s.log++[_]).length:=hk;rw [Au,Ar] at this;omega
    subst hk3;refine ⟨N,Wo V N T,?_,?_,?_⟩
    ·show (s.versions++[_])[s.log.length]? = _;rw [List.getElem?_append_left (by omega),hv,← hvl];simp
    ·show (s.versions++[_])[s.log.length+1]? = _;rw [hlog];simp
    ·show Ga ((s.log++[_])[s.log.length]).Patch.Changes N=_;rw [Hc (C8 _)];simpa using happ
theorem step_del {keys:List Int} {n:Nat} {s:State_forge} (h:Inv keys n s) (hn:n≤100) (hk:∀ k∈keys,Oc k) {m:Message_forge} (hm:LetOk s.versions keys.length n m) :
  ∃ D key V N T v,at? s.developers m.user=some D∧at? s.keys m.user=some key∧Oc key∧DevOk s.versions n D∧s.versions=v++[⟨N⟩]∧v.length=s.log.length ∧
   Di s m=some (if sg key (md m)≠m.signature then (18,s) else if m.number≤D.accepted then (16,s) else accG s m D V N T):=by
 obtain ⟨V,T,h1,h2,h3⟩:=hm.app;obtain ⟨v,N,h4,h5,h6⟩:=h.newest;have hlog:=h.log;have hve:=h.vers;obtain ⟨D,d1,d2,_⟩:=at_lt (l:=s.developers) hm.user.1 (by rw [h.devs];exact hm.user.2)
 obtain ⟨key,k1,k2,_⟩:=at_lt (l:=s.keys) hm.user.1 (by rw [h.ks];exact hm.user.2)
 have hik:Oc key:=hk key (by rw [← h.ks];exact k2)
 have hb:=Mc h1;have hbl:m.base < s.versions.length:=by obtain ⟨b0,b1,_⟩:=hb;omega
 have nm:=hm.number;have us:=hm.user;have hkl:=h.kl;have hul:m.user≤1000000000000:=by omega
 exact ⟨D,key,V,N,T,v,d1,k1,hik,h.dev D d2,h4,h6,accept_g d1 k1 hik ⟨Mv us.1 hul,Mv (by omega) (by omega),Mv hm.base (by omega)⟩ hm.sig h1 h4 (by omega) (by omega) h2 h5 h3⟩
end Go.Dc
set_option linter.unusedSimpArgs false
set_option linter.unusedVariables false
set_option maxRecDepth 4000
namespace Go.Dc
open Go
theorem evC_net {n:Int} {e:ForgeEvent} (hn:Net e) (h:evC n e=0):0≤e.N∧e.N≤1000000000:=by
 unfold evC at h;rw [Af hn] at h;unfold evN at h;by_cases hc:e.N < 0∨e.N > 1000000000
 ·rw [Af hc] at h;simp at h
 ·omega
theorem evC_dev {n:Int} {e:ForgeEvent} (hn:¬ Net e) (h:evC n e=0):(e.Kind=1∨e.Kind=2∨e.Kind=3∨e.Kind=8)∧0≤e.User∧e.User < n∧(e.Kind=3→Oc e.Key):=by
 unfold evC at h;rw [Ae hn] at h;by_cases hk:e.Kind=1∨e.Kind=2∨e.Kind=3∨e.Kind=8
 ·rw [Af hk] at h;unfold evD at h;by_cases hc:e.User < 0∨e.User ≥ n∨(e.Kind=3∧¬ Oc e.Key)
  ·rw [Af hc] at h;simp at h
  ·exact ⟨hk,by omega,by omega,fun h3=>Classical.not_not.1 fun h4=>hc (.inr (.inr ⟨h3,h4⟩))⟩
 ·rw [Ae hk] at h;simp at h
theorem Inv.sigs {keys:List Int} {n:Nat} {s:State_forge} (h:Inv keys n s):∀ m∈s.flight,Dig m.signature:=fun m hm=>(h.let_ m hm).sig
theorem LetOk.tmp1 {vs:D8} {nk n:Nat} {m:Message_forge} (h:LetOk vs nk n m):LetOk vs nk n (tmp1 m):=⟨h.user,h.number,h.base,dig_mod,h.app⟩
theorem accG_log (s:State_forge) (m:Message_forge) (D:Developer_forge) (V N T:Ao):∃ r,(accG s m D V N T).2.log=s.log++r:=by
 unfold accG;split
 ·exact ⟨[],(Ba _).symm⟩
 split
 ·exact ⟨[],(Ba _).symm⟩
 split
 ·exact ⟨[],(Ba _).symm⟩
 split
 ·exact ⟨[],(Ba _).symm⟩
 ·exact ⟨_,rfl⟩
theorem step_tot {keys:List Int} {n:Nat} {s:State_forge} (h:Inv keys n s) (hn:n≤100) (hk:∀ k∈keys,Oc k) {e:ForgeEvent} (he:evC keys.length e=0):∃ c s',M5 s e=some (c,s')∧Inv keys (n+1) s'∧∃ r,s'.log=s.log++r:=by
 have hfl:=h.fl;obtain ⟨K,u,key,N,p⟩:=e;by_cases hnet:Net ⟨K,u,key,N,p⟩
 ·obtain ⟨h0,h1⟩:=evC_net hnet he;simp only at h0 h1;obtain ⟨k,rfl⟩:=Int.eq_ofNat_of_zero_le h0;rcases hnet with rfl | rfl | rfl | rfl
  ·have e:=Y8 (u:=u) (k:=key) (n:=k) (p:=p) (s:=s) (by omega)
   by_cases hlt:k < s.flight.length
   ·rw [dif_pos hlt] at e;have hm:=h.let_ _ (A5 hlt);obtain ⟨D,ky,V,N,T,v,_,_,_,hD,hv,hvl,ha⟩:=step_del (h.drp k) hn hk hm;rw [ha] at e;split at e
    ·exact ⟨_,_,e,(h.drp k).up,[],(Ba s.log).symm⟩
    ·split at e
     ·exact ⟨_,_,e,(h.drp k).up,[],(Ba s.log).symm⟩
     ·exact ⟨_,_,e,(h.drp k).acc hm hD hv hvl,accG_log _ _ _ _ _ _⟩
   ·rw [dif_neg hlt] at e;exact ⟨_,_,e,h.up,[],(Ba s.log).symm⟩
  ·have e:=step_drop (u:=u) (k:=key) (n:=k) (p:=p) (s:=s) (by omega)
   by_cases hlt:k < s.flight.length
   ·rw [Af hlt] at e;exact ⟨_,_,e,(h.drp k).up,[],(Ba s.log).symm⟩
   ·rw [Ae hlt] at e;exact ⟨_,_,e,h.up,[],(Ba s.log).symm⟩
  ·have e:=step_dup (u:=u) (k:=key) (n:=k) (p:=p) (s:=s) (by omega)
   by_cases hlt:k < s.flight.length
   ·rw [dif_pos hlt] at e;by_cases h20:s.flight.length ≥ 20
    ·rw [Af h20] at e;exact ⟨_,_,e,h.up,[],(Ba s.log).symm⟩
    ·rw [Ae h20] at e;refine ⟨_,_,e,(h.setFl ?_ fun m hm=>?_).up,[],(Ba s.log).symm⟩
     ·rw [Au,Au,Bg,Bz,Ar];omega
     ·rw [Bl,Bl,Bd] at hm;rcases hm with (hm | rfl) | hm
      ·exact h.let_ m (C3 hm)
      ·exact h.let_ _ (A5 hlt)
      ·exact h.let_ m (Et hm)
   ·rw [dif_neg hlt] at e;exact ⟨_,_,e,h.up,[],(Ba s.log).symm⟩
  ·have e:=step_tamper (u:=u) (k:=key) (n:=k) (p:=p) (s:=s) h.sigs;by_cases hlt:k < s.flight.length
   ·rw [dif_pos hlt] at e;refine ⟨_,_,e,(h.setFl ?_ fun m hm=>?_).up,[],(Ba s.log).symm⟩
    ·rw [Qx];exact hfl
    ·rcases List.mem_or_eq_of_mem_set hm with hm | rfl
     ·exact h.let_ m hm
     ·exact (h.let_ _ (A5 hlt)).tmp1
   ·rw [dif_neg hlt] at e;exact ⟨_,_,e,h.up,[],(Ba s.log).symm⟩
 ·obtain ⟨hK,h0,h1,h3⟩:=evC_dev hnet he;simp only at hK h0 h1 h3;have hkl:=h.kl;obtain ⟨D,d1,d2,_⟩:=at_lt (l:=s.developers) h0 (by rw [h.devs];exact h1)
  have hD:=h.dev D d2;obtain ⟨⟨V⟩,v1,v2,_⟩:=at_lt (l:=s.versions) hD.base.1 hD.base.2;have hV:=h.tree _ v2;have hve:=h.vers;have hlog:=h.log;obtain ⟨v,N',hv,hN,hvl⟩:=h.newest;rcases hK with rfl | rfl | rfl | rfl
  ·have e:=step_pull (u:=u) (k:=key) (n:=N) (p:=p) d1 v1 hD.tree hv (by omega)
   by_cases hs:D.tree.Files=V
   ·rw [Af hs] at e;refine ⟨_,_,e,(h.setDev _ ?_).up,[],(Ba s.log).symm⟩;exact ⟨hN,⟨by show (0:Int)≤v.length;omega,by show (v.length:Int) < s.versions.length;omega⟩,hD.sent,hD.acc⟩
   ·rw [Ae hs] at e;exact ⟨_,_,e,h.up,[],(Ba s.log).symm⟩
  ·have e:=step_edit (u:=u) (k:=key) (n:=N) (p:=p) d1;by_cases hc:(Ga p.Changes D.tree.Files).2.Code=0
   ·rw [Ae (by omega)] at e
    refine ⟨_,_,e,(h.setDev _ ?_).up,[],(Ba s.log).symm⟩;exact ⟨(T3 hc).2.2.2.2,hD.base,hD.sent,hD.acc⟩
   ·rw [Af hc] at e;exact ⟨_,_,e,h.up,[],(Ba s.log).symm⟩
  ·have e:=step_push (u:=u) (key:=key) (n:=N) (p:=p) d1 v1 (h3 rfl) ⟨h0,by omega⟩ ⟨hD.sent.1,by have:=hD.sent.2;omega⟩ ⟨hD.base.1,by have:=hD.base.2;omega⟩
   by_cases hc:(Vr V D.tree.Files).2.Code=0
   ·rw [Ae (by omega)] at e
    split at e
    ·exact ⟨_,_,e,h.up,[],(Ba s.log).symm⟩
    ·split at e
     ·exact ⟨_,_,e,h.up,[],(Ba s.log).symm⟩
     ·next h20 =>
      refine ⟨_,_,e,?_,[],(Ba s.log).symm⟩;have hS:Inv keys (n+1) ⟨s.keys,s.versions,s.developers.set u.toNat ⟨D.tree,D.base,D.sent+1,D.accepted⟩,s.flight,s.log⟩:=h.up.setDev _ ⟨hD.tree,hD.base,⟨by show 0≤D.sent+1;have:=hD.sent.1;omega,by show D.sent+1≤((n+1:Nat):Int);have:=hD.sent.2;omega⟩,⟨hD.acc.1,by have:=hD.acc.2;show D.accepted≤((n+1:Nat):Int);omega⟩⟩
      refine hS.setFl (by rw [Au,Ar];omega) fun m hm=>?_
      rcases Bl.1 hm with hm | hm
      ·exact (h.let_ m hm).up
      ·rw [Bd] at hm;subst hm;have hsig:=letter_sig (u:=u) (D:=D) (q:=(Vr V D.tree.Files).1) (h3 rfl) ⟨h0,by omega⟩ ⟨hD.sent.1,by have:=hD.sent.2;omega⟩ ⟨hD.base.1,by have:=hD.base.2;omega⟩
       exact ⟨⟨h0,h1⟩,⟨by show 1≤D.sent+1;have:=hD.sent.1;omega,by show D.sent+1≤((n+1:Nat):Int);have:=hD.sent.2;omega⟩,hD.base.1,hsig.2,V,D.tree.Files,v1,hV,difT_app hc⟩
   ·rw [Af hc] at e;exact ⟨_,_,e,h.up,[],(Ba s.log).symm⟩
  ·have e:=step_reset (u:=u) (k:=key) (n:=N) (p:=p) d1 v1;exact ⟨_,_,e,(h.setDev u.toNat (D:=⟨⟨V⟩,D.base,D.sent,D.accepted⟩) ⟨hV,hD.base,hD.sent,hD.acc⟩).up,[],(Ba s.log).symm⟩
theorem runs_tot {keys:List Int} (hk:∀ k∈keys,Oc k):∀ (l:B1) (n:Nat) (s:State_forge) (out:List Int),Inv keys n s→n+l.length≤100→(∀ e∈l,evC keys.length e=0) →
  ∃ s' out',runs s out l=some (s',out')∧Inv keys (n+l.length) s'∧out'.length=out.length+l.length
 | [],n,s,out,h,_,_=>⟨s,out,rfl,h,by simp⟩
 | e::l,n,s,out,h,hn,he=>by
  rw [Dl] at hn;obtain ⟨c,t,h1,h2,_⟩:=step_tot h (by omega) hk (he e (by simp))
  obtain ⟨s',out',h3,h4,h5⟩:=runs_tot hk l (n+1) t (out++[c]) h2 (by omega) fun x hx=>he x (by simp [hx])
  refine ⟨s',out',by rw [Vy h1];exact h3,?_,?_⟩
  ·rw [Dl,show n+(l.length+1)=n+1+l.length by omega];exact h4
  ·rw [h5,Au,Ar,Dl];omega
theorem runs_log {keys:List Int} (hk:∀ k∈keys,Oc k):∀ (l:B1) (n:Nat) (s:State_forge) (out:List Int),Inv keys n s→n+l.length≤100→(∀ e∈l,evC keys.length e=0) →
  ∀ s' out',runs s out l=some (s',out')→∃ r,s'.log=s.log++r
 | [],n,s,out,h,_,_,s',out',e=>by
  cases e;exact ⟨[],(Ba _).symm⟩
 | e::l,n,s,out,h,hn,he,s',out',hr=>by
  rw [Dl] at hn;obtain ⟨c,t,h1,h2,r1,h3⟩:=step_tot h (by omega) hk (he e (by simp))
  rw [Vy h1] at hr;obtain ⟨r2,h4⟩:=runs_log hk l (n+1) t (out++[c]) h2 (by omega) (fun x hx=>he x (by simp [hx])) s' out' hr
  exact ⟨r1++r2,by rw [h4,h3,A6]⟩
theorem runs_app:∀ (a b:B1) (s:State_forge) (out:List Int),runs s out (a++b)=(runs s out a).bind fun y=>runs y.1 y.2 b
 | [],b,s,out=>rfl
 | e::a,b,s,out=>by
  rw [List.cons_append,runs,runs];cases M5 s e with
  | none=>rfl
  | some y=>simp only [Aa];exact runs_app a b _ _
theorem inv0 {keys:List Int} (h:keys.length≤4):Inv keys 0 (st0 keys) where
 ks:=rfl
 kl:=h
 devs:=by simp [st0]
 vers:=by simp [st0]
 first:=rfl
 tree:=fun t ht=>by
  have:t=⟨[]⟩:=by simpa [st0] using ht
  subst this;exact Wy
 dev:=fun D hD=>by
  have:D=⟨⟨[]⟩,0,0,0⟩:=(List.mem_replicate.1 hD).2;subst this;exact ⟨Wy,⟨by simp,by simp [st0]⟩,⟨by simp,by simp⟩,⟨by simp,by simp⟩⟩
 fl:=by simp [st0]
 let_:=fun m hm=>by simp [st0] at hm
 log:=by simp [st0]
 ent:=fun e he=>by simp [st0] at he
 rep:=fun k hk=>by simp [st0] at hk
theorem run_tot {keys:List Int} {events:B1} (hv:(fvF keys events).Code=0):∃ s out t v,runs (st0 keys) [] events=some (s,out)∧Inv keys events.length s∧out.length=events.length∧s.versions=v++[⟨t⟩]∧TrOk t∧v.length=s.log.length ∧
  Mu keys events=some (⟨t⟩,s.log,out,⟨0,0⟩):=by
 obtain ⟨⟨k1,k2,k3⟩,e1,e2⟩:=(Xz keys events).1 hv;obtain ⟨s,out,h1,h2,h3⟩:=runs_tot k3 events 0 (st0 keys) [] (inv0 k2) (by omega) e2
 rw [Hm] at h2;obtain ⟨v,t,h4,h5,h6⟩:=h2.newest;have:=h2.vers;have:=h2.log;exact ⟨s,out,t,v,h1,h2,by simpa using h3,h4,h5,h6,Run_f hv h1 h4 (by omega) h5⟩
end Go.Dc
set_option linter.unusedSimpArgs false
set_option linter.unusedVariables false
set_option maxRecDepth 4000
namespace Go.Dc
open Go
theorem mg_empty {R:Ao} (hR:TrOk R) (p q:TreePatch):Wo [] [] R=R∧tmFst [] [] R p q=[]∧tmSec [] [] R p q=[]:=by
 refine tm_left Wy Wy hR (fun x=>?_) p q;show mgO Option.none Option.none (lk R x)=_;have h0:OkO Option.none:=fun _ h=>by cases h
 by_cases h:lk R x=Option.none
 ·rw [mgO_l h0 h0 (lk_ok hR x) (.inl h),h]
 ·rw [mgO_r h0 h0 (lk_ok hR x) (by rintro (h2 | h2) <;> exact h h2) rfl]
theorem accG_empty {s:State_forge} {m:Message_forge} {D:Developer_forge} {R:Ao} (hR:TrOk R) :
  accG s m D [] [] R=(0,⟨s.keys,s.versions++[⟨R⟩],s.developers.set m.user.toNat ⟨D.tree,D.base,D.sent,m.number⟩,s.flight,s.log++[⟨m.user,m.number,⟨O4 [] R⟩⟩]⟩):=by
 unfold accG;obtain ⟨h1,h2,h3⟩:=mg_empty hR ⟨O4 [] []⟩ m.patch;have:=hR.len;rw [h1,h2,h3,difN Wy,Ae (by simp),Ae (by omega),Ae (by simp),difN hR,Ae (by simp)]
def evE (u:Int) (p:TreePatch):ForgeEvent:=⟨2,u,0,0,p⟩
def evP (u key:Int):ForgeEvent:=⟨3,u,key,0,⟨[]⟩⟩
def evL (n:Int):ForgeEvent:=⟨4,0,0,n,⟨[]⟩⟩
theorem evE_c {n u:Int} (h0:0≤u) (h1:u < n) (p:TreePatch):evC n (evE u p)=(pcF p.Changes).Code:=by
 unfold evC evE;rw [Ae (not_net2 u 0 0 p),Af (by simp)]
 unfold evD;rw [Ae (by rintro (h | h | h);exact absurd h (by show ¬ u < 0;omega);exact absurd h (by show ¬ u ≥ n;omega);exact absurd h.1 (by simp)),Af rfl]
theorem evP_c {n u key:Int} (h0:0≤u) (h1:u < n):evC n (evP u key)=if Oc key then 0 else 3:=by
 unfold evC evP;rw [Ae (not_net3 u key 0 _),Af (by simp)]
 unfold evD;by_cases hk:Oc key
 ·rw [Ae (by rintro (h | h | h);exact absurd h (by show ¬ u < 0;omega);exact absurd h (by show ¬ u ≥ n;omega);exact h.2 hk),Ae (by simp),Af hk]
 ·rw [Af (.inr (.inr ⟨rfl,hk⟩)),Ae hk]
theorem evL_c {n k:Int} (h0:0≤k) (h1:k≤1000000000):evC n (evL k)=0:=by
 unfold evC evL;rw [Af (net4 0 0 k _)];unfold evN;rw [Ae (by rintro (h | h);exact absurd h (by show ¬ k < 0;omega);exact absurd h (by show ¬ k > 1000000000;omega))]
def evs1 (key:Int) (p:TreePatch):B1:=[evE 0 p,evP 0 key,evL 0]
theorem fv1 (key:Int) (p:TreePatch):(fvF [key] (evs1 key p)).Code=0↔Oc key∧(pcF p.Changes).Code=0:=by
 rw [Xz];have e1:=evE_c (n:=([key]:List Int).length) (u:=0) (by omega) (by simp) p
 have e2:=evP_c (n:=([key]:List Int).length) (u:=0) (key:=key) (by omega) (by simp)
 have e3:=evL_c (n:=([key]:List Int).length) (k:=0) (by omega) (by omega)
 constructor
 ·rintro ⟨⟨_,_,hk⟩,_,he⟩;exact ⟨hk key (by simp),by rw [← e1];exact he _ (by simp [evs1])⟩
 ·rintro ⟨hk,hp⟩;refine ⟨⟨by simp,by simp,fun k h=>by rw [Bd] at h;rw [h];exact hk⟩,by simp [evs1],fun e he=>?_⟩
  unfold evs1 at he;simp only [Bt,List.not_mem_nil,or_false] at he;rcases he with rfl | rfl | rfl
  ·rw [e1];exact hp
  ·rw [e2,Af hk]
  ·exact e3
theorem ap_tr (p:A0):TrOk (Ga p []).1:=by
 by_cases h:(Ga p []).2.Code=0
 ·exact (T3 h).2.2.2.2
 ·rw [applyT_fail h];exact Wy
theorem difL_nil {b:Ao}:O4 [] b=[]↔b=[]:=by
 unfold O4;simp only [List.filterMap_nil,Cw];cases b with
 | nil=>simp
 | cons f r=>simp [adOf,K1]
def s1 (key:Int) (t:Ao):State_forge:=⟨[key],[⟨[]⟩],[⟨⟨t⟩,0,0,0⟩],[],[]⟩
def s3 (key:Int) (t:Ao):State_forge:=⟨[key],[⟨[]⟩,⟨t⟩],[⟨⟨t⟩,0,1,1⟩],[],[⟨0,1,⟨O4 [] t⟩⟩]⟩
theorem first_runs {key:Int} (hk:Oc key) (p:TreePatch):runs (st0 [key]) [] (evs1 key p)=some (if (Ga p.Changes []).1=[] then (s1 key (Ga p.Changes []).1,[(Ga p.Changes []).2.Code,11,6]) else (s3 key (Ga p.Changes []).1,[(Ga p.Changes []).2.Code,0,0])):=by
 have ht:=ap_tr p.Changes
 have step1:M5 (st0 [key]) (evE 0 p)=some ((Ga p.Changes []).2.Code,s1 key (Ga p.Changes []).1):=by
  unfold evE;rw [step_edit (D:=⟨⟨[]⟩,0,0,0⟩) rfl];simp only;by_cases h:(Ga p.Changes []).2.Code=0
  ·rw [Ae (by omega),h];rfl
  ·rw [Af h,applyT_fail h];rfl
 unfold evs1;rw [Vy step1];generalize (Ga p.Changes []).2.Code=c0;generalize (Ga p.Changes []).1=t at ht ⊢
 have step2:M5 (s1 key t) (evP 0 key)=some (if t=[] then (11,s1 key t) else (0,pushS (s1 key t) 0 ⟨⟨t⟩,0,0,0⟩ key ⟨O4 [] t⟩)):=by
  unfold evP;rw [step_push (D:=⟨⟨t⟩,0,0,0⟩) (V:=[]) rfl rfl hk (by omega) (by simp) (by simp)]
  simp only;rw [difN ht];simp only [ne_eq,not_true_eq_false,Cg,difL_nil];rfl
 by_cases h:t=[]
 ·rw [Af h] at step2 ⊢;rw [Vy step2]
  have step3:M5 (s1 key t) (evL 0)=some (6,s1 key t):=by
   unfold evL;rw [show (0:Int)=((0:Nat):Int) from rfl,Y8 (by show 0≤1000;omega),dif_neg (by show ¬ 0 < 0;omega)]
  rw [Vy step3];rfl
 ·rw [Ae h] at step2 ⊢;rw [Vy step2]
  have step3:M5 (pushS (s1 key t) 0 ⟨⟨t⟩,0,0,0⟩ key ⟨O4 [] t⟩) (evL 0)=some (0,s3 key t):=by
   unfold evL;rw [show (0:Int)=((0:Nat):Int) from rfl,Y8 (by show 1≤1000;omega),dif_pos (by show 0 < 1;omega)]
   have hl:=letter_sig (u:=0) (D:=⟨⟨t⟩,0,0,0⟩) (q:=⟨O4 [] t⟩) hk (by omega) (by simp) (by simp)
   have hm:=letter_ok (u:=0) (D:=⟨⟨t⟩,0,0,0⟩) (key:=key) (q:=⟨O4 [] t⟩) (by omega) (by simp) (by simp)
   show Di (drp (pushS (s1 key t) 0 ⟨⟨t⟩,0,0,0⟩ key ⟨O4 [] t⟩) 0) (Xu 0 ⟨⟨t⟩,0,0,0⟩ key ⟨O4 [] t⟩)=_;have hA:(Ga (Xu 0 ⟨⟨t⟩,0,0,0⟩ key ⟨O4 [] t⟩).patch.Changes [])=(t,⟨0,0⟩):=apN ht;rw [accept_g (D:=⟨⟨t⟩,0,1,0⟩) (key:=key) (V:=[]) (N:=[]) (T:=t) (v:=[]) rfl rfl hk hm hl.2 rfl rfl (by simp) (by show 0≤1000;omega) Wy Wy hA,Ae (fun h=>h hl.1.symm),Ae (by show ¬ (0+1:Int)≤0;omega),accG_empty ht]
   rfl
  rw [Vy step3];rfl
theorem first_run {key:Int} {p:TreePatch} (hk:Oc key) (hp:(pcF p.Changes).Code=0) :
  Mu [key] (evs1 key p)=some (⟨(Ga p.Changes []).1⟩,(if (Ga p.Changes []).1=[] then [] else [⟨0,1,⟨O4 [] (Ga p.Changes []).1⟩⟩]),(if (Ga p.Changes []).1=[] then [(Ga p.Changes []).2.Code,11,6] else [(Ga p.Changes []).2.Code,0,0]),⟨0,0⟩):=by
 have hr:=first_runs hk p;have hv:=(fv1 key p).2 ⟨hk,hp⟩;have ht:=ap_tr p.Changes;by_cases h:(Ga p.Changes []).1=[]
 ·rw [Af h] at hr;rw [Af h,Af h,Run_f hv hr (v:=[]) (t:=(Ga p.Changes []).1) (by show [(⟨[]⟩:FileTree)]=_;rw [h];rfl) (by simp) ht]
  rfl
 ·rw [Ae h] at hr;rw [Ae h,Ae h,Run_f hv hr (v:=[⟨[]⟩]) (t:=(Ga p.Changes []).1) rfl (by simp) ht]
  rfl
theorem ints_refl (l:List Int) (h:l.length≤1000):Ef l l=some true:=by
 rw [ints_eq l l (by omega),Aw rfl]
theorem entry_refl {u n:Int} {c:A0} (h:∀ x∈c,OkCh x) (hl:c.length≤1000):Cc [⟨u,n,⟨c⟩⟩] [⟨u,n,⟨c⟩⟩]=some true:=by
 unfold Cc;rw [Ae (by simp)]
 have e1:Cc.l1 [⟨u,n,⟨c⟩⟩] [⟨u,n,⟨c⟩⟩] 0=some (.next 1):=by
  unfold Cc.l1;rw [A2,Af (by simp)]
  rw [show at? ([⟨u,n,⟨c⟩⟩]:Df) 0=some ⟨u,n,⟨c⟩⟩ from rfl,Aa,Aa];simp only [Dd,C6,Bc,Cg,Aa,tp_refl h hl];rw [C9 (by omega) (by omega)];rfl
 have e2:Cc.l1 [⟨u,n,⟨c⟩⟩] [⟨u,n,⟨c⟩⟩] 1=some (.done (.inr ())):=by
  unfold Cc.l1;rw [A2,Ae (by simp)]
 rw [C7 e1,C4 e2,Aa];rfl
theorem x_okt:Lr [(⟨#[120]⟩:ByteArray)]:=(Ko _).2 ((Gq _).2 (by decide +kernel))
theorem a_tr:TrOk [⟨⟨#[97]⟩,[⟨#[120]⟩]⟩]:=one_ok (by decide +kernel) x_okt
theorem Ns:Cx=some true:=by
 have hd:O4 [] [⟨⟨#[97]⟩,[⟨#[120]⟩]⟩]=[⟨1,⟨#[97]⟩,ByteArray.empty,[⟨#[120]⟩],⟨[]⟩⟩]:=by simp [O4,adOf,K1]
 have hA:=apN a_tr;have hO:=(dif_ok Wy a_tr).1;rw [hd] at hA hO;have hp:(pcF [⟨1,⟨#[97]⟩,ByteArray.empty,[⟨#[120]⟩],⟨[]⟩⟩]).Code=0:=(Wh _).2 ⟨by simp,hO⟩
 have hr:=first_run (key:=5) (p:=⟨[⟨1,⟨#[97]⟩,ByteArray.empty,[⟨#[120]⟩],⟨[]⟩⟩]⟩) ⟨by omega,by omega⟩ hp
 simp only at hr;rw [hA] at hr;simp only [List.cons_ne_nil,Cg,hd,reduceCtorEq] at hr;unfold Cx Np;rw [Aa];have hr2:=hr;unfold evs1 evE evP evL at hr2;rw [hr2,Aa];simp only [Dd,G0];unfold O7;rw [Aa,tree_ok a_tr,Aa,Af rfl,entry_refl hO (by simp),Aa,Af rfl,ints_refl _ (by simp),Aa]
 rfl
end Go.Dc
