import Derived.Test.YtmaepcbnjkanhaaGreatDoorDcF2
set_option linter.unusedSimpArgs false
set_option linter.unusedVariables false
set_option maxRecDepth 4000
namespace Go.Dc
open Go
abbrev Dis (r:List File):Prop:=r.Pairwise fun f g=>f.Path≠g.Path
def rmOf (b:List File) (f:File):Option TreeChange:=if Gp b f.Path=true then Option.none else some ⟨2,f.Path,ByteArray.empty,f.Lines,⟨[]⟩⟩
def adOf (a:List File) (f:File):Option TreeChange:=if Gp a f.Path=true then Option.none else some ⟨1,f.Path,ByteArray.empty,f.Lines,⟨[]⟩⟩
theorem text0 {l:List ByteArray} (h:Kl l):(Cr l).Code=0:=(D9 _).1 ((Gv _).1 h)
theorem diff1_iter {a b:List File} (ha:TrOk a) (hb:TrOk b):∀ (r:List File) (k:Nat) (e:List TreeChange),b.drop k=r→e.length≤k →
    Dw (fun s=>Bf.l1 ⟨a⟩ ⟨b⟩ s.1 s.2) ((k:Int),e)=some (e++r.filterMap (adOf a)):=by
  intro r
  induction r with
  | nil =>
    intro k e hk _;have:=Hz hk;refine B2 ?_;show Bf.l1 ⟨a⟩ ⟨b⟩ _ _=_;unfold Bf.l1;simp only;rw [decide_eq_false (by omega),if_neg Bool.false_ne_true]
    simp
  | cons f r ih =>
    intro k e hk he;obtain ⟨hlt,hx,hr⟩:=K6 hk;have hfm:f∈b:=hx ▸ List.getElem_mem hlt;have hft:=hb.text_len hfm;have hal:=ha.len;have hbl:=hb.len
    have j3:∀ (u:List TreeChange),Bf.j3 (k:Int) u=some (Step.next (((k+1:Nat):Int),u)):=by
      intro u;unfold Bf.j3;rw [Cs (by omega) (by omega),Option.bind_some];rfl
    have hs:Bf.l1 ⟨a⟩ ⟨b⟩ (k:Int) e=some (Step.next (((k+1:Nat):Int),e++(adOf a f).toList)):=by
      unfold Bf.l1 adOf;simp only;rw [decide_eq_true (by omega),if_pos rfl,Dg hlt,Option.bind_some,hx,Find_f ha.srt (by omega),Option.bind_some]
      simp only;cases hh:Gp a f.Path with
      | false =>
        rw [if_pos (by rfl),clone_f _ (by omega),Option.bind_some,K3 (by simp;omega),Option.bind_some,j3]
        simp
      | true =>
        rw [if_neg (show ¬ ((!true)=true) by decide),j3]
        simp
    rw [Cp (s':=(((k+1:Nat):Int),e++(adOf a f).toList)) hs];have l1:(adOf a f).toList.length≤1:=by cases adOf a f <;> simp
    rw [ih (k+1) _ hr (by rw [List.length_append];omega),List.append_assoc]
    cases h1:adOf a f <;> simp [List.filterMap_cons,h1]
theorem concat3 {x y z:List TreeChange} (hx:x.length≤100) (hy:y.length≤100) (hz:z.length≤100):Bl [x,y,z]=some (x++y++z):=by
  unfold Bl
  have s0:∀ (k:Nat) (v:List TreeChange) (n:Nat),[x,y,z][k]? = some v→v.length≤100→n≤1000→Bl.l2 [x,y,z] (k:Int) (n:Int)=some (Step.next (((k+1:Nat):Int),((n+v.length:Nat):Int))):=by
    intro k v n hv hl hn;have hk:k < 3:=by have:=List.getElem?_eq_some_iff.1 hv;obtain ⟨h,_⟩:=this;simpa using h
    unfold Bl.l2 Bl.j3;have:at? [x,y,z] (k:Int)=some v:=by unfold at?;rw [if_pos (by omega),Int.toNat_natCast,hv]
    rw [if_pos (by simp;omega),this,Option.bind_some,Cs (by omega) (by omega),Option.bind_some,if_neg (by simp;omega),Cs (by omega) (by omega),Option.bind_some];rfl
  have t0:∀ (k:Nat) (v w:List TreeChange),[x,y,z][k]? = some v→v.length≤100→w.length≤1000→Bl.l1 [x,y,z] (k:Int) w=some (Step.next (((k+1:Nat):Int),w++v)):=by
    intro k v w hv hl hn;have hk:k < 3:=by have:=List.getElem?_eq_some_iff.1 hv;obtain ⟨h,_⟩:=this;simpa using h
    unfold Bl.l1;have:at? [x,y,z] (k:Int)=some v:=by unfold at?;rw [if_pos (by omega),Int.toNat_natCast,hv]
    rw [if_pos (by simp;omega),this,Option.bind_some,K3 (by omega),Option.bind_some,Cs (by omega) (by omega),Option.bind_some];rfl
  have e1:Dw (fun s=>Bl.l2 [x,y,z] s.1 s.2) ((0:Int),(0:Int))=some ((0+x.length+y.length+z.length:Nat):Int):=by
    rw [Cp (s':=(((0+1:Nat):Int),((0+x.length:Nat):Int))) (s0 0 x 0 rfl hx (by omega))]
    rw [Cp (s':=(((1+1:Nat):Int),((0+x.length+y.length:Nat):Int))) (s0 1 y _ rfl hy (by omega))]
    rw [Cp (s':=(((2+1:Nat):Int),((0+x.length+y.length+z.length:Nat):Int))) (s0 2 z _ rfl hz (by omega))]
    refine B2 ?_;show Bl.l2 [x,y,z] _ _=_;unfold Bl.l2;rw [if_neg (by simp)]
  rw [e1,Option.bind_some];unfold Bl.j1 Bl.j2
  have e2:grow0 TreeChange 88 ((0+x.length+y.length+z.length:Nat):Int)=some []:=by
    unfold grow0;rw [if_pos ⟨by omega,by omega⟩]
  rw [e2,Option.bind_some]
  have e3:Dw (fun s=>Bl.l1 [x,y,z] s.1 s.2) ((0:Int),([]:List TreeChange))=some (x++y++z):=by
    rw [Cp (s':=(((0+1:Nat):Int),[]++x)) (t0 0 x [] rfl hx (by simp))]
    rw [Cp (s':=(((1+1:Nat):Int),[]++x++y)) (t0 1 y _ rfl hy (by simp;omega))]
    rw [Cp (s':=(((2+1:Nat):Int),[]++x++y++z)) (t0 2 z _ rfl hz (by simp;omega))]
    refine B2 ?_;show Bl.l1 [x,y,z] _ _=_;unfold Bl.l1;rw [if_neg (by simp)];simp
  rw [e3,Option.bind_some]
theorem ch_ok {k:Int} {f:File} (hk:k=1∨k=2) (h1:Ec f.Path=true) (h2:Kl f.Lines):OkCh ⟨k,f.Path,ByteArray.empty,f.Lines,⟨[]⟩⟩ :=
  ⟨by simp only;omega,h1,fun h=>by simp only at h;omega,fun _=>rfl,fun h=>by simp only at h;omega,fun h=>by simp only at h;omega,fun _=>rfl,text0 h2,(by decide +kernel:(Eq ⟨[]⟩).Code=0)⟩
theorem has_mem {l:List File} {f:File} (h:f∈l):Gp l f.Path=true:=by
  unfold Gp;rw [List.any_eq_true];exact ⟨f,h,decide_eq_true rfl⟩
theorem has_ex {l:List File} {p:ByteArray} (h:Gp l p=true):∃ f∈l,f.Path=p:=by
  unfold Gp at h;rw [List.any_eq_true] at h;obtain ⟨f,hf,e⟩:=h;exact ⟨f,hf,of_decide_eq_true e⟩
theorem rel_ne {b:List File} (hb:TrOk b) {f g:File} (hf:f∈b) (hg:g∈b) (hne:f≠g):Lh f.Path g.Path=false:=by
  obtain ⟨i,hi,rfl⟩:=List.getElem_of_mem hf;obtain ⟨j,hj,rfl⟩:=List.getElem_of_mem hg;rcases Nat.lt_trichotomy i j with h | h | h
  · exact List.pairwise_iff_getElem.1 hb.rel i j hi hj h
  · subst h;exact absurd rfl hne
  · rw [relB_comm];exact List.pairwise_iff_getElem.1 hb.rel j i hj hi h
theorem sub_len:∀ {l b:List File},G0 l→G0 b→(∀ f∈l,f∈b)→l.length≤b.length
  | [],b,_,_,_=>by simp
  | f::l,[],_,_,h=>absurd (h f List.mem_cons_self) (by simp)
  | f::l,g::b,hl,hb,h=>by
    have hl':=List.pairwise_cons.1 hl;have hb':=List.pairwise_cons.1 hb
    have sub:∀ x∈l,x∈b:=by
      intro x hx;rcases List.mem_cons.1 (h x (List.mem_cons_of_mem _ hx)) with e | e
      · subst e;have h1:=hl'.1 x hx;rcases List.mem_cons.1 (h f List.mem_cons_self) with e2 | e2
        · subst e2;rw [Ma] at h1;cases h1
        · have:=hb'.1 f e2;rw [Lo this] at h1;cases h1
      · exact e
    have:=sub_len hl'.2 hb'.2 sub;simp only [List.length_cons];omega
theorem ad_run {a b:List File} (hb:TrOk b):∀ (r:List File) (k:Nat) (l:List File),TrOk l→Dis r→(∀ f∈r,f∈b)→(∀ g∈l,g∈b)→(∀ f∈r,Gp a f.Path=false→∀ g∈l,g.Path≠f.Path) →
    ∃ l',Qb k (r.filterMap (adOf a)) l=(l',⟨0,0⟩)∧TrOk l'∧∀ g,g∈l'↔g∈l∨(g∈r∧Gp a g.Path=false)
  | [],k,l,h,_,_,_,_=>⟨l,rfl,h,fun g=>by simp⟩
  | f::r,k,l,h,hd,hm,hs,hn=>by
    have hd':=List.pairwise_cons.1 hd;rw [List.filterMap_cons];unfold adOf;cases hh:Gp a f.Path with
    | true =>
      simp only [if_true];obtain ⟨l',e1,e2,e3⟩:=ad_run (a:=a) hb r k l h hd'.2 (fun g hg=>hm g (List.mem_cons_of_mem _ hg)) hs (fun g hg=>hn g (List.mem_cons_of_mem _ hg));refine ⟨l',e1,e2,fun g=>?_⟩;rw [e3 g];constructor
      · rintro (q | ⟨q1,q2⟩)
        · exact .inl q
        · exact .inr ⟨List.mem_cons_of_mem _ q1,q2⟩
      · rintro (q | ⟨q1,q2⟩)
        · exact .inl q
        · rcases List.mem_cons.1 q1 with rfl | q1
          · rw [hh] at q2;cases q2
          · exact .inr ⟨q1,q2⟩
    | false =>
      simp only [Bool.false_eq_true,if_false];have hf:=hm f List.mem_cons_self;have hc:OkCh ⟨1,f.Path,ByteArray.empty,f.Lines,⟨[]⟩⟩:=ch_ok (.inl rfl) (hb.path f hf) (hb.text f hf);have hnf:=hn f List.mem_cons_self hh;have hrel:∀ g∈l,Lh g.Path f.Path=false:=fun g hg=>rel_ne hb (hs g hg) hf fun e=>hnf g hg (by rw [e])
      have hra:=rel_all.2 hrel
      have hlen:l.length < 24:=by
        have h1:=sub_len (ins_srt h.srt (rel_has hra)) hb.srt fun g hg=>by
          rcases Oy.1 hg with e | e
          · subst e;exact hf
          · exact hs g e
        rw [ins_len] at h1;have:=hb.len;omega
      have hcan:Can ⟨1,f.Path,ByteArray.empty,f.Lines,⟨[]⟩⟩ l (some f):=.inl ⟨rfl,hrel,rfl⟩;rcases can_make h hc hcan with ⟨_,m0⟩ | ⟨m1,m2⟩
      · exfalso;unfold Kv at m0;rw [if_pos rfl] at m0;simp only at m0;rw [hra,if_neg Bool.false_ne_true,if_neg (by omega)] at m0
        cases m0
      have h1:=makeF_ok h hc m1
      obtain ⟨l',e1,e2,e3⟩:=ad_run (a:=a) hb r (k+1) _ h1 hd'.2 (fun g hg=>hm g (List.mem_cons_of_mem _ hg)) (fun g hg=>by
        rcases (m2 g).1 hg with q | q
        · exact hs g q.1
        · cases q;exact hf) (fun x hx hxa g hg=>by
        rcases (m2 g).1 hg with q | q
        · exact hn x (List.mem_cons_of_mem _ hx) hxa g q.1
        · cases q;exact hd'.1 x hx)
      refine ⟨l',by rw [Qb,if_neg (by rw [m1];simp)];exact e1,e2,fun g=>?_⟩
      rw [e3 g,m2 g];simp only [Option.some.injEq];constructor
      · rintro ((⟨q1,_⟩ | q1) | ⟨q1,q2⟩)
        · exact .inl q1
        · subst q1;exact .inr ⟨List.mem_cons_self,hh⟩
        · exact .inr ⟨List.mem_cons_of_mem _ q1,q2⟩
      · rintro (q | ⟨q1,q2⟩)
        · exact .inl (.inl ⟨q,hnf g q⟩)
        · rcases List.mem_cons.1 q1 with rfl | q1
          · exact .inl (.inr rfl)
          · exact .inr ⟨q1,q2⟩
theorem dis_of {l:List File} (h:G0 l):Dis l:=h.imp fun h=>sLt_ne h
theorem pw_ext {α:Type} {R:α→α→Prop} (asym:∀ x y,R x y→¬ R y x):∀ {a b:List α},a.Pairwise R→b.Pairwise R→(∀ f,f∈a↔f∈b)→a=b
  | [],[],_,_,_=>rfl
  | [],y::b,_,_,h=>absurd ((h y).2 (by simp)) (by simp)
  | x::a,[],_,_,h=>absurd ((h x).1 (by simp)) (by simp)
  | x::a,y::b,ha,hb,h=>by
    rw [List.pairwise_cons] at ha hb;have irr:∀ z,¬ R z z:=fun z hz=>asym z z hz hz
    have e:x=y:=by
      rcases List.mem_cons.1 ((h x).1 (by simp)) with e | h1
      · exact e
      · rcases List.mem_cons.1 ((h y).2 (by simp)) with e | h2
        · exact e.symm
        · exact absurd (hb.1 x h1) (asym _ _ (ha.1 y h2))
    subst e;congr 1;refine pw_ext asym ha.2 hb.2 fun f=>⟨fun hf=>?_,fun hf=>?_⟩
    · rcases List.mem_cons.1 ((h f).1 (List.mem_cons_of_mem _ hf)) with e | h1
      · subst e;exact absurd (ha.1 f hf) (irr f)
      · exact h1
    · rcases List.mem_cons.1 ((h f).2 (List.mem_cons_of_mem _ hf)) with e | h1
      · subst e;exact absurd (hb.1 f hf) (irr f)
      · exact h1
theorem tp_refl {l:List TreeChange} (h:∀ c∈l,OkCh c) (hl:l.length≤1000):Bv ⟨l⟩ ⟨l⟩=some true:=by
  unfold Bv;simp only;rw [if_neg (by simp),scan0 l (fun _ _=>(Option.none:Option Bool)) ?_ ?_,Option.bind_some]
  · have:Gf (fun _ _=>(Option.none:Option Bool)) 0 l=Option.none:=by rw [Md];intro j hj;rfl
    rw [this];rfl
  · intro k hk _;unfold Bv.l1;simp only;rw [decide_eq_true (by omega),if_pos rfl,Dg hk,Option.bind_some,Option.bind_some,refl_ok (h _ (List.getElem_mem hk)),Option.bind_some,if_neg (by decide),Cs (by omega) (by omega),Option.bind_some];rfl
  · unfold Bv.l1;rw [decide_eq_false (by simp),if_neg Bool.false_ne_true]
theorem ints_eq (a b:List Int) (hb:a.length≤1000000):B8 a b=some (decide (a=b)):=by
  unfold B8;rw [Kj];by_cases hl:(a.length:Int)=(b.length:Int)
  · rw [if_pos hl];have hl':a.length=b.length:=by omega
    obtain ⟨r,h1,h2⟩:=M6 (m:=fun s=>B8.l1 a b s) (fun s=>∃ k:Nat,s=(k:Int)∧k≤a.length∧a.take k=b.take k) (fun s=>a.length - s.toNat)
      (fun r=>(r=.inr ()∧a=b)∨(r=.inl false∧a≠b)) (by
        rintro s ⟨k,rfl,hk,hall⟩;unfold B8.l1;rw [Ba];by_cases hlt:k < a.length
        · rw [if_pos (by omega),Dg hlt,Option.bind_some,Dg (by omega),Option.bind_some,Kj]
          by_cases he:a[k]=b[k]
          · rw [if_pos he,Cs (by omega) (by omega),Option.bind_some]
            exact .inl ⟨_,rfl,⟨k+1,by omega,hlt,by rw [List.take_succ_eq_append_getElem hlt,List.take_succ_eq_append_getElem (by omega),hall,he]⟩,by omega⟩
          · rw [if_neg he];exact .inr ⟨_,rfl,.inr ⟨rfl,fun h=>he (by subst h;rfl)⟩⟩
        · rw [if_neg (by omega)]
          refine .inr ⟨_,rfl,.inl ⟨rfl,?_⟩⟩;rw [List.take_of_length_le (by omega),List.take_of_length_le (by omega)] at hall
          exact hall) 0 ⟨0,rfl,Nat.zero_le _,by simp⟩
    rw [h1,Option.bind_some];rcases h2 with ⟨rfl,h⟩ | ⟨rfl,h⟩
    · rw [decide_eq_true h];rfl
    · rw [decide_eq_false h]
  · rw [if_neg hl,decide_eq_false (fun h=>hl (by rw [h]))]
theorem Nr {x m:Int} (h0:0≤x) (hm:0 < m):rem? x m=some (x % m):=by
  unfold rem?;rw [if_neg (by omega),Int.tmod_eq_emod_of_nonneg h0]
theorem shr1 {b:Int}:shr? .i64 b 1=some (b / 2):=by
  unfold shr?;rw [if_neg (by decide)]
  have:(2:Int) ^ (min (1:Int).toNat IntKind.i64.bits)=2:=by decide
  rw [this,Int.fdiv_eq_ediv_of_nonneg _ (by decide)]
def Dig (x:Int):Prop:=0≤x∧x < 2305843009213693951
theorem dig_mod {x:Int}:Dig (x % 2305843009213693951):=⟨Int.emod_nonneg _ (by decide),Int.emod_lt_of_pos _ (by decide)⟩
theorem mul_ok {a b:Int} (ha:Dig a) (hb:0≤b):∃ r,C4 a b=some r∧Dig r:=by
  unfold C4
  obtain ⟨r,h1,h2⟩:=M6 (m:=fun s:Int×Int×Int=>C4.l1 s.1 s.2.1 s.2.2) (fun s=>Dig s.1∧Dig s.2.1∧0≤s.2.2) (fun s=>s.2.2.toNat) Dig (by
    rintro ⟨o,x,y⟩ ⟨h1,h2,h3⟩;simp only at h1 h2 h3 ⊢;obtain ⟨p1,p2⟩:=h1;obtain ⟨q1,q2⟩:=h2;unfold C4.l1;simp only [Ba];by_cases hy:y > 0
    · left;rw [if_pos hy]
      have j2:∀ o',Dig o'→∃ s',C4.j2 x y o'=some (.next s')∧(Dig s'.1∧Dig s'.2.1∧0≤s'.2.2)∧s'.2.2.toNat < y.toNat:=by
        intro o' ho;unfold C4.j2;rw [Cs (by omega) (by omega),Option.bind_some,Nr (by omega) (by decide),Option.bind_some,shr1,Option.bind_some]
        exact ⟨_,rfl,⟨ho,dig_mod,by simp only;omega⟩,by simp only;omega⟩
      by_cases hc:andI .i64 y 1=1
      · rw [if_pos hc,Cs (by omega) (by omega),Option.bind_some,Nr (by omega) (by decide),Option.bind_some]
        exact j2 _ dig_mod
      · rw [if_neg hc];exact j2 _ ⟨p1,p2⟩
    · right;rw [if_neg hy];exact ⟨_,rfl,p1,p2⟩) (0,a,b) ⟨⟨Int.le_refl 0,(by decide:(0:Int) < 2305843009213693951)⟩,ha,hb⟩
  rw [h1,Option.bind_some];exact ⟨r,rfl,h2⟩
theorem dnext_ok {s:Step_digest} {f:Int} (h0:Dig s.e0) (h1:Dig s.e1) (hf:0≤f):∃ r,Hu s f=some r∧Dig r:=by
  obtain ⟨r,h2,h3,h4⟩:=mul_ok h0 hf;unfold Hu;obtain ⟨p1,p2⟩:=h1;rw [h2,Option.bind_some,Cs (by omega) (by omega),Option.bind_some,Nr (by omega) (by decide),Option.bind_some]
  exact ⟨_,rfl,dig_mod⟩
theorem of_ok {l:List UInt8} (hl:l.length≤4096):∃ r,Dx l=some (r,⟨0,0⟩)∧Dig r:=by
  unfold Dx;rw [Ba,if_neg (by omega)]
  obtain ⟨r,h1,h2⟩:=M6 (m:=fun s:Int×Int=>Dx.l1 l s.1 s.2) (fun s=>∃ k:Nat,s.1=(k:Int)∧k≤l.length∧Dig s.2) (fun s=>l.length - s.1.toNat) Dig (by
    rintro ⟨x,h⟩ ⟨k,hx,hk,hd⟩;simp only at hx hd ⊢;subst hx;unfold Dx.l1;rw [Ba];by_cases hlt:k < l.length
    · left;have hb:(l[k]).toNat < 256:=(l[k]).toNat_lt;rw [if_pos (by omega),Dg hlt,Option.bind_some,Cs (by omega) (by omega),Option.bind_some,Cs (by omega) (by omega),Option.bind_some]
      obtain ⟨r,e1,e2⟩:=dnext_ok (s:={ e0:=h,e1:=((l[k]).toNat:Int)+1 }) (f:=257) hd ⟨by simp only;omega,by simp only;omega⟩ (by decide)
      rw [e1,Option.bind_some,Cs (by omega) (by omega),Option.bind_some]
      exact ⟨_,rfl,⟨k+1,by simp,hlt,e2⟩,by simp only;omega⟩
    · right;rw [if_neg (by omega)]
      exact ⟨_,rfl,hd⟩) (0,1) ⟨0,rfl,Nat.zero_le _,by decide,by decide⟩
  rw [h1,Option.bind_some];exact ⟨r,rfl,h2⟩
theorem pair_ok {a b:Int} (ha:Dig a) (hb:Dig b):∃ r,Hb a b=some r∧Dig r:=by
  unfold Hb;obtain ⟨r,h1,h2⟩:=dnext_ok (s:={ e0:=b,e1:=7 }) (f:=31) hb ⟨(by decide:(0:Int)≤7),(by decide:(7:Int) < 2305843009213693951)⟩ (by decide)
  rw [h1,Option.bind_some];obtain ⟨r',h3,h4⟩:=dnext_ok (s:={ e0:=a,e1:=r }) (f:=1000003) ha h2 (by decide)
  rw [h3];exact ⟨r',rfl,h4⟩
theorem is_eq {a:Int} (h:Dig a):Qf a=some true:=by
  obtain ⟨h1,h2⟩:=h;unfold Qf;rw [Ba,if_pos h1,Option.bind_some,decide_eq_true h2]
theorem Pair_ok {a b:Int} (ha:Dig a) (hb:Dig b):∃ r,C3 a b=some (r,⟨0,0⟩)∧Dig r:=by
  unfold C3
  have:Dw (fun s=>C3.l1 a b s) 0=some (.inr ()):=by
    refine iter_eq_of (fun s=>s=0∨s=1∨s=2) (fun s=>2 - s.toNat) _ ?_ _ (.inl rfl);rintro s (rfl | rfl | rfl)
    · left;unfold C3.l1;rw [Ba,if_pos (by decide),show at? [a,b] 0=some a from rfl,Option.bind_some,is_eq ha,Option.bind_some,if_neg (by decide),Cs (by decide) (by decide),Option.bind_some]
      exact ⟨_,rfl,.inr (.inl rfl),by decide⟩
    · left;unfold C3.l1;rw [Ba,if_pos (by decide),show at? [a,b] 1=some b from rfl,Option.bind_some,is_eq hb,Option.bind_some,if_neg (by decide),Cs (by decide) (by decide),Option.bind_some]
      exact ⟨_,rfl,.inr (.inr rfl),by decide⟩
    · right;unfold C3.l1;rw [Ba,if_neg (by decide)]
  rw [this,Option.bind_some];simp only;unfold C3.j1;obtain ⟨r,h1,h2⟩:=pair_ok ha hb;rw [h1,Option.bind_some];exact ⟨r,rfl,h2⟩
theorem and1 {y:Int} (h0:0≤y) (h1:y≤9223372036854775807):andI .i64 y 1=y % 2:=by
  obtain ⟨n,rfl⟩:=Int.eq_ofNat_of_zero_le h0;unfold andI;rw [BitVec.toNat_and]
  have e1:(BitVec.ofInt IntKind.i64.bits (n:Int)).toNat=n:=by
    rw [BitVec.toNat_ofInt];show ((n:Int) % ((2 ^ 64:Nat):Int)).toNat=n;omega
  have e2:(BitVec.ofInt IntKind.i64.bits 1).toNat=1:=by decide
  rw [e1,e2,Nat.and_one_is_mod,i64_wrap (by omega) (by omega)]
  omega
theorem quo2 {x:Int} (h0:0≤x) (h1:x≤9223372036854775807):quo? .i64 x 2=some (x / 2):=by
  unfold quo?;rw [if_neg (by decide),Int.tdiv_eq_ediv_of_nonneg h0,Cs (by omega) (by omega)]
theorem times_iter:∀ (n:Nat) (o x y:Int),y.toNat=n→Dig o→Dig x→0≤y→y≤9223372036854775807 →
    Dw (fun s:Int×Int×Int=>Bq.l1 s.1 s.2.1 s.2.2) (o,x,y)=Dw (fun s:Int×Int×Int=>C4.l1 s.1 s.2.1 s.2.2) (o,x,y):=by
  intro n
  induction n using Nat.strongRecOn with
  | _ n ih =>
    intro o x y hn ho hx h0 h1;obtain ⟨p1,p2⟩:=ho;obtain ⟨q1,q2⟩:=hx;by_cases hy:y > 0
    · have s1:∃ o',Dig o'∧Bq.l1 o x y=some (.next (o',(x+x) % 2305843009213693951,y / 2))∧C4.l1 o x y=some (.next (o',(x+x) % 2305843009213693951,y / 2)):=by
        have j1:∀ o',Bq.j2 x y o'=some (.next (o',(x+x) % 2305843009213693951,y / 2)):=by
          intro o';unfold Bq.j2;rw [Cs (by omega) (by omega),Option.bind_some,Nr (by omega) (by decide),Option.bind_some,quo2 h0 h1,Option.bind_some]
        have j2:∀ o',C4.j2 x y o'=some (.next (o',(x+x) % 2305843009213693951,y / 2)):=by
          intro o';unfold C4.j2;rw [Cs (by omega) (by omega),Option.bind_some,Nr (by omega) (by decide),Option.bind_some,shr1,Option.bind_some,Int.two_mul]
        by_cases hc:y % 2=1
        · refine ⟨(o+x) % 2305843009213693951,dig_mod,?_,?_⟩
          · unfold Bq.l1;rw [Ba,if_pos hy,Nr h0 (by decide),Option.bind_some,Ba,if_pos hc,Cs (by omega) (by omega),Option.bind_some,Nr (by omega) (by decide),Option.bind_some,j1]
          · unfold C4.l1;rw [Ba,if_pos hy,Ba,and1 h0 h1,if_pos hc,Cs (by omega) (by omega),Option.bind_some,Nr (by omega) (by decide),Option.bind_some,j2]
        · refine ⟨o,⟨p1,p2⟩,?_,?_⟩
          · unfold Bq.l1;rw [Ba,if_pos hy,Nr h0 (by decide),Option.bind_some,Ba,if_neg hc,j1]
          · unfold C4.l1;rw [Ba,if_pos hy,Ba,and1 h0 h1,if_neg hc,j2]
      obtain ⟨o',hd,e1,e2⟩:=s1;rw [Cp (m:=fun s:Int×Int×Int=>Bq.l1 s.1 s.2.1 s.2.2) e1,Cp (m:=fun s:Int×Int×Int=>C4.l1 s.1 s.2.1 s.2.2) e2];exact ih (y / 2).toNat (by omega) _ _ _ rfl hd dig_mod (by omega) (by omega)
    · have e1:Bq.l1 o x y=some (.done o):=by unfold Bq.l1;rw [Ba,if_neg hy]
      have e2:C4.l1 o x y=some (.done o):=by unfold C4.l1;rw [Ba,if_neg hy]
      rw [B2 (m:=fun s:Int×Int×Int=>Bq.l1 s.1 s.2.1 s.2.2) e1,B2 (m:=fun s:Int×Int×Int=>C4.l1 s.1 s.2.1 s.2.2) e2]
theorem times_f {a b:Int} (ha:Dig a) (h0:0≤b) (h1:b≤9223372036854775807):Bq a b=C4 a b:=by
  unfold Bq C4;rw [times_iter b.toNat 0 a b rfl ⟨by decide,by decide⟩ ha h0 h1];rfl
theorem next_ref {h z f:Int} (hh:Dig h) (hz:0≤z∧z≤2305843009213693951) (hf:0≤f):∃ r,C4 h f=some r∧Dig r∧Hu ⟨h,z⟩ f=some ((r+z) % 2305843009213693951):=by
  obtain ⟨r,h2,h3,h4⟩:=mul_ok hh hf;refine ⟨r,h2,⟨h3,h4⟩,?_⟩;unfold Hu;simp only;rw [h2,Option.bind_some,Cs (by omega) (by omega),Option.bind_some,Nr (by omega) (by decide),Option.bind_some]
theorem of_iter (l:List UInt8) (hl:l.length≤4096):∀ (n k:Nat) (h:Int),l.length - k=n→k≤l.length→Dig h →
    Dw (fun s:Int×Int=>B4.l1 l s.1 s.2) ((k:Int),h)=Dw (fun s:Int×Int=>Dx.l1 l s.1 s.2) ((k:Int),h)
  | 0,k,h,hn,hk,hd=>by
    have e1:B4.l1 l (k:Int) h=some (.done h):=by unfold B4.l1;rw [Ba,if_neg (by omega)]
    have e2:Dx.l1 l (k:Int) h=some (.done h):=by unfold Dx.l1;rw [Ba,if_neg (by omega)]
    rw [B2 (m:=fun s:Int×Int=>B4.l1 l s.1 s.2) e1,B2 (m:=fun s:Int×Int=>Dx.l1 l s.1 s.2) e2]
  | n+1,k,h,hn,hk,hd=>by
    have hk:k < l.length:=by omega
    have hb:(l[k].toNat:Int) < 256:=by have:=l[k].toNat_lt;omega
    obtain ⟨r,h1,⟨h2,h3⟩,h4⟩:=next_ref (z:=(l[k].toNat:Int)+1) (f:=257) hd ⟨by omega,by omega⟩ (by decide)
    have e1:B4.l1 l (k:Int) h=some (.next (((k+1:Nat):Int),(r+((l[k].toNat:Int)+1)) % 2305843009213693951)):=by
      unfold B4.l1
      rw [Ba,if_pos (by omega),Dg hk,Option.bind_some,Cs (by omega) (by omega),Option.bind_some,times_f hd (by decide) (by decide),h1,Option.bind_some,Cs (by omega) (by omega),Option.bind_some,Cs (by omega) (by omega),Option.bind_some,
        Nr (by omega) (by decide),Option.bind_some,Cs (by omega) (by omega),Option.bind_some,Int.add_assoc];rfl
    have e2:Dx.l1 l (k:Int) h=some (.next (((k+1:Nat):Int),(r+((l[k].toNat:Int)+1)) % 2305843009213693951)):=by
      unfold Dx.l1;rw [Ba,if_pos (by omega),Dg hk,Option.bind_some,Cs (by omega) (by omega),Option.bind_some,Cs (by omega) (by omega),Option.bind_some,h4,Option.bind_some,Cs (by omega) (by omega),Option.bind_some];rfl
    rw [Cp (m:=fun s:Int×Int=>B4.l1 l s.1 s.2) e1,Cp (m:=fun s:Int×Int=>Dx.l1 l s.1 s.2) e2];exact of_iter l hl n (k+1) _ (by omega) (by omega) dig_mod
theorem DigestOf_f {l:List UInt8} (hl:l.length≤4096) {d:Int} {f:Fault} (h:Dx l=some (d,f)):B4 l=some d:=by
  unfold Dx at h;rw [Ba,if_neg (by omega)] at h
  unfold B4;have:=of_iter l hl _ 0 1 rfl (Nat.zero_le _) ⟨by decide,by decide⟩
  rw [show ((0:Nat):Int)=0 from rfl] at this;rw [this];generalize Dw (fun s:Int×Int=>Dx.l1 l s.1 s.2) (0,1)=x at h;cases x with
  | none=>cases h
  | some v=>rw [Option.bind_some] at h ⊢;unfold Dx.j1 at h;cases h;rfl
theorem Pair_pair {a b:Int} (ha:Dig a) (hb:Dig b):C3 a b=(Hb a b).bind fun y=>some (y,⟨0,0⟩):=by
  unfold C3
  have s0:C3.l1 a b 0=some (.next 1):=by
    unfold C3.l1;rw [Ba,if_pos (by decide),show at? [a,b] 0=some a from rfl,Option.bind_some,is_eq ha,Option.bind_some,if_neg (by decide),Cs (by decide) (by decide),Option.bind_some];rfl
  have s1:C3.l1 a b 1=some (.next 2):=by
    unfold C3.l1;rw [Ba,if_pos (by decide),show at? [a,b] 1=some b from rfl,Option.bind_some,is_eq hb,Option.bind_some,if_neg (by decide),Cs (by decide) (by decide),Option.bind_some];rfl
  have s2:C3.l1 a b 2=some (.done (.inr ())):=by
    unfold C3.l1;rw [Ba,if_neg (by decide)]
  rw [Cp s0,Cp s1,B2 s2,Option.bind_some];rfl
theorem DigestPair_f {a b r:Int} {f:Fault} (ha:Dig a) (hb:Dig b) (h:C3 a b=some (r,f)):Cm a b=some r:=by
  rw [Pair_pair ha hb] at h;obtain ⟨r1,a1,⟨a2,a3⟩,a4⟩:=next_ref (z:=7) (f:=31) hb ⟨by decide,by decide⟩ (by decide)
  obtain ⟨r2,b1,⟨b2,b3⟩,b4⟩:=next_ref (z:=(r1+7) % 2305843009213693951) (f:=1000003) ha ⟨by omega,by omega⟩ (by decide)
  have e:Hb a b=some ((r2+(r1+7) % 2305843009213693951) % 2305843009213693951):=by
    unfold Hb;rw [a4,Option.bind_some,b4,Option.bind_some]
  rw [e,Option.bind_some] at h;cases h;unfold Cm;rw [times_f ha (by decide) (by decide),b1,Option.bind_some,times_f hb (by decide) (by decide),a1,Option.bind_some,Cs (by omega) (by omega),Option.bind_some,Cs (by omega) (by omega),Option.bind_some,Nr (by omega) (by decide),Option.bind_some]
  congr 1;omega
def Ku (a b:List File):List TreeChange:=b.filterMap (adOf a)
def difT (a b:List File):TreePatch×Fault :=
  if (Ef a).Code≠0 then (⟨[]⟩,Ef a) else if (Ef b).Code≠0 then (⟨[]⟩,⟨(Ef b).Code,-2⟩) else if (Ku a b).length > 30 then (⟨[]⟩,⟨10,-1⟩) else (⟨Ku a b⟩,⟨0,0⟩)
theorem tdifT_f {a:List File} (hn:a=[]) (b:List File):Bf ⟨a⟩ ⟨b⟩=some (difT a b):=by
  subst hn;unfold Bf difT;rw [Validate_f,Option.bind_some];simp only;have h:Ef []=⟨0,0⟩:=rfl;have ha:=(Gl []).1 (by rw [h])
  rw [if_neg (by rw [h];decide),tsecond_f,Option.bind_some,if_neg (show ¬ (Ef []).Code≠0 by rw [h];decide)]
  simp only;by_cases hb0:(Ef b).Code=0
  · have hb:=(Gl b).1 hb0;have hbl:=hb.len
    have e2:Bf.l2 ⟨[]⟩ ⟨b⟩ 0 [] []=some (.done ([],[])):=by
      unfold Bf.l2;rw [Ba,if_neg (by simp)]
    have i2:=B2 (m:=fun s:Int×List TreeChange×List TreeChange=>Bf.l2 ⟨[]⟩ ⟨b⟩ s.1 s.2.1 s.2.2) (s:=(0,[],[])) e2;have i1:=diff1_iter ha hb b 0 [] rfl (Nat.le_refl _);rw [show ((0:Nat):Int)=0 from rfl] at i1;have f3:=List.length_filterMap_le (adOf []) b;rw [if_pos hb0,if_neg (by decide),i2,Option.bind_some,if_neg (fun hn=>hn hb0)]
    unfold Bf.j1 Bf.j2 Ku;rw [i1,Option.bind_some];simp only [List.nil_append];rw [concat3 (by simp) (by simp) (by omega),Option.bind_some]
    simp only [List.nil_append];by_cases h30:((b.filterMap (adOf [])).length:Int) > 30
    · rw [decide_eq_true h30,if_pos rfl,if_pos (by omega)]
    · rw [decide_eq_false h30,if_neg Bool.false_ne_true,if_neg (by omega)]
  · rw [if_neg hb0,if_pos (by simp [hb0]),if_pos hb0]
theorem dif_ok {a b:List File} (ha:a=[]) (hb:TrOk b):(∀ c∈Ku a b,OkCh c)∧Qb 0 (Ku a b) a=(b,⟨0,0⟩):=by
  subst ha;have hnil:=(Gl []).1 (by decide)
  constructor
  · intro c hc;unfold Ku at hc;rw [List.mem_filterMap] at hc;obtain ⟨f,hf,e⟩:=hc;unfold adOf at e;split at e
    · cases e
    · cases e;exact ch_ok (.inl rfl) (hb.path f hf) (hb.text f hf)
  · obtain ⟨l3,r3,o3,m3⟩:=ad_run (a:=[]) hb b 0 [] hnil (dis_of hb.srt) (fun f hf=>hf) (fun g hg=>by cases hg) (fun f hf hfa g hg e=>by cases hg)
    unfold Ku;rw [r3];congr 1;refine res_eq o3.srt hb.srt fun g=>?_;rw [m3 g];exact ⟨fun h=>by rcases h with h | h;exact absurd h (by simp);exact h.1,fun h=>.inr ⟨h,rfl⟩⟩
end Go.Dc
