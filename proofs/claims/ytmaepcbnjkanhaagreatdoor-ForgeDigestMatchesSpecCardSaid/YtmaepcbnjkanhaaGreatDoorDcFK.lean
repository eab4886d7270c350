import Derived.Test.YtmaepcbnjkanhaaGreatDoorDcF2
set_option linter.unusedSimpArgs false
set_option linter.unusedVariables false
set_option maxRecDepth 4000
namespace Go.Dc
open Go
abbrev Dis (r:List File):Prop:=r.Pairwise fun f g=>f.Path≠g.Path
def rmOf (b:List File) (f:File):Option TreeChange:=if Gy b f.Path=true then Option.none else some ⟨2,f.Path,ByteArray.empty,f.Lines,⟨[]⟩⟩
def adOf (a:List File) (f:File):Option TreeChange:=if Gy a f.Path=true then Option.none else some ⟨1,f.Path,ByteArray.empty,f.Lines,⟨[]⟩⟩
theorem text0 {l:List ByteArray} (h:K8 l):(Cy l).Code=0:=(Ec _).1 ((G6 _).1 h)
theorem diff1_iter {a b:List File} (ha:TrOk a) (hb:TrOk b):∀ (r:List File) (k:Nat) (e:List TreeChange),b.drop k=r→e.length≤k →
    D2 (fun s=>Bl.l1 ⟨a⟩ ⟨b⟩ s.1 s.2) ((k:Int),e)=some (e++r.filterMap (adOf a)):=by
  intro r
  induction r with
  | nil =>
    intro k e hk _;have:=Ki hk;refine Cb ?_;show Bl.l1 ⟨a⟩ ⟨b⟩ _ _=_;unfold Bl.l1;simp only;rw [decide_eq_false (by omega),if_neg Bool.false_ne_true]
    simp
  | cons f r ih =>
    intro k e hk he;obtain ⟨hlt,hx,hr⟩:=Lp hk;have hfm:f∈b:=hx ▸ List.getElem_mem hlt;have hft:=hb.text_len hfm;have hal:=ha.len;have hbl:=hb.len
    have j3:∀ (u:List TreeChange),Bl.j3 (k:Int) u=some (Step.next (((k+1:Nat):Int),u)):=by
      intro u;unfold Bl.j3;rw [Cz (by omega) (by omega),Option.bind_some];rfl
    have hs:Bl.l1 ⟨a⟩ ⟨b⟩ (k:Int) e=some (Step.next (((k+1:Nat):Int),e++(adOf a f).toList)):=by
      unfold Bl.l1 adOf;simp only;rw [decide_eq_true (by omega),if_pos rfl,Dr hlt,Option.bind_some,hx,Find_f ha.srt (by omega),Option.bind_some]
      simp only;cases hh:Gy a f.Path with
      | false =>
        rw [if_pos (by rfl),clone_f _ (by omega),Option.bind_some,Lm (by simp;omega),Option.bind_some,j3]
        simp
      | true =>
        rw [if_neg (show ¬ ((!true)=true) by decide),j3]
        simp
    rw [Cx (s':=(((k+1:Nat):Int),e++(adOf a f).toList)) hs];have l1:(adOf a f).toList.length≤1:=by cases adOf a f <;> simp
    rw [ih (k+1) _ hr (by rw [List.length_append];omega),List.append_assoc]
    cases h1:adOf a f <;> simp [List.filterMap_cons,h1]
theorem concat3 {x y z:List TreeChange} (hx:x.length≤100) (hy:y.length≤100) (hz:z.length≤100):Bw [x,y,z]=some (x++y++z):=by
  unfold Bw
  have s0:∀ (k:Nat) (v:List TreeChange) (n:Nat),[x,y,z][k]? = some v→v.length≤100→n≤1000→Bw.l2 [x,y,z] (k:Int) (n:Int)=some (Step.next (((k+1:Nat):Int),((n+v.length:Nat):Int))):=by
    intro k v n hv hl hn;have hk:k < 3:=by have:=List.getElem?_eq_some_iff.1 hv;obtain ⟨h,_⟩:=this;simpa using h
    unfold Bw.l2 Bw.j3;have:at? [x,y,z] (k:Int)=some v:=by unfold at?;rw [if_pos (by omega),Int.toNat_natCast,hv]
    rw [if_pos (by simp;omega),this,Option.bind_some,Cz (by omega) (by omega),Option.bind_some,if_neg (by simp;omega),Cz (by omega) (by omega),Option.bind_some];rfl
  have t0:∀ (k:Nat) (v w:List TreeChange),[x,y,z][k]? = some v→v.length≤100→w.length≤1000→Bw.l1 [x,y,z] (k:Int) w=some (Step.next (((k+1:Nat):Int),w++v)):=by
    intro k v w hv hl hn;have hk:k < 3:=by have:=List.getElem?_eq_some_iff.1 hv;obtain ⟨h,_⟩:=this;simpa using h
    unfold Bw.l1;have:at? [x,y,z] (k:Int)=some v:=by unfold at?;rw [if_pos (by omega),Int.toNat_natCast,hv]
    rw [if_pos (by simp;omega),this,Option.bind_some,Lm (by omega),Option.bind_some,Cz (by omega) (by omega),Option.bind_some];rfl
  have e1:D2 (fun s=>Bw.l2 [x,y,z] s.1 s.2) ((0:Int),(0:Int))=some ((0+x.length+y.length+z.length:Nat):Int):=by
    rw [Cx (s':=(((0+1:Nat):Int),((0+x.length:Nat):Int))) (s0 0 x 0 rfl hx (by omega))]
    rw [Cx (s':=(((1+1:Nat):Int),((0+x.length+y.length:Nat):Int))) (s0 1 y _ rfl hy (by omega))]
    rw [Cx (s':=(((2+1:Nat):Int),((0+x.length+y.length+z.length:Nat):Int))) (s0 2 z _ rfl hz (by omega))]
    refine Cb ?_;show Bw.l2 [x,y,z] _ _=_;unfold Bw.l2;rw [if_neg (by simp)]
  rw [e1,Option.bind_some];unfold Bw.j1 Bw.j2
  have e2:grow0 TreeChange 88 ((0+x.length+y.length+z.length:Nat):Int)=some []:=by
    unfold grow0;rw [if_pos ⟨by omega,by omega⟩]
  rw [e2,Option.bind_some]
  have e3:D2 (fun s=>Bw.l1 [x,y,z] s.1 s.2) ((0:Int),([]:List TreeChange))=some (x++y++z):=by
    rw [Cx (s':=(((0+1:Nat):Int),[]++x)) (t0 0 x [] rfl hx (by simp))]
    rw [Cx (s':=(((1+1:Nat):Int),[]++x++y)) (t0 1 y _ rfl hy (by simp;omega))]
    rw [Cx (s':=(((2+1:Nat):Int),[]++x++y++z)) (t0 2 z _ rfl hz (by simp;omega))]
    refine Cb ?_;show Bw.l1 [x,y,z] _ _=_;unfold Bw.l1;rw [if_neg (by simp)];simp
  rw [e3,Option.bind_some]
theorem ch_ok {k:Int} {f:File} (hk:k=1∨k=2) (h1:El f.Path=true) (h2:K8 f.Lines):OkCh ⟨k,f.Path,ByteArray.empty,f.Lines,⟨[]⟩⟩ :=
  ⟨by simp only;omega,h1,fun h=>by simp only at h;omega,fun _=>rfl,fun h=>by simp only at h;omega,fun h=>by simp only at h;omega,fun _=>rfl,text0 h2,(by decide +kernel:(E1 ⟨[]⟩).Code=0)⟩
theorem has_mem {l:List File} {f:File} (h:f∈l):Gy l f.Path=true:=by
  unfold Gy;rw [List.any_eq_true];exact ⟨f,h,decide_eq_true rfl⟩
theorem has_ex {l:List File} {p:ByteArray} (h:Gy l p=true):∃ f∈l,f.Path=p:=by
  unfold Gy at h;rw [List.any_eq_true] at h;obtain ⟨f,hf,e⟩:=h;exact ⟨f,hf,of_decide_eq_true e⟩
theorem rel_ne {b:List File} (hb:TrOk b) {f g:File} (hf:f∈b) (hg:g∈b) (hne:f≠g):L0 f.Path g.Path=false:=by
  obtain ⟨i,hi,rfl⟩:=List.getElem_of_mem hf;obtain ⟨j,hj,rfl⟩:=List.getElem_of_mem hg;rcases Nat.lt_trichotomy i j with h | h | h
  · exact List.pairwise_iff_getElem.1 hb.rel i j hi hj h
  · subst h;exact absurd rfl hne
  · rw [relB_comm];exact List.pairwise_iff_getElem.1 hb.rel j i hj hi h
theorem sub_len:∀ {l b:List File},Hg l→Hg b→(∀ f∈l,f∈b)→l.length≤b.length
  | [],b,_,_,_=>by simp
  | f::l,[],_,_,h=>absurd (h f List.mem_cons_self) (by simp)
  | f::l,g::b,hl,hb,h=>by
    have hl':=List.pairwise_cons.1 hl;have hb':=List.pairwise_cons.1 hb
    have sub:∀ x∈l,x∈b:=by
      intro x hx;rcases List.mem_cons.1 (h x (List.mem_cons_of_mem _ hx)) with e | e
      · subst e;have h1:=hl'.1 x hx;rcases List.mem_cons.1 (h f List.mem_cons_self) with e2 | e2
        · subst e2;rw [Mq] at h1;cases h1
        · have:=hb'.1 f e2;rw [L7 this] at h1;cases h1
      · exact e
    have:=sub_len hl'.2 hb'.2 sub;simp only [List.length_cons];omega
theorem ad_run {a b:List File} (hb:TrOk b):∀ (r:List File) (k:Nat) (l:List File),TrOk l→Dis r→(∀ f∈r,f∈b)→(∀ g∈l,g∈b)→(∀ f∈r,Gy a f.Path=false→∀ g∈l,g.Path≠f.Path) →
    ∃ l',Ta k (r.filterMap (adOf a)) l=(l',⟨0,0⟩)∧TrOk l'∧∀ g,g∈l'↔g∈l∨(g∈r∧Gy a g.Path=false)
  | [],k,l,h,_,_,_,_=>⟨l,rfl,h,fun g=>by simp⟩
  | f::r,k,l,h,hd,hm,hs,hn=>by
    have hd':=List.pairwise_cons.1 hd;rw [List.filterMap_cons];unfold adOf;cases hh:Gy a f.Path with
    | true =>
      simp only [if_true];obtain ⟨l',e1,e2,e3⟩:=ad_run (a:=a) hb r k l h hd'.2 (fun g hg=>hm g (List.mem_cons_of_mem _ hg)) hs (fun g hg=>hn g (List.mem_cons_of_mem _ hg));refine ⟨l',e1,e2,fun g=>?_⟩;rw [e3 g];constructor
      · rintro (q | ⟨q1,q2⟩)
        · exact .inl q
        · exact .inr ⟨List.mem_cons_of_mem _ q1,q2⟩
      · rintro (q | ⟨q1,q2⟩)
        · exact .inl q
        · rcases List.mem_cons.1 q1 with rfl | q1
          · rw [hh] at q2;cases q2
          · exact .inr ⟨q1,q2⟩
    | false =>
      simp only [Bool.false_eq_true,if_false];have hf:=hm f List.mem_cons_self;have hc:OkCh ⟨1,f.Path,ByteArray.empty,f.Lines,⟨[]⟩⟩:=ch_ok (.inl rfl) (hb.path f hf) (hb.text f hf);have hnf:=hn f List.mem_cons_self hh;have hrel:∀ g∈l,L0 g.Path f.Path=false:=fun g hg=>rel_ne hb (hs g hg) hf fun e=>hnf g hg (by rw [e])
      have hra:=rel_all.2 hrel
      have hlen:l.length < 24:=by
        have h1:=sub_len (ins_srt h.srt (rel_has hra)) hb.srt fun g hg=>by
          rcases Qn.1 hg with e | e
          · subst e;exact hf
          · exact hs g e
        rw [ins_len] at h1;have:=hb.len;omega
      have hcan:Can ⟨1,f.Path,ByteArray.empty,f.Lines,⟨[]⟩⟩ l (some f):=.inl ⟨rfl,hrel,rfl⟩;rcases can_make h hc hcan with ⟨_,m0⟩ | ⟨m1,m2⟩
      · exfalso;unfold Lh at m0;rw [if_pos rfl] at m0;simp only at m0;rw [hra,if_neg Bool.false_ne_true,if_neg (by omega)] at m0
        cases m0
      have h1:=makeF_ok h hc m1
      obtain ⟨l',e1,e2,e3⟩:=ad_run (a:=a) hb r (k+1) _ h1 hd'.2 (fun g hg=>hm g (List.mem_cons_of_mem _ hg)) (fun g hg=>by
        rcases (m2 g).1 hg with q | q
        · exact hs g q.1
        · cases q;exact hf) (fun x hx hxa g hg=>by
        rcases (m2 g).1 hg with q | q
        · exact hn x (List.mem_cons_of_mem _ hx) hxa g q.1
        · cases q;exact hd'.1 x hx)
      refine ⟨l',by rw [Ta,if_neg (by rw [m1];simp)];exact e1,e2,fun g=>?_⟩
      rw [e3 g,m2 g];simp only [Option.some.injEq];constructor
      · rintro ((⟨q1,_⟩ | q1) | ⟨q1,q2⟩)
        · exact .inl q1
        · subst q1;exact .inr ⟨List.mem_cons_self,hh⟩
        · exact .inr ⟨List.mem_cons_of_mem _ q1,q2⟩
      · rintro (q | ⟨q1,q2⟩)
        · exact .inl (.inl ⟨q,hnf g q⟩)
        · rcases List.mem_cons.1 q1 with rfl | q1
          · exact .inl (.inr rfl)
          · exact .inr ⟨q1,q2⟩
theorem dis_of {l:List File} (h:Hg l):Dis l:=h.imp fun h=>sLt_ne h
theorem pw_ext {α:Type} {R:α→α→Prop} (asym:∀ x y,R x y→¬ R y x):∀ {a b:List α},a.Pairwise R→b.Pairwise R→(∀ f,f∈a↔f∈b)→a=b
  | [],[],_,_,_=>rfl
  | [],y::b,_,_,h=>absurd ((h y).2 (by simp)) (by simp)
  | x::a,[],_,_,h=>absurd ((h x).1 (by simp)) (by simp)
  | x::a,y::b,ha,hb,h=>by
    rw [List.pairwise_cons] at ha hb;have irr:∀ z,¬ R z z:=fun z hz=>asym z z hz hz
    have e:x=y:=by
      rcases List.mem_cons.1 ((h x).1 (by simp)) with e | h1
      · exact e
      · rcases List.mem_cons.1 ((h y).2 (by simp)) with e | h2
        · exact e.symm
        · exact absurd (hb.1 x h1) (asym _ _ (ha.1 y h2))
    subst e;congr 1;refine pw_ext asym ha.2 hb.2 fun f=>⟨fun hf=>?_,fun hf=>?_⟩
    · rcases List.mem_cons.1 ((h f).1 (List.mem_cons_of_mem _ hf)) with e | h1
      · subst e;exact absurd (ha.1 f hf) (irr f)
      · exact h1
    · rcases List.mem_cons.1 ((h f).2 (List.mem_cons_of_mem _ hf)) with e | h1
      · subst e;exact absurd (hb.1 f hf) (irr f)
      · exact h1
theorem tp_refl {l:List TreeChange} (h:∀ c∈l,OkCh c) (hl:l.length≤1000):B6 ⟨l⟩ ⟨l⟩=some true:=by
  unfold B6;simp only;rw [if_neg (by simp),scan0 l (fun _ _=>(Option.none:Option Bool)) ?_ ?_,Option.bind_some]
  · have:Gp (fun _ _=>(Option.none:Option Bool)) 0 l=Option.none:=by rw [Mx];intro j hj;rfl
    rw [this];rfl
  · intro k hk _;unfold B6.l1;simp only;rw [decide_eq_true (by omega),if_pos rfl,Dr hk,Option.bind_some,Option.bind_some,refl_ok (h _ (List.getElem_mem hk)),Option.bind_some,if_neg (by decide),Cz (by omega) (by omega),Option.bind_some];rfl
  · unfold B6.l1;rw [decide_eq_false (by simp),if_neg Bool.false_ne_true]
theorem ints_eq (a b:List Int) (hb:a.length≤1000000):Cr a b=some (decide (a=b)):=by
  unfold Cr;rw [Kz];by_cases hl:(a.length:Int)=(b.length:Int)
  · rw [if_pos hl];have hl':a.length=b.length:=by omega
    obtain ⟨r,h1,h2⟩:=Nr (m:=fun s=>Cr.l1 a b s) (fun s=>∃ k:Nat,s=(k:Int)∧k≤a.length∧a.take k=b.take k) (fun s=>a.length - s.toNat)
      (fun r=>(r=.inr ()∧a=b)∨(r=.inl false∧a≠b)) (by
        rintro s ⟨k,rfl,hk,hall⟩;unfold Cr.l1;rw [Bc];by_cases hlt:k < a.length
        · rw [if_pos (by omega),Dr hlt,Option.bind_some,Dr (by omega),Option.bind_some,Kz]
          by_cases he:a[k]=b[k]
          · rw [if_pos he,Cz (by omega) (by omega),Option.bind_some]
            exact .inl ⟨_,rfl,⟨k+1,by omega,hlt,by rw [List.take_succ_eq_append_getElem hlt,List.take_succ_eq_append_getElem (by omega),hall,he]⟩,by omega⟩
          · rw [if_neg he];exact .inr ⟨_,rfl,.inr ⟨rfl,fun h=>he (by subst h;rfl)⟩⟩
        · rw [if_neg (by omega)]
          refine .inr ⟨_,rfl,.inl ⟨rfl,?_⟩⟩;rw [List.take_of_length_le (by omega),List.take_of_length_le (by omega)] at hall
          exact hall) 0 ⟨0,rfl,Nat.zero_le _,by simp⟩
    rw [h1,Option.bind_some];rcases h2 with ⟨rfl,h⟩ | ⟨rfl,h⟩
    · rw [decide_eq_true h];rfl
    · rw [decide_eq_false h]
  · rw [if_neg hl,decide_eq_false (fun h=>hl (by rw [h]))]
theorem Od {x m:Int} (h0:0≤x) (hm:0 < m):rem? x m=some (x % m):=by
  unfold rem?;rw [if_neg (by omega),Int.tmod_eq_emod_of_nonneg h0]
theorem shr1 {b:Int}:shr? .i64 b 1=some (b / 2):=by
  unfold shr?;rw [if_neg (by decide)]
  have:(2:Int) ^ (min (1:Int).toNat IntKind.i64.bits)=2:=by decide
  rw [this,Int.fdiv_eq_ediv_of_nonneg _ (by decide)]
def Dig (x:Int):Prop:=0≤x∧x < 2305843009213693951
theorem dig_mod {x:Int}:Dig (x % 2305843009213693951):=⟨Int.emod_nonneg _ (by decide),Int.emod_lt_of_pos _ (by decide)⟩
theorem mul_ok {a b:Int} (ha:Dig a) (hb:0≤b):∃ r,C9 a b=some r∧Dig r:=by
  unfold C9
  obtain ⟨r,h1,h2⟩:=Nr (m:=fun s:Int×Int×Int=>C9.l1 s.1 s.2.1 s.2.2) (fun s=>Dig s.1∧Dig s.2.1∧0≤s.2.2) (fun s=>s.2.2.toNat) Dig (by
    rintro ⟨o,x,y⟩ ⟨h1,h2,h3⟩;simp only at h1 h2 h3 ⊢;obtain ⟨p1,p2⟩:=h1;obtain ⟨q1,q2⟩:=h2;unfold C9.l1;simp only [Bc];by_cases hy:y > 0
    · left;rw [if_pos hy]
      have j2:∀ o',Dig o'→∃ s',C9.j2 x y o'=some (.next s')∧(Dig s'.1∧Dig s'.2.1∧0≤s'.2.2)∧s'.2.2.toNat < y.toNat:=by
        intro o' ho;unfold C9.j2;rw [Cz (by omega) (by omega),Option.bind_some,Od (by omega) (by decide),Option.bind_some,shr1,Option.bind_some]
        exact ⟨_,rfl,⟨ho,dig_mod,by simp only;omega⟩,by simp only;omega⟩
      by_cases hc:andI .i64 y 1=1
      · rw [if_pos hc,Cz (by omega) (by omega),Option.bind_some,Od (by omega) (by decide),Option.bind_some]
        exact j2 _ dig_mod
      · rw [if_neg hc];exact j2 _ ⟨p1,p2⟩
    · right;rw [if_neg hy];exact ⟨_,rfl,p1,p2⟩) (0,a,b) ⟨⟨Int.le_refl 0,(by decide:(0:Int) < 2305843009213693951)⟩,ha,hb⟩
  rw [h1,Option.bind_some];exact ⟨r,rfl,h2⟩
theorem dnext_ok {s:Step_digest} {f:Int} (h0:Dig s.e0) (h1:Dig s.e1) (hf:0≤f):∃ r,Kf s f=some r∧Dig r:=by
  obtain ⟨r,h2,h3,h4⟩:=mul_ok h0 hf;unfold Kf;obtain ⟨p1,p2⟩:=h1;rw [h2,Option.bind_some,Cz (by omega) (by omega),Option.bind_some,Od (by omega) (by decide),Option.bind_some]
  exact ⟨_,rfl,dig_mod⟩
theorem of_ok {l:List UInt8} (hl:l.length≤4096):∃ r,D3 l=some (r,⟨0,0⟩)∧Dig r:=by
  unfold D3;rw [Bc,if_neg (by omega)]
  obtain ⟨r,h1,h2⟩:=Nr (m:=fun s:Int×Int=>D3.l1 l s.1 s.2) (fun s=>∃ k:Nat,s.1=(k:Int)∧k≤l.length∧Dig s.2) (fun s=>l.length - s.1.toNat) Dig (by
    rintro ⟨x,h⟩ ⟨k,hx,hk,hd⟩;simp only at hx hd ⊢;subst hx;unfold D3.l1;rw [Bc];by_cases hlt:k < l.length
    · left;have hb:(l[k]).toNat < 256:=(l[k]).toNat_lt;rw [if_pos (by omega),Dr hlt,Option.bind_some,Cz (by omega) (by omega),Option.bind_some,Cz (by omega) (by omega),Option.bind_some]
      obtain ⟨r,e1,e2⟩:=dnext_ok (s:={ e0:=h,e1:=((l[k]).toNat:Int)+1 }) (f:=257) hd ⟨by simp only;omega,by simp only;omega⟩ (by decide)
      rw [e1,Option.bind_some,Cz (by omega) (by omega),Option.bind_some]
      exact ⟨_,rfl,⟨k+1,by simp,hlt,e2⟩,by simp only;omega⟩
    · right;rw [if_neg (by omega)]
      exact ⟨_,rfl,hd⟩) (0,1) ⟨0,rfl,Nat.zero_le _,by decide,by decide⟩
  rw [h1,Option.bind_some];exact ⟨r,rfl,h2⟩
theorem pair_ok {a b:Int} (ha:Dig a) (hb:Dig b):∃ r,Hu a b=some r∧Dig r:=by
  unfold Hu;obtain ⟨r,h1,h2⟩:=dnext_ok (s:={ e0:=b,e1:=7 }) (f:=31) hb ⟨(by decide:(0:Int)≤7),(by decide:(7:Int) < 2305843009213693951)⟩ (by decide)
  rw [h1,Option.bind_some];obtain ⟨r',h3,h4⟩:=dnext_ok (s:={ e0:=a,e1:=r }) (f:=1000003) ha h2 (by decide)
  rw [h3];exact ⟨r',rfl,h4⟩
theorem is_eq {a:Int} (h:Dig a):Q8 a=some true:=by
  obtain ⟨h1,h2⟩:=h;unfold Q8;rw [Bc,if_pos h1,Option.bind_some,decide_eq_true h2]
theorem Pair_ok {a b:Int} (ha:Dig a) (hb:Dig b):∃ r,Da a b=some (r,⟨0,0⟩)∧Dig r:=by
  unfold Da
  have:D2 (fun s=>Da.l1 a b s) 0=some (.inr ()):=by
    refine iter_eq_of (fun s=>s=0∨s=1∨s=2) (fun s=>2 - s.toNat) _ ?_ _ (.inl rfl);rintro s (rfl | rfl | rfl)
    · left;unfold Da.l1;rw [Bc,if_pos (by decide),show at? [a,b] 0=some a from rfl,Option.bind_some,is_eq ha,Option.bind_some,if_neg (by decide),Cz (by decide) (by decide),Option.bind_some]
      exact ⟨_,rfl,.inr (.inl rfl),by decide⟩
    · left;unfold Da.l1;rw [Bc,if_pos (by decide),show at? [a,b] 1=some b from rfl,Option.bind_some,is_eq hb,Option.bind_some,if_neg (by decide),Cz (by decide) (by decide),Option.bind_some]
      exact ⟨_,rfl,.inr (.inr rfl),by decide⟩
    · right;unfold Da.l1;rw [Bc,if_neg (by decide)]
  rw [this,Option.bind_some];simp only;unfold Da.j1;obtain ⟨r,h1,h2⟩:=pair_ok ha hb;rw [h1,Option.bind_some];exact ⟨r,rfl,h2⟩
theorem and1 {y:Int} (h0:0≤y) (h1:y≤9223372036854775807):andI .i64 y 1=y % 2:=by
  obtain ⟨n,rfl⟩:=Int.eq_ofNat_of_zero_le h0;unfold andI;rw [BitVec.toNat_and]
  have e1:(BitVec.ofInt IntKind.i64.bits (n:Int)).toNat=n:=by
    rw [BitVec.toNat_ofInt];show ((n:Int) % ((2 ^ 64:Nat):Int)).toNat=n;omega
  have e2:(BitVec.ofInt IntKind.i64.bits 1).toNat=1:=by decide
  rw [e1,e2,Nat.and_one_is_mod,i64_wrap (by omega) (by omega)]
  omega
theorem quo2 {x:Int} (h0:0≤x) (h1:x≤9223372036854775807):quo? .i64 x 2=some (x / 2):=by
  unfold quo?;rw [if_neg (by decide),Int.tdiv_eq_ediv_of_nonneg h0,Cz (by omega) (by omega)]
theorem times_iter:∀ (n:Nat) (o x y:Int),y.toNat=n→Dig o→Dig x→0≤y→y≤9223372036854775807 →
    D2 (fun s:Int×Int×Int=>Bm.l1 s.1 s.2.1 s.2.2) (o,x,y)=D2 (fun s:Int×Int×Int=>C9.l1 s.1 s.2.1 s.2.2) (o,x,y):=by
  intro n
  induction n using Nat.strongRecOn with
  | _ n ih =>
    intro o x y hn ho hx h0 h1;obtain ⟨p1,p2⟩:=ho;obtain ⟨q1,q2⟩:=hx;by_cases hy:y > 0
    · have s1:∃ o',Dig o'∧Bm.l1 o x y=some (.next (o',(x+x) % 2305843009213693951,y / 2))∧C9.l1 o x y=some (.next (o',(x+x) % 2305843009213693951,y / 2)):=by
        have j1:∀ o',Bm.j2 x y o'=some (.next (o',(x+x) % 2305843009213693951,y / 2)):=by
          intro o';unfold Bm.j2;rw [Cz (by omega) (by omega),Option.bind_some,Od (by omega) (by decide),Option.bind_some,quo2 h0 h1,Option.bind_some]
        have j2:∀ o',C9.j2 x y o'=some (.next (o',(x+x) % 2305843009213693951,y / 2)):=by
          intro o';unfold C9.j2;rw [Cz (by omega) (by omega),Option.bind_some,Od (by omega) (by decide),Option.bind_some,shr1,Option.bind_some,Int.two_mul]
        by_cases hc:y % 2=1
        · refine ⟨(o+x) % 2305843009213693951,dig_mod,?_,?_⟩
          · unfold Bm.l1;rw [Bc,if_pos hy,Od h0 (by decide),Option.bind_some,Bc,if_pos hc,Cz (by omega) (by omega),Option.bind_some,Od (by omega) (by decide),Option.bind_some,j1]
          · unfold C9.l1;rw [Bc,if_pos hy,Bc,and1 h0 h1,if_pos hc,Cz (by omega) (by omega),Option.bind_some,Od (by omega) (by decide),Option.bind_some,j2]
        · refine ⟨o,⟨p1,p2⟩,?_,?_⟩
          · unfold Bm.l1;rw [Bc,if_pos hy,Od h0 (by decide),Option.bind_some,Bc,if_neg hc,j1]
          · unfold C9.l1;rw [Bc,if_pos hy,Bc,and1 h0 h1,if_neg hc,j2]
      obtain ⟨o',hd,e1,e2⟩:=s1;rw [Cx (m:=fun s:Int×Int×Int=>Bm.l1 s.1 s.2.1 s.2.2) e1,Cx (m:=fun s:Int×Int×Int=>C9.l1 s.1 s.2.1 s.2.2) e2];exact ih (y / 2).toNat (by omega) _ _ _ rfl hd dig_mod (by omega) (by omega)
    · have e1:Bm.l1 o x y=some (.done o):=by unfold Bm.l1;rw [Bc,if_neg hy]
      have e2:C9.l1 o x y=some (.done o):=by unfold C9.l1;rw [Bc,if_neg hy]
      rw [Cb (m:=fun s:Int×Int×Int=>Bm.l1 s.1 s.2.1 s.2.2) e1,Cb (m:=fun s:Int×Int×Int=>C9.l1 s.1 s.2.1 s.2.2) e2]
theorem times_f {a b:Int} (ha:Dig a) (h0:0≤b) (h1:b≤9223372036854775807):Bm a b=C9 a b:=by
  unfold Bm C9;rw [times_iter b.toNat 0 a b rfl ⟨by decide,by decide⟩ ha h0 h1];rfl
theorem next_ref {h z f:Int} (hh:Dig h) (hz:0≤z∧z≤2305843009213693951) (hf:0≤f):∃ r,C9 h f=some r∧Dig r∧Kf ⟨h,z⟩ f=some ((r+z) % 2305843009213693951):=by
  obtain ⟨r,h2,h3,h4⟩:=mul_ok hh hf;refine ⟨r,h2,⟨h3,h4⟩,?_⟩;unfold Kf;simp only;rw [h2,Option.bind_some,Cz (by omega) (by omega),Option.bind_some,Od (by omega) (by decide),Option.bind_some]
theorem of_iter (l:List UInt8) (hl:l.length≤4096):∀ (n k:Nat) (h:Int),l.length - k=n→k≤l.length→Dig h →
    D2 (fun s:Int×Int=>Bp.l1 l s.1 s.2) ((k:Int),h)=D2 (fun s:Int×Int=>D3.l1 l s.1 s.2) ((k:Int),h)
  | 0,k,h,hn,hk,hd=>by
    have e1:Bp.l1 l (k:Int) h=some (.done h):=by unfold Bp.l1;rw [Bc,if_neg (by omega)]
    have e2:D3.l1 l (k:Int) h=some (.done h):=by unfold D3.l1;rw [Bc,if_neg (by omega)]
    rw [Cb (m:=fun s:Int×Int=>Bp.l1 l s.1 s.2) e1,Cb (m:=fun s:Int×Int=>D3.l1 l s.1 s.2) e2]
  | n+1,k,h,hn,hk,hd=>by
    have hk:k < l.length:=by omega
    have hb:(l[k].toNat:Int) < 256:=by have:=l[k].toNat_lt;omega
    obtain ⟨r,h1,⟨h2,h3⟩,h4⟩:=next_ref (z:=(l[k].toNat:Int)+1) (f:=257) hd ⟨by omega,by omega⟩ (by decide)
    have e1:Bp.l1 l (k:Int) h=some (.next (((k+1:Nat):Int),(r+((l[k].toNat:Int)+1)) % 2305843009213693951)):=by
      unfold Bp.l1
      rw [Bc,if_pos (by omega),Dr hk,Option.bind_some,Cz (by omega) (by omega),Option.bind_some,times_f hd (by decide) (by decide),h1,Option.bind_some,Cz (by omega) (by omega),Option.bind_some,Cz (by omega) (by omega),Option.bind_some,
        Od (by omega) (by decide),Option.bind_some,Cz (by omega) (by omega),Option.bind_some,Int.add_assoc];rfl
    have e2:D3.l1 l (k:Int) h=some (.next (((k+1:Nat):Int),(r+((l[k].toNat:Int)+1)) % 2305843009213693951)):=by
      unfold D3.l1;rw [Bc,if_pos (by omega),Dr hk,Option.bind_some,Cz (by omega) (by omega),Option.bind_some,Cz (by omega) (by omega),Option.bind_some,h4,Option.bind_some,Cz (by omega) (by omega),Option.bind_some];rfl
    rw [Cx (m:=fun s:Int×Int=>Bp.l1 l s.1 s.2) e1,Cx (m:=fun s:Int×Int=>D3.l1 l s.1 s.2) e2];exact of_iter l hl n (k+1) _ (by omega) (by omega) dig_mod
theorem DigestOf_f {l:List UInt8} (hl:l.length≤4096) {d:Int} {f:Fault} (h:D3 l=some (d,f)):Bp l=some d:=by
  unfold D3 at h;rw [Bc,if_neg (by omega)] at h
  unfold Bp;have:=of_iter l hl _ 0 1 rfl (Nat.zero_le _) ⟨by decide,by decide⟩
  rw [show ((0:Nat):Int)=0 from rfl] at this;rw [this];generalize D2 (fun s:Int×Int=>D3.l1 l s.1 s.2) (0,1)=x at h;cases x with
  | none=>cases h
  | some v=>rw [Option.bind_some] at h ⊢;unfold D3.j1 at h;cases h;rfl
theorem Pair_pair {a b:Int} (ha:Dig a) (hb:Dig b):Da a b=(Hu a b).bind fun y=>some (y,⟨0,0⟩):=by
  unfold Da
  have s0:Da.l1 a b 0=some (.next 1):=by
    unfold Da.l1;rw [Bc,if_pos (by decide),show at? [a,b] 0=some a from rfl,Option.bind_some,is_eq ha,Option.bind_some,if_neg (by decide),Cz (by decide) (by decide),Option.bind_some];rfl
  have s1:Da.l1 a b 1=some (.next 2):=by
    unfold Da.l1;rw [Bc,if_pos (by decide),show at? [a,b] 1=some b from rfl,Option.bind_some,is_eq hb,Option.bind_some,if_neg (by decide),Cz (by decide) (by decide),Option.bind_some];rfl
  have s2:Da.l1 a b 2=some (.done (.inr ())):=by
    unfold Da.l1;rw [Bc,if_neg (by decide)]
  rw [Cx s0,Cx s1,Cb s2,Option.bind_some];rfl
theorem DigestPair_f {a b r:Int} {f:Fault} (ha:Dig a) (hb:Dig b) (h:Da a b=some (r,f)):Cg a b=some r:=by
  rw [Pair_pair ha hb] at h;obtain ⟨r1,a1,⟨a2,a3⟩,a4⟩:=next_ref (z:=7) (f:=31) hb ⟨by decide,by decide⟩ (by decide)
  obtain ⟨r2,b1,⟨b2,b3⟩,b4⟩:=next_ref (z:=(r1+7) % 2305843009213693951) (f:=1000003) ha ⟨by omega,by omega⟩ (by decide)
  have e:Hu a b=some ((r2+(r1+7) % 2305843009213693951) % 2305843009213693951):=by
    unfold Hu;rw [a4,Option.bind_some,b4,Option.bind_some]
  rw [e,Option.bind_some] at h;cases h;unfold Cg;rw [times_f ha (by decide) (by decide),b1,Option.bind_some,times_f hb (by decide) (by decide),a1,Option.bind_some,Cz (by omega) (by omega),Option.bind_some,Cz (by omega) (by omega),Option.bind_some,Od (by omega) (by decide),Option.bind_some]
  congr 1;omega
def Lf (a b:List File):List TreeChange:=b.filterMap (adOf a)
def difT (a b:List File):TreePatch×Fault :=
  if (Eq a).Code≠0 then (⟨[]⟩,Eq a) else if (Eq b).Code≠0 then (⟨[]⟩,⟨(Eq b).Code,-2⟩) else if (Lf a b).length > 30 then (⟨[]⟩,⟨10,-1⟩) else (⟨Lf a b⟩,⟨0,0⟩)
theorem tdifT_f {a:List File} (hn:a=[]) (b:List File):Bl ⟨a⟩ ⟨b⟩=some (difT a b):=by
  subst hn;unfold Bl difT;rw [Validate_f,Option.bind_some];simp only;have h:Eq []=⟨0,0⟩:=rfl;have ha:=(G1 []).1 (by rw [h])
  rw [if_neg (by rw [h];decide),tsecond_f,Option.bind_some,if_neg (show ¬ (Eq []).Code≠0 by rw [h];decide)]
  simp only;by_cases hb0:(Eq b).Code=0
  · have hb:=(G1 b).1 hb0;have hbl:=hb.len
    have e2:Bl.l2 ⟨[]⟩ ⟨b⟩ 0 [] []=some (.done ([],[])):=by
      unfold Bl.l2;rw [Bc,if_neg (by simp)]
    have i2:=Cb (m:=fun s:Int×List TreeChange×List TreeChange=>Bl.l2 ⟨[]⟩ ⟨b⟩ s.1 s.2.1 s.2.2) (s:=(0,[],[])) e2;have i1:=diff1_iter ha hb b 0 [] rfl (Nat.le_refl _);rw [show ((0:Nat):Int)=0 from rfl] at i1;have f3:=List.length_filterMap_le (adOf []) b;rw [if_pos hb0,if_neg (by decide),i2,Option.bind_some,if_neg (fun hn=>hn hb0)]
    unfold Bl.j1 Bl.j2 Lf;rw [i1,Option.bind_some];simp only [List.nil_append];rw [concat3 (by simp) (by simp) (by omega),Option.bind_some]
    simp only [List.nil_append];by_cases h30:((b.filterMap (adOf [])).length:Int) > 30
    · rw [decide_eq_true h30,if_pos rfl,if_pos (by omega)]
    · rw [decide_eq_false h30,if_neg Bool.false_ne_true,if_neg (by omega)]
  · rw [if_neg hb0,if_pos (by simp [hb0]),if_pos hb0]
theorem dif_ok {a b:List File} (ha:a=[]) (hb:TrOk b):(∀ c∈Lf a b,OkCh c)∧Ta 0 (Lf a b) a=(b,⟨0,0⟩):=by
  subst ha;have hnil:=(G1 []).1 (by decide)
  constructor
  · intro c hc;unfold Lf at hc;rw [List.mem_filterMap] at hc;obtain ⟨f,hf,e⟩:=hc;unfold adOf at e;split at e
    · cases e
    · cases e;exact ch_ok (.inl rfl) (hb.path f hf) (hb.text f hf)
  · obtain ⟨l3,r3,o3,m3⟩:=ad_run (a:=[]) hb b 0 [] hnil (dis_of hb.srt) (fun f hf=>hf) (fun g hg=>by cases hg) (fun f hf hfa g hg e=>by cases hg)
    unfold Lf;rw [r3];congr 1;refine res_eq o3.srt hb.srt fun g=>?_;rw [m3 g];exact ⟨fun h=>by rcases h with h | h;exact absurd h (by simp);exact h.1,fun h=>.inr ⟨h,rfl⟩⟩
end Go.Dc
set_option linter.unusedSimpArgs false
set_option linter.unusedVariables false
set_option maxRecDepth 4000
noncomputable section
namespace Go.Dc
open Go
def dg (l:List UInt8):Int:=((D3 l).map (·.1)).getD 0
def pr (a b:Int):Int:=((Da a b).map (·.1)).getD 0
theorem dg_ok {l:List UInt8} (hl:l.length≤4096):D3 l=some (dg l,⟨0,0⟩)∧Dig (dg l)∧Bp l=some (dg l):=by
  obtain ⟨r,h1,h2⟩:=of_ok hl;have e:dg l=r:=by unfold dg;rw [h1];rfl
  rw [e];exact ⟨h1,h2,DigestOf_f hl h1⟩
theorem Qc {a b:Int} (ha:Dig a) (hb:Dig b):Da a b=some (pr a b,⟨0,0⟩)∧Hu a b=some (pr a b)∧Dig (pr a b)∧Cg a b=some (pr a b):=by
  obtain ⟨r,h1,h2⟩:=Pair_ok ha hb;have e:pr a b=r:=by unfold pr;rw [h1];rfl
  rw [e];refine ⟨h1,?_,h2,DigestPair_f ha hb h1⟩;rw [Pair_pair ha hb] at h1;obtain ⟨r',h3,_⟩:=pair_ok ha hb;rw [h3,Option.bind_some] at h1;cases h1;exact h3
theorem Hi {x:Int} (h0:0≤x) (h1:x≤1000000000000):Dig x:=⟨h0,by omega⟩
def ds (l:List ByteArray):Int:=l.foldl (fun h s=>pr h (dg s.data.toList)) 2
theorem line_len {s:ByteArray} (h:s.size≤4096):s.data.toList.length≤4096:=by rw [Array.length_toList];exact h
theorem dfold_dig:∀ (l:List ByteArray) (x:Int),Dig x→(∀ s∈l,s.size≤4096)→Dig (l.foldl (fun h s=>pr h (dg s.data.toList)) x)
  | [],_,h,_=>h
  | s::l,x,h,hl=>dfold_dig l _ (Qc h (dg_ok (line_len (hl s (by simp)))).2.1).2.2.1 fun t ht=>hl t (by simp [ht])
theorem ds_ok {m:List ByteArray} (h:K8 m):D0 m=some (ds m,⟨0,0⟩)∧Dig (ds m)∧Bs m=some (ds m,⟨0,0⟩)∧E5 m=some (ds m):=by
  have hl:=h.1;have hs:∀ s∈m,s.size≤4096:=fun s hs=>Nat.le_trans (h.2 s hs).1 (by decide)
  have hd:Dig (ds m):=dfold_dig m 2 (Hi (by decide) (by decide)) hs
  have k1:D0 m=some (ds m,⟨0,0⟩):=by
    unfold D0;rw [Bc,if_neg (by omega)]
    obtain ⟨r,hr,rfl⟩:=La (f:=fun s:Int×Int=>D0.l1 m s.1 s.2) m.length (fun k x=>x=(m.take k).foldl (fun h s=>pr h (dg s.data.toList)) 2) (fun r=>r=.inr (ds m))
      (by
        rintro k x hk rfl;have hx:Dig ((m.take k).foldl (fun h s=>pr h (dg s.data.toList)) 2):=dfold_dig _ 2 (Hi (by decide) (by decide)) fun s hs'=>hs s (List.mem_of_mem_take hs')
        refine ⟨_,?_,rfl⟩;rw [List.take_succ_eq_append_getElem hk,List.foldl_append];generalize (m.take k).foldl (fun h s=>pr h (dg s.data.toList)) 2=x at hx ⊢;obtain ⟨d1,d2,_⟩:=dg_ok (line_len (hs _ (List.getElem_mem hk)));unfold D0.l1;rw [Bc,if_pos (by omega),Dr hk,Option.bind_some,d1,Option.bind_some]
        simp only [decide_true,Bool.and_self,Bool.not_true,Bool.false_eq_true,if_false];rw [(Qc hx d2).2.1,Option.bind_some,Cz (by omega) (by omega),Option.bind_some];rfl)
      (by
        rintro x rfl;unfold D0.l1;rw [Bc,if_neg (by omega),List.take_length]
        exact ⟨_,rfl,rfl⟩) 2 rfl
    rw [hr,Option.bind_some];rfl
  refine ⟨k1,hd,?_,by unfold E5;rw [k1,Option.bind_some]⟩
  unfold Bs;rw [Bc,if_neg (by omega)]
  obtain ⟨r,hr,rfl⟩:=La (f:=fun s:Int×Int=>Bs.l1 m s.1 s.2) m.length (fun k x=>x=(m.take k).foldl (fun h s=>pr h (dg s.data.toList)) 2) (fun r=>r=.inr (ds m))
    (by
      rintro k x hk rfl;have hx:Dig ((m.take k).foldl (fun h s=>pr h (dg s.data.toList)) 2):=dfold_dig _ 2 (Hi (by decide) (by decide)) fun s hs'=>hs s (List.mem_of_mem_take hs')
      refine ⟨_,?_,rfl⟩;rw [List.take_succ_eq_append_getElem hk,List.foldl_append];generalize (m.take k).foldl (fun h s=>pr h (dg s.data.toList)) 2=x at hx ⊢;have hz:=hs _ (List.getElem_mem hk);obtain ⟨_,d2,d3⟩:=dg_ok (line_len hz);unfold Bs.l1;rw [Bc,if_pos (by omega),Dr hk,Option.bind_some,Bc,if_neg (by omega),Option.bind_some,d3,Option.bind_some,(Qc hx d2).2.2.2,Option.bind_some,Cz (by omega) (by omega),Option.bind_some];rfl)
    (by
      rintro x rfl;unfold Bs.l1;rw [Bc,if_neg (by omega),List.take_length]
      exact ⟨_,rfl,rfl⟩) 2 rfl
  rw [hr,Option.bind_some];rfl
theorem Q6:∀ (l:List Int) (x:Int),Dig x→(∀ s∈l,Dig s)→Dig (l.foldl pr x)
  | [],_,h,_=>h
  | s::l,x,h,hl=>Q6 l _ (Qc h (hl s (by simp))).2.2.1 fun t ht=>hl t (by simp [ht])
theorem combine_f {h:Int} {l:List Int} (hh:Dig h) (hl:∀ s∈l,Dig s) (hn:l.length≤1000):Dq h l=some (l.foldl pr h):=by
  unfold Dq
  obtain ⟨r,hr,rfl⟩:=La (f:=fun s:Int×Int=>Dq.l1 l s.1 s.2) l.length (fun k x=>x=(l.take k).foldl pr h) (fun r=>r=l.foldl pr h)
    (by
      rintro k x hk rfl;have hx:=Q6 (l.take k) h hh fun s hs=>hl s (List.mem_of_mem_take hs);refine ⟨_,?_,rfl⟩;rw [List.take_succ_eq_append_getElem hk,List.foldl_append];generalize (l.take k).foldl pr h=x at hx ⊢;unfold Dq.l1;rw [Bc,if_pos (by omega),Dr hk,Option.bind_some,(Qc hx (hl _ (List.getElem_mem hk))).1,Option.bind_some,Cz (by omega) (by omega),Option.bind_some];rfl)
    (by
      rintro x rfl;unfold Dq.l1;rw [Bc,if_neg (by omega),List.take_length]
      exact ⟨_,rfl,rfl⟩) h rfl
  rw [hr,Option.bind_some];rfl
def hd (x:Int) (h:Hunk):Int:=[h.At,ds h.Old,ds h.New].foldl pr x
def cd0 (x:Int) (c:TreeChange):Int:=[c.Kind,dg c.Path.data.toList,dg c.To.data.toList,ds c.Lines].foldl pr x
def cd (x:Int) (c:TreeChange):Int:=c.Patch.Hunks.foldl hd (cd0 x c)
def pd (p:List TreeChange):Int:=p.foldl cd 3
structure HOk (h:Hunk):Prop where
  at0:Dig h.At
  old:K8 h.Old
  new:K8 h.New
theorem hunks_ok {c:TreeChange} (hc:OkCh c):c.Patch.Hunks.length≤130∧∀ h∈c.Patch.Hunks,HOk h:=by
  obtain ⟨h1,h2⟩:=(Mr _).1 hc.patch;refine ⟨h1,fun x hx=>?_⟩;obtain ⟨a1,a2,a3,a4,_⟩:=good_at h2 (by omega) x hx
  exact ⟨Hi (by omega) (by omega),(G6 _).2 ((Ec _).2 a3),(G6 _).2 ((Ec _).2 a4)⟩
theorem hd_list {h:Hunk} (hh:HOk h):∀ s∈[h.At,ds h.Old,ds h.New],Dig s:=by
  intro s hs;simp only [List.mem_cons,List.not_mem_nil,or_false] at hs;rcases hs with rfl | rfl | rfl
  · exact hh.at0
  · exact (ds_ok hh.old).2.1
  · exact (ds_ok hh.new).2.1
theorem hd_dig {x:Int} {h:Hunk} (hx:Dig x) (hh:HOk h):Dig (hd x h):=Q6 _ _ hx (hd_list hh)
theorem hds_dig:∀ (l:List Hunk) (x:Int),Dig x→(∀ h∈l,HOk h)→Dig (l.foldl hd x)
  | [],_,h,_=>h
  | s::l,x,h,hl=>hds_dig l _ (hd_dig h (hl s (by simp))) fun t ht=>hl t (by simp [ht])
theorem path_sz {p:ByteArray} (h:El p=true):p.size≤60:=by
  unfold El at h;rw [Bool.and_eq_true] at h;exact of_decide_eq_true h.1
theorem ch_len {c:TreeChange} (hc:OkCh c):c.Path.data.toList.length≤4096∧c.To.data.toList.length≤4096:=by
  refine ⟨line_len (Nat.le_trans (path_sz hc.path) (by decide)),?_⟩
  by_cases h3:c.Kind=3
  · exact line_len (Nat.le_trans (path_sz (hc.to h3).1) (by decide))
  · rw [hc.noTo h3];decide
theorem cd0_list {c:TreeChange} (hc:OkCh c):∀ s∈[c.Kind,dg c.Path.data.toList,dg c.To.data.toList,ds c.Lines],Dig s:=by
  intro s hs;have hk:=hc.kind;simp only [List.mem_cons,List.not_mem_nil,or_false] at hs;rcases hs with rfl | rfl | rfl | rfl
  · exact Hi (by omega) (by omega)
  · exact (dg_ok (ch_len hc).1).2.1
  · exact (dg_ok (ch_len hc).2).2.1
  · exact (ds_ok ((G6 _).2 ((Ec _).2 hc.lines))).2.1
theorem cd0_dig {x:Int} {c:TreeChange} (hx:Dig x) (hc:OkCh c):Dig (cd0 x c):=Q6 _ _ hx (cd0_list hc)
theorem cd_dig {x:Int} {c:TreeChange} (hx:Dig x) (hc:OkCh c):Dig (cd x c):=hds_dig _ _ (cd0_dig hx hc) (hunks_ok hc).2
theorem cds_dig:∀ (l:List TreeChange) (x:Int),Dig x→(∀ h∈l,OkCh h)→Dig (l.foldl cd x)
  | [],_,h,_=>h
  | s::l,x,h,hl=>cds_dig l _ (cd_dig h (hl s (by simp))) fun t ht=>hl t (by simp [ht])
theorem dig3:Dig 3:=Hi (by decide) (by decide)
theorem pd_dig {p:List TreeChange} (hp:∀ c∈p,OkCh c):Dig (pd p):=cds_dig p 3 dig3 hp
theorem hloop_f {c:TreeChange} (hc:OkCh c) {x:Int} (hx:Dig x):D2 (fun s=>Bn.l2 c s.1 s.2) (0,x)=some (c.Patch.Hunks.foldl hd x):=by
  obtain ⟨hn,hh⟩:=hunks_ok hc
  obtain ⟨r,hr,rfl⟩:=La (f:=fun s:Int×Int=>Bn.l2 c s.1 s.2) c.Patch.Hunks.length (fun k y=>y=(c.Patch.Hunks.take k).foldl hd x) (fun r=>r=c.Patch.Hunks.foldl hd x)
    (by
      rintro k y hk rfl;have hy:=hds_dig (c.Patch.Hunks.take k) x hx fun s hs=>hh s (List.mem_of_mem_take hs);refine ⟨_,?_,rfl⟩;rw [List.take_succ_eq_append_getElem hk,List.foldl_append];generalize (c.Patch.Hunks.take k).foldl hd x=y at hy ⊢;have ho:=hh _ (List.getElem_mem hk);unfold Bn.l2;rw [Bc,if_pos (by omega),Dr hk,Option.bind_some,(ds_ok ho.old).2.2.2,Option.bind_some,(ds_ok ho.new).2.2.2,Option.bind_some,combine_f hy (hd_list ho) (by simp),Option.bind_some,Cz (by omega) (by omega),Option.bind_some];rfl)
    (by
      rintro y rfl;unfold Bn.l2;rw [Bc,if_neg (by omega),List.take_length]
      exact ⟨_,rfl,rfl⟩) x rfl
  exact hr
theorem s1_f {s:ByteArray} (h:s.data.toList.length≤4096):Gr s=some (dg s.data.toList):=by
  unfold Gr;rw [(dg_ok h).1,Option.bind_some]
def pdT (p:List TreeChange):Int×Fault:=if (pcF p).Code≠0 then (0,pcF p) else (pd p,⟨0,0⟩)
theorem Q3 (p:TreePatch):Bn p=some (pdT p.Changes):=by
  obtain ⟨p⟩:=p;unfold Bn pdT;rw [VPatch_f,Option.bind_some];simp only;rcases pcF_ok p with h | h
  · obtain ⟨hl,hp⟩:=(N1 p).1 (by rw [h])
    rw [h];simp only [decide_true,Bool.and_self,Bool.not_true,Bool.false_eq_true,if_false,ne_eq,not_true_eq_false]
    obtain ⟨r,hr,rfl⟩:=La (f:=fun s:Int×Int=>Bn.l1 ⟨p⟩ s.1 s.2) p.length (fun k y=>y=(p.take k).foldl cd 3) (fun r=>r=pd p)
      (by
        rintro k y hk rfl;have hy:=cds_dig (p.take k) 3 dig3 fun s hs=>hp s (List.mem_of_mem_take hs);refine ⟨_,?_,rfl⟩;rw [List.take_succ_eq_append_getElem hk,List.foldl_append];generalize (p.take k).foldl cd 3=y at hy ⊢;have hc:=hp _ (List.getElem_mem hk);have hcl:=(G6 _).2 ((Ec _).2 hc.lines);unfold Bn.l1;simp only;rw [Bc,if_pos (by omega),Dr hk,Option.bind_some,s1_f (ch_len hc).1,Option.bind_some,s1_f (ch_len hc).2,Option.bind_some,(ds_ok hcl).2.2.2,Option.bind_some,combine_f hy (cd0_list hc) (by simp),Option.bind_some]
        rw [hloop_f hc (Q6 _ _ hy (cd0_list hc)),Option.bind_some];unfold Bn.j3 Bn.j2;rw [Cz (by omega) (by omega),Option.bind_some];rfl)
      (by
        rintro y rfl;unfold Bn.l1;simp only;rw [Bc,if_neg (by omega),List.take_length]
        exact ⟨_,rfl,rfl⟩) 3 rfl
    rw [hr,Option.bind_some];rfl
  · rw [if_pos h,if_pos (L5.2 fun h2=>h h2.1)]
theorem rhloop_f {c:TreeChange} (hc:OkCh c) {x:Int} (hx:Dig x):D2 (fun s=>A1.l2 c s.1 s.2) (0,x)=some (c.Patch.Hunks.foldl hd x):=by
  obtain ⟨hn,hh⟩:=hunks_ok hc
  obtain ⟨r,hr,rfl⟩:=La (f:=fun s:Int×Int=>A1.l2 c s.1 s.2) c.Patch.Hunks.length (fun k y=>y=(c.Patch.Hunks.take k).foldl hd x) (fun r=>r=c.Patch.Hunks.foldl hd x)
    (by
      rintro k y hk rfl;have hy:=hds_dig (c.Patch.Hunks.take k) x hx fun s hs=>hh s (List.mem_of_mem_take hs);refine ⟨_,?_,rfl⟩;rw [List.take_succ_eq_append_getElem hk,List.foldl_append];generalize (c.Patch.Hunks.take k).foldl hd x=y at hy ⊢;have ho:=hh _ (List.getElem_mem hk);have d1:=ds_ok ho.old;have d2:=ds_ok ho.new;have p1:=Qc hy ho.at0;have p2:=Qc p1.2.2.1 d1.2.1;have p3:=Qc p2.2.2.1 d2.2.1;unfold A1.l2;rw [Bc,if_pos (by omega),Dr hk,Option.bind_some,d1.2.2.1,Option.bind_some,d2.2.2.1,Option.bind_some,p1.2.2.2,Option.bind_some,p2.2.2.2,Option.bind_some,p3.2.2.2,Option.bind_some,Cz (by omega) (by omega),Option.bind_some];rfl)
    (by
      rintro y rfl;unfold A1.l2;rw [Bc,if_neg (by omega),List.take_length]
      exact ⟨_,rfl,rfl⟩) x rfl
  exact hr
theorem RPatchDigest_f {p:List TreeChange} (h:(pcF p).Code=0):A1 ⟨p⟩=some (pd p):=by
  obtain ⟨hl,hp⟩:=(N1 p).1 h;unfold A1
  obtain ⟨r,hr,rfl⟩:=La (f:=fun s:Int×Int=>A1.l1 ⟨p⟩ s.1 s.2) p.length (fun k y=>y=(p.take k).foldl cd 3) (fun r=>r=pd p)
    (by
      rintro k y hk rfl;have hy:=cds_dig (p.take k) 3 dig3 fun s hs=>hp s (List.mem_of_mem_take hs);refine ⟨_,?_,rfl⟩;rw [List.take_succ_eq_append_getElem hk,List.foldl_append];generalize (p.take k).foldl cd 3=y at hy ⊢;have hc:=hp _ (List.getElem_mem hk);have hcl:=ds_ok ((G6 _).2 ((Ec _).2 hc.lines));have hq:=hc.kind;have p1:=Qc hy (Hi (x:=p[k].Kind) (by omega) (by omega))
      have g1:=dg_ok (ch_len hc).1;have g2:=dg_ok (ch_len hc).2;have p2:=Qc p1.2.2.1 g1.2.1;have p3:=Qc p2.2.2.1 g2.2.1;have p4:=Qc p3.2.2.1 hcl.2.1;unfold A1.l1;simp only;rw [Bc,if_pos (by omega),Dr hk,Option.bind_some,hcl.2.2.1,Option.bind_some,p1.2.2.2,Option.bind_some]
      unfold A1.j3;rw [g1.2.2,Option.bind_some,p2.2.2.2,Option.bind_some,g2.2.2,Option.bind_some,p3.2.2.2,Option.bind_some,p4.2.2.2,Option.bind_some,rhloop_f hc p4.2.2.1,Option.bind_some];unfold A1.j4 A1.j2;rw [Cz (by omega) (by omega),Option.bind_some];rfl)
    (by
      rintro y rfl;unfold A1.l1;simp only;rw [Bc,if_neg (by omega),List.take_length]
      exact ⟨_,rfl,rfl⟩) 3 rfl
  rw [hr,Option.bind_some];rfl
def Mi (k:Int):Prop:=1≤k∧k≤1000000000
instance (k:Int):Decidable (Mi k):=inferInstanceAs (Decidable (_∧_))
theorem isKey_f (k:Int):Kq k=some (decide (Mi k)):=by
  unfold Kq Mi;rw [Bc];by_cases h:k ≥ 1
  · rw [if_pos h,Option.bind_some];exact congrArg some (decide_eq_decide.2 ⟨fun h2=>⟨h,h2⟩,fun h2=>h2.2⟩)
  · rw [if_neg h,Option.bind_some];exact congrArg some (decide_eq_false fun h2=>h h2.1).symm
theorem isDig_f {a:Int} (h:Dig a):H2 a=some true:=by
  obtain ⟨h1,h2⟩:=h;unfold H2;rw [Bc,if_pos h1,Option.bind_some,decide_eq_true h2]
def sg (key:Int) (d:List UInt8):Int:=pr key (dg d)
theorem sign_f {key:Int} {d:List UInt8} (hk:Mi key) (hd:d.length≤4096):L9 key d=some (sg key d,⟨0,0⟩)∧Dig (sg key d):=by
  obtain ⟨d1,d2,_⟩:=dg_ok hd;have p:=Qc (Hi (x:=key) (by have:=hk.1;omega) (by have:=hk.2;omega)) d2
  refine ⟨?_,p.2.2.1⟩;unfold L9;rw [isKey_f,Option.bind_some,decide_eq_true hk,if_neg (by decide),d1,Option.bind_some]
  simp only [decide_true,Bool.and_self,Bool.not_true,Bool.false_eq_true,if_false];rw [p.1,Option.bind_some];rfl
theorem verify_f {key s:Int} {d:List UInt8} (hk:Mi key) (hd:d.length≤4096) (hs:Dig s):L2 key d s=some (decide (sg key d=s),⟨0,0⟩):=by
  unfold L2;rw [(sign_f hk hd).1,Option.bind_some];simp only [decide_true,Bool.and_self,Bool.not_true,Bool.false_eq_true,if_false];rw [isDig_f hs,Option.bind_some,if_neg (by decide)]
theorem big_f {n:Int} (h:Dig n):∃ b,Ey n=some b∧b.length=8:=by
  obtain ⟨h0,h1⟩:=h;unfold Ey
  have hz:∀ k:Int,0≤k→k≤56→∃ z,shr? .i64 n k=some z:=by
    intro k hk hk2;unfold shr?;rw [if_neg (by omega)]
    exact ⟨_,rfl⟩
  obtain ⟨r,hr,hq⟩:=Nr (m:=fun s:Int×List UInt8=>Ey.l1 n s.1 s.2) (fun s=>∃ j:Nat,j≤8∧s.1=56 - 8 * (j:Int)∧s.2.length=j) (fun s=>(s.1+8).toNat) (fun r=>r.length=8) (by
    rintro ⟨x,l⟩ ⟨j,hj,hx,hl⟩;simp only at hx hl ⊢;subst hx;unfold Ey.l1;rw [Bc];by_cases h8:j=8
    · right;rw [if_neg (by omega)]
      exact ⟨_,rfl,by omega⟩
    · left;obtain ⟨z,hz⟩:=hz (56 - 8 * (j:Int)) (by omega) (by omega)
      rw [if_pos (by omega),hz,Option.bind_some,Option.bind_some,Lm (by rw [List.length_singleton];omega),Option.bind_some,Cz (by omega) (by omega),Option.bind_some]
      exact ⟨_,rfl,⟨j+1,by omega,by simp only;omega,by simp [hl]⟩,by simp only;omega⟩) (56,[]) ⟨0,by omega,by simp,rfl⟩
  rw [hr,Option.bind_some];exact ⟨r,rfl,hq⟩
theorem message_f {l:List Int} (hl:l.length≤64) (hd:∀ x∈l,Dig x):∃ d,Dv l=some (d,⟨0,0⟩)∧d.length=8 * l.length:=by
  unfold Dv;rw [Bc,if_neg (by omega)]
  obtain ⟨r,hr,d,rfl,hq⟩:=La (f:=fun s:Int×List UInt8=>Dv.l1 l s.1 s.2) l.length (fun k y=>y.length=8 * k) (fun r=>∃ d,r=.inr d∧d.length=8 * l.length)
    (by
      intro k y hk hy;obtain ⟨b,hb,hb8⟩:=big_f (hd _ (List.getElem_mem hk));show ∃ s',Dv.l1 l (k:Int) y=some (.next (((k+1:Nat):Int),s'))∧s'.length=8 * (k+1)
      unfold Dv.l1;rw [Bc,if_pos (by omega),Dr hk,Option.bind_some,isDig_f (hd _ (List.getElem_mem hk)),Option.bind_some,if_neg (by decide),hb,Option.bind_some,Lm (by omega),Option.bind_some,Cz (by omega) (by omega),Option.bind_some]
      exact ⟨_,rfl,by rw [List.length_append,hy,hb8];omega⟩)
    (by
      intro y hy;unfold Dv.l1;rw [Bc,if_neg (by omega)]
      exact ⟨_,rfl,_,rfl,hy⟩) [] rfl
  rw [hr,Option.bind_some];exact ⟨d,rfl,hq⟩
def md (m:Message_forge):List UInt8:=(Ep m).getD []
structure MsgOk (m:Message_forge):Prop where
  user:Dig m.user
  number:Dig m.number
  base:Dig m.base
theorem pdT_dig (p:List TreeChange):Dig (pdT p).1:=by
  unfold pdT;split
  · exact (Hi (by decide) (by decide):Dig 0)
  · next h=>exact pd_dig ((N1 p).1 (by simpa using h)).2
theorem md_f {m:Message_forge} (h:MsgOk m):Ep m=some (md m)∧(md m).length=32:=by
  have e:∃ d,Ep m=some d∧d.length=32:=by
    unfold Ep;rw [Q3,Option.bind_some]
    obtain ⟨d,h1,h2⟩:=message_f (l:=[m.user,m.number,m.base,(pdT m.patch.Changes).1]) (by simp) (by
      intro x hx;simp only [List.mem_cons,List.not_mem_nil,or_false] at hx;rcases hx with rfl | rfl | rfl | rfl
      · exact h.user
      · exact h.number
      · exact h.base
      · exact pdT_dig _)
    rw [h1,Option.bind_some];exact ⟨d,rfl,h2⟩
  obtain ⟨d,h1,h2⟩:=e;have:md m=d:=by unfold md;rw [h1];rfl
  rw [this];exact ⟨h1,h2⟩
end Go.Dc
set_option linter.unusedSimpArgs false
set_option linter.unusedVariables false
set_option maxRecDepth 4000
namespace Go.Dc
open Go
def Net (e:ForgeEvent):Prop:=e.Kind=4∨e.Kind=5∨e.Kind=6∨e.Kind=7
instance (e:ForgeEvent):Decidable (Net e):=inferInstanceAs (Decidable (_∨_))
def evD (n:Int) (e:ForgeEvent):Int:=if e.User < 0∨e.User ≥ n∨(e.Kind=3∧¬ Mi e.Key) then 3 else if e.Kind=2 then (pcF e.Patch.Changes).Code else 0
def evN (e:ForgeEvent):Int:=if e.N < 0∨e.N > 1000000000 then 3 else 0
def evC (n:Int) (e:ForgeEvent):Int :=
  if Net e then evN e
  else if e.Kind=1∨e.Kind=2∨e.Kind=3∨e.Kind=8 then
    evD n e
  else 4
theorem ce2 (e:ForgeEvent) (n:Int) (b:Bool):Cs.j2 e n b=some (if b=true then evD n e else 4):=by
  unfold Cs.j2 evD;cases b
  · rw [if_neg Bool.false_ne_true,if_neg Bool.false_ne_true]
  rw [if_pos rfl,if_pos rfl];simp only [Bc,isKey_f,VPatch_f,Option.bind_some];by_cases h1:e.User < 0
  · rw [if_pos h1,Option.bind_some,if_pos rfl,Option.bind_some,if_pos rfl,if_pos (.inl h1)]
  rw [if_neg h1,Option.bind_some];simp only [Bc];by_cases h2:e.User ≥ n
  · rw [if_pos h2,Option.bind_some,if_pos rfl,if_pos (.inr (.inl h2))]
  rw [if_neg h2];by_cases h3:e.Kind=3
  · rw [if_pos h3,Option.bind_some,Option.bind_some];by_cases h4:Mi e.Key
    · have hP:¬ (e.User < 0∨e.User ≥ n∨(e.Kind=3∧¬ Mi e.Key)):=by rintro (h | h | h);exact h1 h;exact h2 h;exact h.2 h4
      rw [decide_eq_true h4,if_neg (by decide),if_neg hP]
      split <;> rfl
    · rw [decide_eq_false h4,if_pos (by decide),if_pos (.inr (.inr ⟨h3,h4⟩))]
  · have hP:¬ (e.User < 0∨e.User ≥ n∨(e.Kind=3∧¬ Mi e.Key)):=by rintro (h | h | h);exact h1 h;exact h2 h;exact h3 h.1
    rw [if_neg h3,Option.bind_some,Option.bind_some,if_neg Bool.false_ne_true,if_neg hP];split <;> rfl
theorem checkEvent_f (e:ForgeEvent) (n:Int):Cs e n=some (evC n e):=by
  have j1t:Cs.j1 e n true=some (evN e):=by
    unfold Cs.j1 evN;rw [if_pos rfl];by_cases h1:e.N < 0
    · rw [decide_eq_true h1,if_pos rfl,Option.bind_some,if_pos rfl,if_pos (.inl h1)]
    · rw [decide_eq_false h1,if_neg Bool.false_ne_true,Option.bind_some,Bc];by_cases h2:e.N > 1000000000
      · rw [if_pos h2,if_pos (.inr h2)]
      · rw [if_neg h2,if_neg (by omega)]
  have j1f:Cs.j1 e n false=some (if e.Kind=1∨e.Kind=2∨e.Kind=3∨e.Kind=8 then
    evD n e
  else 4):=by
    unfold Cs.j1;rw [if_neg Bool.false_ne_true];simp only [ce2,Bc];by_cases h1:e.Kind=1
    · rw [if_pos h1,if_pos h1,if_pos (.inl h1)]
    rw [if_neg h1];by_cases h2:e.Kind=2
    · rw [if_pos h2,if_pos h2,if_pos (.inr (.inl h2))]
    rw [if_neg h2];by_cases h3:e.Kind=3
    · rw [if_pos h3,if_pos h3,if_pos (.inr (.inr (.inl h3)))]
    rw [if_neg h3];by_cases h8:e.Kind=8
    · rw [if_pos h8,if_pos (.inr (.inr (.inr h8)))]
    · rw [if_neg h8,if_neg (by omega)]
  unfold Cs evC;simp only [Bc];by_cases h4:e.Kind=4
  · rw [if_pos h4,decide_eq_true h4,j1t,if_pos (show Net e from .inl h4)]
  rw [if_neg h4];by_cases h5:e.Kind=5
  · rw [if_pos h5,decide_eq_true h5,j1t,if_pos (show Net e from .inr (.inl h5))]
  rw [if_neg h5];by_cases h6:e.Kind=6
  · rw [if_pos h6,decide_eq_true h6,j1t,if_pos (show Net e from .inr (.inr (.inl h6)))]
  rw [if_neg h6];by_cases h7:e.Kind=7
  · rw [decide_eq_true h7,j1t,if_pos (show Net e from .inr (.inr (.inr h7)))]
  · rw [decide_eq_false h7,j1f,if_neg (show ¬ Net e by rintro (h | h | h | h) <;> contradiction)]
def evG (n:Int) (k:Nat) (e:ForgeEvent):Option Fault:=if evC n e≠0 then some ⟨evC n e,k⟩ else Option.none
def kyG (k:Nat) (x:Int):Option Fault:=if Mi x then Option.none else some ⟨3,-3 - (k:Int)⟩
def fvF (keys:List Int) (events:List ForgeEvent):Fault :=
  if keys.length=0∨keys.length > 4 then ⟨9,-2⟩ else match Gp kyG 0 keys with
  | some f=>f
  | Option.none=>if events.length > 40 then ⟨2,-1⟩ else (Gp (evG keys.length) 0 events).getD ⟨0,0⟩
theorem FValidate_f (keys:List Int) (events:List ForgeEvent):Cm keys events=some (fvF keys events):=by
  unfold Cm fvF
  have e1:(if decide ((keys.length:Int)=0)=true then some true else some (decide ((keys.length:Int) > 4)))=some (decide (keys.length=0∨keys.length > 4)):=by
    rw [Bc];split
    · rw [decide_eq_true (by omega)]
    · exact congrArg some (decide_eq_decide.2 (by omega))
  rw [e1,Option.bind_some,Bc];by_cases hk:keys.length=0∨keys.length > 4
  · rw [if_pos hk,if_pos hk]
  rw [if_neg hk,if_neg hk,scan0 keys kyG ?_ ?_,Option.bind_some]
  · cases hs:Gp kyG 0 keys with
    | some f=>rfl
    | none =>
      show Cm.j1 keys events=_;unfold Cm.j1;simp only;rw [Bc];by_cases h40:events.length > 40
      · rw [if_pos (by omega),if_pos h40]
      rw [if_neg (by omega),if_neg h40,scan0 events (evG keys.length) ?_ ?_,Option.bind_some]
      · cases Gp (evG keys.length) 0 events <;> rfl
      · intro k hk _;unfold Cm.l1 evG;rw [Bc,if_pos (by omega),Dr hk,Option.bind_some,checkEvent_f,Option.bind_some]
        by_cases hc:evC keys.length events[k]=0
        · rw [decide_eq_true hc,if_neg (by decide),if_neg (fun hn=>hn hc),Cz (by omega) (by omega)];rfl
        · rw [decide_eq_false hc,if_pos (show (!false)=true from rfl),if_pos hc]
      · unfold Cm.l1;rw [Bc,if_neg (by omega)]
  · intro k hk2 _;unfold Cm.l2 kyG;rw [Bc,if_pos (by omega),Dr hk2,Option.bind_some,isKey_f,Option.bind_some]
    by_cases hc:Mi keys[k]
    · rw [decide_eq_true hc,if_neg (by decide),if_pos hc,Cz (by omega) (by omega)];rfl
    · rw [decide_eq_false hc,if_pos (show (!false)=true from rfl),if_neg hc,Cz (by omega) (by omega)];rfl
  · unfold Cm.l2;rw [Bc,if_neg (by omega)]
theorem fvF_ok (keys:List Int) (events:List ForgeEvent):fvF keys events=⟨0,0⟩∨(fvF keys events).Code≠0:=by
  unfold fvF;split
  · right;decide
  · cases hs:Gp kyG 0 keys with
    | some f =>
      right;obtain ⟨j,hj,e⟩:=Kp hs;unfold kyG at e;split at e
      · cases e
      · cases e;simp
    | none =>
      simp only;split
      · right;decide
      · cases h:Gp (evG keys.length) 0 events with
        | none=>left;rfl
        | some y =>
          right;obtain ⟨j,hj,e⟩:=Kp h;unfold evG at e;split at e
          · rename_i hc;cases e;exact hc
          · cases e
theorem fvF_zero (keys:List Int) (events:List ForgeEvent):(fvF keys events).Code=0↔(1≤keys.length∧keys.length≤4∧∀ k∈keys,Mi k)∧events.length≤40∧∀ e∈events,evC keys.length e=0:=by
  unfold fvF;by_cases hk:keys.length=0∨keys.length > 4
  · rw [if_pos hk];exact ⟨fun h=>by simp at h,fun h=>by omega⟩
  rw [if_neg hk];cases hs:Gp kyG 0 keys with
  | some f =>
    obtain ⟨j,hj,e⟩:=Kp hs;unfold kyG at e;split at e
    · cases e
    · rename_i hc
      cases e;exact ⟨fun h=>by simp at h,fun h=>absurd (h.1.2.2 _ (List.getElem_mem hj)) hc⟩
  | none =>
    have hall:∀ k∈keys,Mi k:=by
      intro x hx;obtain ⟨j,hj,rfl⟩:=List.getElem_of_mem hx;have:=Mx.1 hs j hj;unfold kyG at this;split at this
      · assumption
      · cases this
    simp only;by_cases h40:events.length > 40
    · rw [if_pos h40];exact ⟨fun h=>by simp at h,fun h=>by omega⟩
    rw [if_neg h40];cases h:Gp (evG keys.length) 0 events with
    | some y =>
      obtain ⟨j,hj,e⟩:=Kp h;unfold evG at e;split at e
      · rename_i hc
        cases e;exact ⟨fun h=>absurd h hc,fun h=>absurd (h.2.2 _ (List.getElem_mem hj)) hc⟩
      · cases e
    | none =>
      refine ⟨fun _=>⟨⟨by omega,by omega,hall⟩,by omega,fun e he=>?_⟩,fun _=>rfl⟩
      obtain ⟨j,hj,rfl⟩:=List.getElem_of_mem he;have:=Mx.1 h j hj;unfold evG at this;split at this
      · cases this
      · rename_i hc;exact Classical.not_not.1 hc
noncomputable def Nh (s:State_forge) (e:ForgeEvent):Option (Int×State_forge):=if Net e then Dp s e else Ca s e
noncomputable def runs:State_forge→List Int→List ForgeEvent→Option (State_forge×List Int)
  | s,out,[]=>some (s,out)
  | s,out,e::r=>(Nh s e).bind fun y=>runs y.2 (out++[y.1]) r
theorem Tb {s s':State_forge} {out:List Int} {e:ForgeEvent} {r:List ForgeEvent} {c:Int} (h:Nh s e=some (c,s')):runs s out (e::r)=runs s' (out++[c]) r:=by
  rw [runs,h,Option.bind_some]
theorem play_loop (keys:List Int) (events:List ForgeEvent) (hl:events.length≤1000):∀ (rest:List ForgeEvent) (k:Nat) (out:List Int) (s s':State_forge) (out':List Int),events.drop k=rest→k≤events.length→out.length=k →
    runs s out rest=some (s',out') →
    D2 (fun s=>D4.l1 keys events s.1 s.2.1 s.2.2.1 s.2.2.2.1 s.2.2.2.2.1 s.2.2.2.2.2.1 s.2.2.2.2.2.2) ((k:Int),out,s.keys,s.versions,s.developers,s.flight,s.log)=some (out',s'.keys,s'.versions,s'.developers,s'.flight,s'.log):=by
  intro rest
  induction rest with
  | nil =>
    intro k out s s' out' hk hkl ho hr;have:=Ki hk;rw [runs] at hr;cases hr;refine Cb ?_;unfold D4.l1;simp only;rw [Bc,if_neg (by omega)]
  | cons e r ih =>
    intro k out s s' out' hk hkl ho hr;obtain ⟨hlt,hx,hr'⟩:=Lp hk;rw [runs] at hr;cases he:Nh s e with
    | none=>rw [he] at hr;cases hr
    | some y =>
      obtain ⟨c,t⟩:=y;rw [he,Option.bind_some] at hr;simp only at hr
      have key:D4.l1 keys events (k:Int) out s.keys s.versions s.developers s.flight s.log=some (.next (((k+1:Nat):Int),out++[c],t.keys,t.versions,t.developers,t.flight,t.log)):=by
        have j2:∀ b:Bool,b=decide (Net e)→D4.j2 keys (k:Int) out s.keys s.versions s.developers s.flight s.log e b=some (.next (((k+1:Nat):Int),out++[c],t.keys,t.versions,t.developers,t.flight,t.log)):=by
          rintro b rfl;unfold D4.j2;unfold Nh at he;rw [Bc];by_cases hn:Net e
          · rw [if_pos hn] at he ⊢;rw [show ({ keys:=s.keys,versions:=s.versions,developers:=s.developers,flight:=s.flight,log:=s.log }:State_forge)=s from rfl,he,Option.bind_some,Lm (by rw [List.length_singleton];omega),Option.bind_some,Cz (by omega) (by omega),Option.bind_some];rfl
          · rw [if_neg hn] at he ⊢;rw [show ({ keys:=s.keys,versions:=s.versions,developers:=s.developers,flight:=s.flight,log:=s.log }:State_forge)=s from rfl,he,Option.bind_some,Lm (by rw [List.length_singleton];omega),Option.bind_some,Cz (by omega) (by omega),Option.bind_some];rfl
        unfold D4.l1;rw [Bc,if_pos (by omega),Dr hlt,Option.bind_some,hx]
        simp only [Bc];by_cases h4:e.Kind=4
        · rw [if_pos h4];exact j2 _ (decide_eq_decide.2 ⟨fun h=>.inl h,fun _=>h4⟩)
        rw [if_neg h4];by_cases h5:e.Kind=5
        · rw [if_pos h5];exact j2 _ (decide_eq_decide.2 ⟨fun h=>.inr (.inl h),fun _=>h5⟩)
        rw [if_neg h5];by_cases h6:e.Kind=6
        · rw [if_pos h6];exact j2 _ (decide_eq_decide.2 ⟨fun h=>.inr (.inr (.inl h)),fun _=>h6⟩)
        rw [if_neg h6];exact j2 _ (decide_eq_decide.2 ⟨fun h=>.inr (.inr (.inr h)),fun h=>by rcases h with h | h | h | h;exact absurd h h4;exact absurd h h5;exact absurd h h6;exact h⟩)
      rw [Cx (m:=fun s:Int×List Int×List Int×List FileTree×List Developer_forge×List Message_forge×List ForgeEntry=>D4.l1 keys events s.1 s.2.1 s.2.2.1 s.2.2.2.1 s.2.2.2.2.1 s.2.2.2.2.2.1 s.2.2.2.2.2.2) key];exact ih (k+1) _ t s' out' hr' (by omega) (by rw [List.length_append,ho];rfl) hr
def st0 (keys:List Int):State_forge:=⟨keys,[⟨[]⟩],List.replicate keys.length ⟨⟨[]⟩,0,0,0⟩,[],[]⟩
theorem play_f {keys:List Int} {events:List ForgeEvent} {s:State_forge} {out:List Int} (hv:(fvF keys events).Code=0) (hr:runs (st0 keys) [] events=some (s,out)):D4 keys events=some (.inr (s,out)):=by
  have hz:=(fvF_zero keys events).1 hv;unfold D4;rw [FValidate_f,Option.bind_some];rcases fvF_ok keys events with h | h
  · rw [h];simp only [decide_true,Bool.and_self,Bool.not_true,Bool.false_eq_true,if_false];rw [mk_eq (by omega) (by omega),Option.bind_some,Int.toNat_natCast]
    have:=play_loop keys events (by omega) events 0 [] (st0 keys) s out rfl (Nat.zero_le _) rfl hr
    rw [show ((0:Nat):Int)=0 from rfl] at this;unfold st0 at this;simp only at this;rw [this,Option.bind_some];rfl
  · exact absurd hv h
theorem newest_f {s:State_forge} {v:List FileTree} {t:FileTree} (h:s.versions=v++[t]) (hl:v.length≤100000):Ez s=some t:=by
  unfold Ez;rw [h,List.length_append,List.length_singleton,Cz (by omega) (by omega),Option.bind_some]
  rw [show ((v.length+1:Nat):Int) - 1=(v.length:Int) by omega,Dr (by simp),Option.bind_some]
  simp
theorem Run_f {keys:List Int} {events:List ForgeEvent} {s:State_forge} {out:List Int} {v:List FileTree} {t:List File} (hv:(fvF keys events).Code=0) (hr:runs (st0 keys) [] events=some (s,out))
    (h:s.versions=v++[⟨t⟩]) (hl:v.length≤100000) (ht:TrOk t):O2 keys events=some (⟨t⟩,s.log,out,⟨0,0⟩):=by
  unfold O2;rw [play_f hv hr,Option.bind_some];simp only;rw [newest_f h hl,Option.bind_some,copyT_f (fun f hf=>by have:=ht.text_len hf;omega) (by have:=ht.len;omega),Option.bind_some]
end Go.Dc
set_option linter.unusedSimpArgs false
set_option linter.unusedVariables false
set_option maxRecDepth 4000
noncomputable section
namespace Go.Dc
open Go
abbrev OT:=Option (List ByteArray)
def ver:OT→Version_treecommute
  | Option.none=>⟨false,[]⟩
  | some l=>⟨true,l⟩
def OkO (o:OT):Prop:=∀ l,o=some l→K8 l
def lk (l:List File) (p:ByteArray):OT:=if Gy l p=true then (l[E0 l p]?).map (·.Lines) else Option.none
theorem lk_some {l:List File} (h:Hg l) {p:ByteArray} {L:List ByteArray}:lk l p=some L↔(⟨p,L⟩:File)∈l:=by
  unfold lk;constructor
  · intro e;by_cases hh:Gy l p=true
    · rw [if_pos hh] at e;obtain ⟨hp,e2⟩:=has_pos h hh;rw [List.getElem?_eq_getElem hp,Option.map_some] at e;have e3:=Option.some.inj e;have hm:=List.getElem_mem hp
      have:l[E0 l p]=⟨p,L⟩:=by
        generalize l[E0 l p]=f at e2 e3;obtain ⟨a,b⟩:=f;simp only at e2 e3;rw [e2,e3]
      rw [this] at hm;exact hm
    · rw [if_neg hh] at e;cases e
  · intro hm;obtain ⟨hp,h1,h2⟩:=mem_has h hm;rw [if_pos h1,List.getElem?_eq_getElem hp,h2];rfl
theorem lk_none {l:List File} (h:Hg l) {p:ByteArray}:lk l p=Option.none↔Gy l p=false:=by
  unfold lk;cases hh:Gy l p
  · simp
  · rw [if_pos rfl];obtain ⟨hp,_⟩:=has_pos h hh;rw [List.getElem?_eq_getElem hp];simp
theorem N6 {l:List File} {p:ByteArray}:Gy l p=true↔∃ f∈l,f.Path=p:=by
  unfold Gy;rw [List.any_eq_true];exact ⟨fun ⟨f,h1,h2⟩=>⟨f,h1,by simpa using h2⟩,fun ⟨f,h1,h2⟩=>⟨f,h1,by simpa using h2⟩⟩
theorem lk_ok {l:List File} (h:TrOk l) (p:ByteArray):OkO (lk l p):=fun L e=>h.text _ ((lk_some h.srt).1 e)
theorem tcfind_f {l:List File} (h:TrOk l) (p:ByteArray):Gt ⟨l⟩ p=some (ver (lk l p)):=by
  have hl:=h.len;unfold Gt lk;rw [Find_f h.srt (by omega),Option.bind_some]
  simp only;cases hh:Gy l p
  · rfl
  · obtain ⟨hp,_⟩:=has_pos h.srt hh;rw [if_neg (by decide),Dr hp,Option.bind_some,if_pos rfl,List.getElem?_eq_getElem hp];rfl
theorem same_f {a b:OT} (ha:OkO a) (hb:OkO b):Ha (ver a) (ver b)=some (decide (a=b)):=by
  unfold Ha;cases a with
  | none =>
    cases b with
    | none =>
      have e:=sequal_f [] [] (by simp)
      simp [ver,e]
    | some y=>simp [ver]
  | some x =>
    cases b with
    | none=>simp [ver]
    | some y =>
      have:=(ha x rfl).1;have e:=sequal_f x y (by omega)
      simp [ver,e]
def mgO (b l r:OT):OT×Bool :=
  if r=b∨r=l then (l,true) else if l=b then (r,true) else (l,false)
theorem merged_f {b l r:OT} (hb:b=Option.none) (hl:OkO l) (hr:OkO r):Ej (ver b) (ver l) (ver r)=some (ver (mgO b l r).1,(mgO b l r).2)∧OkO (mgO b l r).1:=by
  subst hb;have hb:OkO Option.none:=fun L h=>by cases h
  unfold Ej mgO;rw [same_f hr hb,Option.bind_some,same_f hr hl,Option.bind_some];have e1:(if decide (r=Option.none)=true then some true else some (decide (r=l)))=some (decide (r=Option.none∨r=l)):=by by_cases h:r=Option.none <;> simp [h]
  rw [e1,Option.bind_some,Bc];by_cases h1:r=Option.none∨r=l
  · rw [if_pos h1,if_pos h1];exact ⟨rfl,hl⟩
  rw [if_neg h1,if_neg h1,same_f hl hb,Option.bind_some,Bc];by_cases h2:l=Option.none
  · rw [if_pos h2,if_pos h2];exact ⟨rfl,hr⟩
  rw [if_neg h2,if_neg h2];exact ⟨rfl,hl⟩
def lastF (p:TreePatch) (path:ByteArray):Int:=(H0 p path).getD (-1)
def Er (l:List File):List ByteArray:=l.map (·.Path)
theorem prow_f (t:FileTree) (hl:t.Files.length≤1000) (acc:List ByteArray) (ha:acc.length≤10000) :
    D2 (fun s=>Bq.l2 t s.1 s.2) (0,acc)=some (acc++Er t.Files):=by
  obtain ⟨r,e,rfl⟩:=La (f:=fun s=>Bq.l2 t s.1 s.2) t.Files.length (fun k x=>x=acc++Er (t.Files.take k)) (fun x=>x=acc++Er t.Files) (by
    rintro k x hk rfl;unfold Bq.l2;simp only;have hlen:(Er (t.Files.take k)).length=k:=by unfold Er;rw [List.length_map,List.length_take];omega
    refine ⟨_,?_,rfl⟩;rw [Bc,if_pos (by omega),Dr hk,Option.bind_some,Lm (by simp only [List.length_append,hlen,List.length_singleton];omega),Option.bind_some,Cz (by omega) (by omega),Option.bind_some]
    unfold Er;rw [List.take_succ_eq_append_getElem hk,List.map_append,List.append_assoc];rfl) (by
    rintro x rfl;unfold Bq.l2;simp only;rw [Bc,if_neg (by omega),List.take_length]
    exact ⟨_,rfl,rfl⟩) acc (by simp [Er])
  exact e
theorem all_f3 {a b c:FileTree} (ha:a.Files.length≤24) (hb:b.Files.length≤24) (hc:c.Files.length≤24):Bq [a,b,c]=some (ksort (Er a.Files++Er b.Files++Er c.Files)):=by
  have la:(Er a.Files).length≤24:=by unfold Er;rw [List.length_map];exact ha
  have lb:(Er b.Files).length≤24:=by unfold Er;rw [List.length_map];exact hb
  have lc:(Er c.Files).length≤24:=by unfold Er;rw [List.length_map];exact hc
  have st:∀ (j:Nat) (t:FileTree) (acc:List ByteArray),j < 3→[a,b,c][j]? = some t→t.Files.length≤24→acc.length≤100→Bq.l1 [a,b,c] (j:Int) acc=some (.next ((j:Int)+1,acc++Er t.Files)):=by
    intro j t acc hj ht hl hacc;unfold Bq.l1;rw [Bc,if_pos (by simp;omega),show at? [a,b,c] (j:Int)=some t from by unfold at?;rw [if_pos (by omega)];simpa using ht,Option.bind_some,prow_f _ (by omega) _ (by omega),Option.bind_some]
    unfold Bq.j3 Bq.j2;rw [Cz (by omega) (by omega),Option.bind_some]
  have s0:=st 0 a [] (by omega) rfl ha (by simp)
  have s1:=st 1 b (Er a.Files) (by omega) rfl hb (by omega)
  have s2:=st 2 c (Er a.Files++Er b.Files) (by omega) rfl hc (by rw [List.length_append];omega)
  rw [show ((0:Nat):Int)=0 from rfl,show (0:Int)+1=1 from rfl,List.nil_append] at s0;rw [show ((1:Nat):Int)=1 from rfl,show (1:Int)+1=2 from rfl] at s1;rw [show ((2:Nat):Int)=2 from rfl,show (2:Int)+1=3 from rfl] at s2;have s3:∀ x,Bq.l1 [a,b,c] 3 x=some (.done x):=by intro x;unfold Bq.l1;rw [Bc,if_neg (by simp)]
  unfold Bq
  rw [Cx (m:=fun s:Int×List ByteArray=>Bq.l1 [a,b,c] s.1 s.2) s0,Cx (m:=fun s:Int×List ByteArray=>Bq.l1 [a,b,c] s.1 s.2) s1,Cx (m:=fun s:Int×List ByteArray=>Bq.l1 [a,b,c] s.1 s.2) s2,
    Cb (m:=fun s:Int×List ByteArray=>Bq.l1 [a,b,c] s.1 s.2) (s3 _),Option.bind_some]
  unfold Bq.j1;have hl3:(Er a.Files++Er b.Files++Er c.Files).length≤72:=by rw [List.length_append,List.length_append];omega
  have hs:sortS? (Er a.Files++Er b.Files++Er c.Files)=some (Oo (Er a.Files++Er b.Files++Er c.Files)):=by
    unfold sortS?;rw [if_pos (by omega)]
  rw [hs,Option.bind_some,scompact_f (by rw [(sortS_perm _).length_eq];omega),Option.bind_some];rfl
theorem pathsL_mem {l:List File} {p:ByteArray}:p∈Er l↔Gy l p=true:=by
  rw [N6];unfold Er;rw [List.mem_map]
section
variable (B L R : List File)
def vF (p:ByteArray):OT×Bool:=mgO (lk B p) (lk L p) (lk R p)
def outO (p:ByteArray):Option File:=match (vF B L R p).1,lk L p with
  | some v,some _=>some ⟨p,v⟩
  | _,_=>Option.none
def Qp (p:ByteArray):Option File:=match (vF B L R p).1,lk L p with
  | some v,Option.none=>some ⟨p,v⟩
  | _,_=>Option.none
def fstO (left right:TreePatch) (p:ByteArray):Option Arr2_Int:=if (vF B L R p).2=true then Option.none else some ⟨lastF left p,lastF right p⟩
end
theorem fm_snoc {α β:Type} (f:α→Option β) (l:List α) (x:α):(l++[x]).filterMap f=l.filterMap f++(f x).toList:=by
  rw [List.filterMap_append];cases h:f x <;> simp [List.filterMap,h]
theorem fm_path {f:ByteArray→Option File} (hf:∀ p x,f p=some x→x.Path=p):∀ {l:List ByteArray},SAsc l→Hg (l.filterMap f)
  | [],_=>List.Pairwise.nil
  | p::l,h=>by
    have h1:l.Pairwise fun x y=>sLt x y=true:=(List.pairwise_cons.1 h).2;have ih:=fm_path hf (l:=l) h1;cases e:f p with
    | none=>rw [List.filterMap_cons_none e];exact ih
    | some x =>
      rw [List.filterMap_cons_some e];refine List.pairwise_cons.2 ⟨fun y hy=>?_,ih⟩;obtain ⟨q,hq,hqy⟩:=List.mem_filterMap.1 hy;rw [hf p x e,hf q y hqy];exact (List.pairwise_cons.1 h).1 q hq
theorem outO_path (B L R:List File):∀ p x,outO B L R p=some x→x.Path=p:=by
  intro p x h;unfold outO at h;split at h
  · cases h;rfl
  · cases h
theorem Tn (B L R:List File):∀ p x,Qp B L R p=some x→x.Path=p:=by
  intro p x h;unfold Qp at h;split at h
  · cases h;rfl
  · cases h
theorem put_end {l:List File} (h:Hg l) (hl:l.length≤1000) {p:ByteArray} (hp:∀ f∈l,sLt f.Path p=true) {t:List ByteArray} (ht:t.length≤1000000):Ei ⟨l⟩ p t=some ⟨l++[⟨p,t⟩]⟩:=by
  have hn:Gy l p=false:=by
    cases hh:Gy l p
    · rfl
    · obtain ⟨f,hf,e⟩:=N6.1 hh;have:=hp f hf;rw [e,Mq] at this;cases this
  rw [Put_f h hl hn ht,ins_end hp]
theorem lkn {B:List File} (h:B=[]) (p:ByteArray):lk B p=Option.none:=by subst h;rfl
theorem walk_f {B L R:List File} (hBn:B=[]) (hvt:∀ p,(vF B L R p).2=true) (hB:TrOk B) (hL:TrOk L) (hR:TrOk R) {left right:TreePatch} (hcl:∀ c∈left.Changes,OkCh c) (hll:left.Changes.length≤30) (hcr:∀ c∈right.Changes,OkCh c) (hrl:right.Changes.length≤30) {fl fr:Fault}
    {K:List ByteArray} (hK:SAsc K) (hKl:K.length≤100) (hKs:∀ p∈K,p.size≤60) :
    D2 (fun s=>Ay.l3 ⟨B⟩ left right (⟨L⟩,fl) (⟨R⟩,fr) K s.1 s.2.1 s.2.2.1 s.2.2.2) (0,[],[],[])=some (K.filterMap (fstO B L R left right),K.filterMap (Qp B L R),K.filterMap (outO B L R),R):=by
  obtain ⟨r,e,rfl⟩:=La (f:=fun s=>Ay.l3 ⟨B⟩ left right (⟨L⟩,fl) (⟨R⟩,fr) K s.1 s.2.1 s.2.2.1 s.2.2.2) K.length
    (fun k s=>s=((K.take k).filterMap (fstO B L R left right),(K.take k).filterMap (Qp B L R),(K.take k).filterMap (outO B L R)))
    (fun r=>r=(K.filterMap (fstO B L R left right),K.filterMap (Qp B L R),K.filterMap (outO B L R),R)) (by
    rintro k s hk rfl;have hsz:=hKs _ (List.getElem_mem hk);have hKt:SAsc (K.take k):=List.Pairwise.sublist (List.take_sublist _ _) hK
    have hlt:∀ q∈K.take k,sLt q K[k]=true:=by
      intro q hq;obtain ⟨j,hj,rfl⟩:=List.getElem_of_mem hq;rw [List.length_take] at hj;rw [List.getElem_take];exact (List.pairwise_iff_getElem.1 hK) j k (by omega) hk (by omega)
    have so:=fm_path (outO_path B L R) hKt;have sl:=fm_path (Tn B L R) hKt;have lo:((K.take k).filterMap (outO B L R)).length≤k:=Nat.le_trans (List.length_filterMap_le _ _) (by rw [List.length_take];omega)
    have ll:((K.take k).filterMap (Qp B L R)).length≤k:=Nat.le_trans (List.length_filterMap_le _ _) (by rw [List.length_take];omega)
    have lf:((K.take k).filterMap (fstO B L R left right)).length≤k:=Nat.le_trans (List.length_filterMap_le _ _) (by rw [List.length_take];omega)
    have po:∀ f∈(K.take k).filterMap (outO B L R),sLt f.Path K[k]=true:=by
      intro f hf;obtain ⟨q,hq,e⟩:=List.mem_filterMap.1 hf;rw [outO_path B L R q f e];exact hlt q hq
    have pl:∀ f∈(K.take k).filterMap (Qp B L R),sLt f.Path K[k]=true:=by
      intro f hf;obtain ⟨q,hq,e⟩:=List.mem_filterMap.1 hf;rw [Tn B L R q f e];exact hlt q hq
    refine ⟨_,?_,rfl⟩;rw [List.take_succ_eq_append_getElem hk,fm_snoc,fm_snoc,fm_snoc];generalize (K.take k).filterMap (outO B L R)=o at so lo po;generalize (K.take k).filterMap (Qp B L R)=lt at sl ll pl;generalize (K.take k).filterMap (fstO B L R left right)=fs at lf;obtain ⟨m1,m2⟩:=merged_f (lkn hBn K[k]) (lk_ok hL K[k]) (lk_ok hR K[k]);unfold Ay.l3;simp only;rw [Bc,if_pos (by omega),Dr hk,Option.bind_some,tcfind_f hL,Option.bind_some,tcfind_f hB,Option.bind_some,tcfind_f hR,Option.bind_some,m1,Option.bind_some]
    have hj6:∀ a b c,Ay.j6 (k:Int) a b c=some (.next (((k+1:Nat):Int),a,b,c)):=by
      intro a b c;unfold Ay.j6;rw [Cz (by omega) (by omega),Option.bind_some];rfl
    have hv:vF B L R K[k]=mgO (lk B K[k]) (lk L K[k]) (lk R K[k]):=rfl
    have hj8:∀ a,Ay.j8 (k:Int) lt o K[k] (ver (lk L K[k])) (ver (mgO (lk B K[k]) (lk L K[k]) (lk R K[k])).1,(mgO (lk B K[k]) (lk L K[k]) (lk R K[k])).2) a=some (.next (((k+1:Nat):Int),a,lt++(Qp B L R K[k]).toList,o++(outO B L R K[k]).toList)):=by
      intro a;unfold Ay.j8 Qp outO;rw [hv];cases hm:(mgO (lk B K[k]) (lk L K[k]) (lk R K[k])).1 with
      | none =>
        simp [ver,hj6]
      | some v =>
        have hv2:=(m2 v hm).1;cases hlk:lk L K[k] with
        | none =>
          have e:=put_end sl (by omega) pl (t:=v) (by omega)
          simp [ver,e,hj6]
        | some w =>
          have e:=put_end so (by omega) po (t:=v) (by omega)
          simp [ver,e,hj6]
    unfold Ay.j7 fstO;simp only;rw [hv];have hc:(mgO (lk B K[k]) (lk L K[k]) (lk R K[k])).2=true:=hvt K[k];rw [hc] at hj8;rw [hc,if_neg (show ¬ (!true)=true by decide),hj8]
    simp) (by
    rintro s rfl;unfold Ay.l3;simp only;rw [Bc,if_neg (by omega),List.take_length]
    exact ⟨_,rfl,rfl⟩) ([],[],[]) rfl
  exact e
def ownF (R out:List File):List File:=out.filter fun x=>!Gy R x.Path
theorem own_f {R out:List File} (hR:TrOk R) (hl:out.length≤1000):D2 (fun s=>Ay.l2 out R s.1 s.2) (0,[])=some (ownF R out):=by
  obtain ⟨r,e,rfl⟩:=La (f:=fun s=>Ay.l2 out R s.1 s.2) out.length (fun k s=>s=ownF R (out.take k)) (fun r=>r=ownF R out) (by
    rintro k s hk rfl;have hlen:(ownF R (out.take k)).length≤k:=Nat.le_trans (List.length_filter_le _ _) (by rw [List.length_take];omega)
    have hj:∀ w,Ay.j5 (k:Int) w=some (.next (((k+1:Nat):Int),w)):=by
      intro w;unfold Ay.j5;rw [Cz (by omega) (by omega),Option.bind_some];rfl
    refine ⟨_,?_,rfl⟩
    have e:ownF R (out.take (k+1))=ownF R (out.take k)++if Gy R out[k].Path=true then [] else [out[k]]:=by
      unfold ownF;rw [List.take_succ_eq_append_getElem hk,List.filter_append];cases h:Gy R out[k].Path <;> simp [h]
    have hi:(ver (lk R out[k].Path)).is=Gy R out[k].Path:=by
      cases h:Gy R out[k].Path
      · rw [(lk_none hR.srt).2 h];rfl
      · cases h2:lk R out[k].Path with
        | none=>rw [(lk_none hR.srt).1 h2] at h;cases h
        | some v=>rfl
    unfold Ay.l2;simp only;rw [Bc,if_pos (by omega),Dr hk,Option.bind_some,tcfind_f hR,Option.bind_some,hi,e]
    cases h:Gy R out[k].Path
    · rw [if_pos (show (!false)=true from rfl),Lm (by rw [List.length_singleton];omega),Option.bind_some,hj,if_neg Bool.false_ne_true]
    · rw [if_neg (show ¬ (!true)=true by decide),hj,if_pos rfl,List.append_nil]) (by
    rintro s rfl;unfold Ay.l2;simp only;rw [Bc,if_neg (by omega),List.take_length]
    exact ⟨_,rfl,rfl⟩) [] rfl
  exact e
theorem clash_any {l:List File} {p:ByteArray} (hl:∀ f∈l,f.Path.size≤1000000) (hn:l.length≤1000000) (hp:p.size≤1000000):Cl l p (-1)=some (Eu l p):=by
  rw [clash_f hl hn hp];congr 1
  have key:∀ (l:List File) (k:Nat),(Gp (clG p (-1)) k l).isSome=Eu l p:=by
    intro l
    induction l with
    | nil=>intro k;rfl
    | cons f l ih =>
      intro k
      have hcl:clG p (-1) k f=if L0 f.Path p=true then some true else Option.none:=by
        unfold clG;have hk:(k:Int) ≠ -1:=by omega
        by_cases h:L0 f.Path p=true
        · rw [if_pos ⟨hk,h⟩,if_pos h]
        · rw [if_neg (fun hh=>h hh.2),if_neg h]
      rw [Gp,hcl];have:=ih (k+1);unfold Eu at this ⊢;rw [List.any_cons,← this];cases h:L0 f.Path p
      · rfl
      · rfl
  exact key l 0
def M9 (own:List File) (o:List File) (x:File):List File:=if Eu own x.Path=true then o else Ty o x
def secO (left right:TreePatch) (own:List File) (x:File):Option Arr2_Int:=if Eu own x.Path=true then some ⟨lastF left x.Path,lastF right x.Path⟩ else Option.none
theorem late_mem {own:List File}:∀ (late o:List File) (f:File),f∈late.foldl (M9 own) o↔f∈o∨(f∈late∧Eu own f.Path=false)
  | [],o,f=>by simp
  | x::late,o,f=>by
    rw [List.foldl_cons,late_mem late];unfold M9;cases h:Eu own x.Path
    · rw [if_neg Bool.false_ne_true,Qn];constructor
      · rintro ((rfl | h1) | ⟨h1,h2⟩)
        · exact .inr ⟨List.mem_cons_self,h⟩
        · exact .inl h1
        · exact .inr ⟨List.mem_cons_of_mem _ h1,h2⟩
      · rintro (h1 | ⟨h1,h2⟩)
        · exact .inl (.inr h1)
        · rcases List.mem_cons.1 h1 with rfl | h1
          · exact .inl (.inl rfl)
          · exact .inr ⟨h1,h2⟩
    · rw [if_pos rfl];constructor
      · rintro (h1 | ⟨h1,h2⟩)
        · exact .inl h1
        · exact .inr ⟨List.mem_cons_of_mem _ h1,h2⟩
      · rintro (h1 | ⟨h1,h2⟩)
        · exact .inl h1
        · rcases List.mem_cons.1 h1 with rfl | h1
          · rw [h] at h2;cases h2
          · exact .inr ⟨h1,h2⟩
theorem late_srt {own:List File}:∀ (late o:List File),Hg o→Hg late→(∀ f∈late,Gy o f.Path=false)→Hg (late.foldl (M9 own) o)∧(late.foldl (M9 own) o).length≤o.length+late.length
  | [],o,h,_,_=>⟨h,by simp⟩
  | x::late,o,h,hl,hn=>by
    have hl1:=List.pairwise_cons.1 hl;rw [List.foldl_cons];have hx:=hn x List.mem_cons_self
    have hS:Hg (M9 own o x)∧(M9 own o x).length≤o.length+1:=by
      unfold M9;split
      · exact ⟨h,by omega⟩
      · exact ⟨ins_srt h hx,Nat.le_of_eq (ins_len _ _)⟩
    have hn':∀ f∈late,Gy (M9 own o x) f.Path=false:=by
      intro f hf;have h1:=hn f (List.mem_cons_of_mem _ hf);unfold M9;split
      · exact h1
      · cases hh:Gy (Ty o x) f.Path
        · rfl
        · obtain ⟨g,hg,e⟩:=N6.1 hh;rcases Qn.1 hg with rfl | hg
          · have:=hl1.1 f hf;rw [e,Mq] at this;cases this
          · rw [N6.2 ⟨g,hg,e⟩] at h1;cases h1
    obtain ⟨i1,i2⟩:=late_srt (own:=own) late _ hS.1 hl1.2 hn';exact ⟨i1,by rw [List.length_cons];omega⟩
theorem late_f {left right:TreePatch} {own late out:List File} (hrel:∀ x∈late,Eu own x.Path=false) (hcl:∀ c∈left.Changes,OkCh c) (hll:left.Changes.length≤30) (hcr:∀ c∈right.Changes,OkCh c) (hrl:right.Changes.length≤30)
    (ho:Hg out) (hol:out.length≤100) (hlt:Hg late) (hll2:late.length≤100) (hn:∀ f∈late,Gy out f.Path=false) (hsz:∀ f∈late,f.Path.size≤60) (htx:∀ f∈late,f.Lines.length≤1000) (hown:∀ f∈own,f.Path.size≤60) (hownl:own.length≤1000) :
    D2 (fun s=>Ay.l1 left right late own s.1 s.2.1 s.2.2) (0,[],out)=some (late.filterMap (secO left right own),late.foldl (M9 own) out):=by
  obtain ⟨r,e,rfl⟩:=La (f:=fun s=>Ay.l1 left right late own s.1 s.2.1 s.2.2) late.length
    (fun k s=>s=((late.take k).filterMap (secO left right own),(late.take k).foldl (M9 own) out)) (fun r=>r=(late.filterMap (secO left right own),late.foldl (M9 own) out)) (by
    rintro k s hk rfl;have hx:=List.getElem_mem hk;have hs:=hsz _ hx;obtain ⟨q1,q2⟩:=late_srt (own:=own) (late.take k) out ho (List.Pairwise.sublist (List.take_sublist _ _) hlt) fun f hf=>hn f (List.mem_of_mem_take hf);rw [List.length_take] at q2;have q3:((late.take k).foldl (M9 own) out).length≤1000:=by omega
    have hno:Gy ((late.take k).foldl (M9 own) out) late[k].Path=false:=by
      cases hh:Gy ((late.take k).foldl (M9 own) out) late[k].Path
      · rfl
      · obtain ⟨g,hg,e⟩:=N6.1 hh;rcases (late_mem _ _ _).1 hg with h1 | ⟨h1,_⟩
        · have:=hn _ hx;rw [N6.2 ⟨g,h1,e⟩] at this;cases this
        · obtain ⟨j,hj,rfl⟩:=List.getElem_of_mem h1;rw [List.length_take] at hj;rw [List.getElem_take] at e;have:=(List.pairwise_iff_getElem.1 hlt) j k (by omega) hk (by omega)
          rw [e,Mq] at this;cases this
    have ls:((late.take k).filterMap (secO left right own)).length≤k:=Nat.le_trans (List.length_filterMap_le _ _) (by rw [List.length_take];omega)
    have hj:∀ a b,Ay.j4 (k:Int) a b=some (.next (((k+1:Nat):Int),a,b)):=by
      intro a b;unfold Ay.j4;rw [Cz (by omega) (by omega),Option.bind_some];rfl
    refine ⟨_,?_,rfl⟩;rw [List.take_succ_eq_append_getElem hk,fm_snoc,List.foldl_append];unfold Ay.l1;simp only [List.foldl_cons,List.foldl_nil];rw [Bc,if_pos (by omega),Dr hk,Option.bind_some,clash_any (fun f hf=>by have:=hown f hf;omega) (by omega) (by omega),Option.bind_some]
    have h:=hrel _ hx;rw [h];have e1:secO left right own late[k]=Option.none:=by unfold secO;rw [h];rfl
    have e2:∀ o,M9 own o late[k]=Ty o late[k]:=fun o=>by unfold M9;rw [h];rfl
    rw [if_neg Bool.false_ne_true,Put_f q1 q3 hno (Nat.le_trans (htx _ hx) (by decide)),Option.bind_some,hj,e1,e2]
    simp) (by
    rintro s rfl;unfold Ay.l1;simp only;rw [Bc,if_neg (by omega),List.take_length]
    exact ⟨_,rfl,rfl⟩) ([],out) rfl
  exact e
end Go.Dc
set_option linter.unusedSimpArgs false
set_option linter.unusedVariables false
set_option maxRecDepth 4000
noncomputable section
namespace Go.Dc
open Go
section
variable (B L R : List File)
def tmK:List ByteArray:=ksort (Er B++Er L++Er R)
def Tg:List File:=(tmK B L R).filterMap (outO B L R)
def M4:List File:=(tmK B L R).filterMap (Qp B L R)
def tmFst (left right:TreePatch):List Arr2_Int:=(tmK B L R).filterMap (fstO B L R left right)
def O5:List File:=ownF R (Tg B L R)
def Qa:List File:=(M4 B L R).foldl (M9 (O5 B L R)) (Tg B L R)
def tmSec (left right:TreePatch):List Arr2_Int:=(M4 B L R).filterMap (secO left right (O5 B L R))
end
theorem mem_K {B L R:List File} {p:ByteArray}:p∈tmK B L R↔Gy B p=true∨Gy L p=true∨Gy R p=true:=by
  unfold tmK;rw [ksort_mem,List.mem_append,List.mem_append,pathsL_mem,pathsL_mem,pathsL_mem];exact or_assoc
theorem not_K {B L R:List File} (hB:Hg B) (hL:Hg L) (hR:Hg R) {p:ByteArray} (h:p ∉ tmK B L R):vF B L R p=(Option.none,true):=by
  rw [mem_K,not_or,not_or] at h;have e1:=(lk_none hB).2 (by simpa using h.1)
  have e2:=(lk_none hL).2 (by simpa using h.2.1)
  have e3:=(lk_none hR).2 (by simpa using h.2.2)
  unfold vF mgO;rw [e1,e2,e3];simp
theorem mem_out {B L R:List File} (hB:Hg B) (hL:Hg L) (hR:Hg R) {f:File}:f∈Tg B L R↔(vF B L R f.Path).1=some f.Lines∧lk L f.Path≠Option.none:=by
  unfold Tg;rw [List.mem_filterMap];constructor
  · rintro ⟨p,_,h⟩;have hp:=outO_path B L R p f h;subst hp;unfold outO at h;split at h
    · rename_i v w h1 h2
      have e:=congrArg File.Lines (Option.some.inj h);simp only at e;exact ⟨by rw [h1,e],by rw [h2];simp⟩
    · cases h
  · rintro ⟨h1,h2⟩;refine ⟨f.Path,?_,?_⟩
    · by_cases hk:f.Path∈tmK B L R
      · exact hk
      · rw [not_K hB hL hR hk] at h1;cases h1
    · unfold outO;cases h3:lk L f.Path with
      | none=>exact absurd h3 h2
      | some w=>rw [h1]
theorem mem_late {B L R:List File} (hB:Hg B) (hL:Hg L) (hR:Hg R) {f:File}:f∈M4 B L R↔(vF B L R f.Path).1=some f.Lines∧lk L f.Path=Option.none:=by
  unfold M4;rw [List.mem_filterMap];constructor
  · rintro ⟨p,_,h⟩;have hp:=Tn B L R p f h;subst hp;unfold Qp at h;split at h
    · rename_i v h1 h2
      have e:=congrArg File.Lines (Option.some.inj h);simp only at e;exact ⟨by rw [h1,e],h2⟩
    · cases h
  · rintro ⟨h1,h2⟩;refine ⟨f.Path,?_,?_⟩
    · by_cases hk:f.Path∈tmK B L R
      · exact hk
      · rw [not_K hB hL hR hk] at h1;cases h1
    · unfold Qp;rw [h1,h2]
theorem K_len {B L R:List File} (hB:TrOk B) (hL:TrOk L) (hR:TrOk R):(tmK B L R).length≤72:=by
  have:=ksort_len (Er B++Er L++Er R);unfold tmK;have h1:=hB.len;have h2:=hL.len;have h3:=hR.len;unfold Er at *;rw [List.length_append,List.length_append,List.length_map,List.length_map,List.length_map] at this;omega
theorem K_size {B L R:List File} (hB:TrOk B) (hL:TrOk L) (hR:TrOk R):∀ p∈tmK B L R,p.size≤60:=by
  intro p hp
  have h:∀ l:List File,TrOk l→Gy l p=true→p.size≤60:=by
    intro l hl hh;obtain ⟨f,hf,rfl⟩:=N6.1 hh;exact H7 (hl.path f hf)
  rcases mem_K.1 hp with h1 | h1 | h1
  · exact h B hB h1
  · exact h L hL h1
  · exact h R hR h1
theorem out_srt (B L R:List File):Hg (Tg B L R):=fm_path (outO_path B L R) (ksort_asc _)
theorem late_srtT (B L R:List File):Hg (M4 B L R):=fm_path (Tn B L R) (ksort_asc _)
theorem late_no {B L R:List File} (hB:Hg B) (hL:Hg L) (hR:Hg R):∀ f∈M4 B L R,Gy (Tg B L R) f.Path=false:=by
  intro f hf;cases hh:Gy (Tg B L R) f.Path
  · rfl
  · obtain ⟨g,hg,e⟩:=N6.1 hh;have h1:=((mem_late hB hL hR).1 hf).2;have h2:=((mem_out hB hL hR).1 hg).2;rw [e] at h2;exact absurd h1 h2
theorem fin_mem {B L R:List File} {f:File}:f∈Qa B L R↔f∈Tg B L R∨(f∈M4 B L R∧Eu (O5 B L R) f.Path=false):=late_mem _ _ _
theorem fin_srt {B L R:List File} (hB:Hg B) (hL:Hg L) (hR:Hg R):Hg (Qa B L R):=(late_srt (own:=O5 B L R) _ _ (out_srt B L R) (late_srtT B L R) (late_no hB hL hR)).1
theorem vF_ok {B L R:List File} (hBn:B=[]) (hB:TrOk B) (hL:TrOk L) (hR:TrOk R) (p:ByteArray):OkO (vF B L R p).1:=(merged_f (lkn hBn p) (lk_ok hL p) (lk_ok hR p)).2
theorem tmerge {B:List File} {left right:TreePatch} (hBn:B=[]) (hvt:∀ p,(vF B (C8 left.Changes B).1 (C8 right.Changes B).1 p).2=true) (hrel:∀ x∈M4 B (C8 left.Changes B).1 (C8 right.Changes B).1,Eu (O5 B (C8 left.Changes B).1 (C8 right.Changes B).1) x.Path=false) (hB:TrOk B) (h1:(C8 left.Changes B).2.Code=0) (h2:(C8 right.Changes B).2.Code=0) :
    Ay ⟨B⟩ left right=some (if (Qa B (C8 left.Changes B).1 (C8 right.Changes B).1).length > 24 then (⟨[]⟩,[],⟨10,-1⟩)
      else (⟨Qa B (C8 left.Changes B).1 (C8 right.Changes B).1⟩,tmFst B (C8 left.Changes B).1 (C8 right.Changes B).1 left right++tmSec B (C8 left.Changes B).1 (C8 right.Changes B).1 left right,⟨0,0⟩)):=by
  obtain ⟨a1,a2,_,_,hL⟩:=Nw h1;obtain ⟨b1,b2,_,_,hR⟩:=Nw h2
  have f1:(C8 left.Changes B).2=⟨0,0⟩:=by
    obtain ⟨_,c2,c3,c4,_⟩:=Nw h1;rw [c4] at h1 ⊢;exact (run_ok _ _ _ c3 c2 h1).2
  have f2:(C8 right.Changes B).2=⟨0,0⟩:=by
    obtain ⟨_,c2,c3,c4,_⟩:=Nw h2;rw [c4] at h2 ⊢;exact (run_ok _ _ _ c3 c2 h2).2
  have eB:Eq B=⟨0,0⟩:=by
    rcases Tk B with h | h
    · exact h
    · exact absurd ((G1 B).2 hB) h
  unfold Ay;rw [Validate_f,Option.bind_some];simp only;rw [eB];simp only [decide_true,Bool.and_self,Bool.not_true,Bool.false_eq_true,if_false];rw [Apply_f,Option.bind_some];simp only;rw [f1];simp only [decide_true,Bool.and_self,Bool.not_true,Bool.false_eq_true,if_false];rw [Apply_f,Option.bind_some];simp only;rw [f2];simp only [decide_true,Bool.and_self,Bool.not_true,Bool.false_eq_true,if_false];generalize (C8 left.Changes B).1=L at hL hvt hrel ⊢;generalize (C8 right.Changes B).1=R at hR hvt hrel ⊢;have lK:=K_len hB hL hR;have sK:=K_size hB hL hR;have lo:(Tg B L R).length≤72:=Nat.le_trans (List.length_filterMap_le _ _) lK;have ll:(M4 B L R).length≤72:=Nat.le_trans (List.length_filterMap_le _ _) lK;have lf:(tmFst B L R left right).length≤72:=Nat.le_trans (List.length_filterMap_le _ _) lK
  have hsz:∀ f,(f∈Tg B L R∨f∈M4 B L R)→f.Path.size≤60∧f.Lines.length≤120:=by
    intro f hf
    have hv:(vF B L R f.Path).1=some f.Lines:=by
      rcases hf with hf | hf
      · exact ((mem_out hB.srt hL.srt hR.srt).1 hf).1
      · exact ((mem_late hB.srt hL.srt hR.srt).1 hf).1
    refine ⟨?_,(vF_ok hBn hB hL hR f.Path f.Lines hv).1⟩;by_cases hk:f.Path∈tmK B L R
    · exact sK _ hk
    · rw [not_K hB.srt hL.srt hR.srt hk] at hv;cases hv
  have lown:(O5 B L R).length≤72:=Nat.le_trans (List.length_filter_le _ _) lo
  have hlf:=late_f (own:=O5 B L R) hrel a2 a1 b2 b1 (out_srt B L R) (by omega) (late_srtT B L R) (by omega) (late_no hB.srt hL.srt hR.srt) (fun f hf=>(hsz f (.inr hf)).1) (fun f hf=>by have:=(hsz f (.inr hf)).2;omega)
    (fun f hf=>(hsz f (.inl (List.mem_filter.1 hf).1)).1) (by omega)
  have ls:(tmSec B L R left right).length≤72:=Nat.le_trans (List.length_filterMap_le _ _) ll;rw [all_f3 hB.len hL.len hR.len,Option.bind_some];rw [show ksort (Er B++Er L++Er R)=tmK B L R from rfl,walk_f hBn hvt hB hL hR a2 a1 b2 b1 (K:=tmK B L R) (ksort_asc _) (by omega) sK,Option.bind_some]
  simp only;rw [show (tmK B L R).filterMap (fstO B L R left right)=tmFst B L R left right from rfl,show (tmK B L R).filterMap (Qp B L R)=M4 B L R from rfl,show (tmK B L R).filterMap (outO B L R)=Tg B L R from rfl];unfold Ay.j1;rw [own_f hR (by omega),Option.bind_some]
  unfold Ay.j2;rw [show ownF R (Tg B L R)=O5 B L R from rfl,hlf,Option.bind_some];simp only;rw [show (M4 B L R).filterMap (secO left right (O5 B L R))=tmSec B L R left right from rfl,show (M4 B L R).foldl (M9 (O5 B L R)) (Tg B L R)=Qa B L R from rfl];unfold Ay.j3;rw [Bc];by_cases h24:(Qa B L R).length > 24
  · rw [if_pos (by omega),if_pos h24]
  · rw [if_neg (by omega),if_neg h24,Lm (by omega),Option.bind_some]
theorem fst_nil {B L R:List File} (hB:Hg B) (hL:Hg L) (hR:Hg R) {left right:TreePatch}:tmFst B L R left right=[]↔∀ p,(vF B L R p).2=true:=by
  unfold tmFst;rw [List.filterMap_eq_nil_iff];constructor
  · intro h p;by_cases hk:p∈tmK B L R
    · have:=h p hk;unfold fstO at this;split at this
      · assumption
      · cases this
    · rw [not_K hB hL hR hk]
  · intro h p _;unfold fstO;rw [if_pos (h p)]
theorem sec_nil {B L R:List File} {left right:TreePatch}:tmSec B L R left right=[]↔∀ x∈M4 B L R,Eu (O5 B L R) x.Path=false:=by
  unfold tmSec;rw [List.filterMap_eq_nil_iff];constructor
  · intro h x hx;have:=h x hx;unfold secO at this;cases hr:Eu (O5 B L R) x.Path
    · rfl
    · rw [if_pos hr] at this;cases this
  · intro h x hx;unfold secO;rw [h x hx,if_neg Bool.false_ne_true]
theorem tm_left {B L R:List File} (hB:TrOk B) (hL:TrOk L) (hR:TrOk R) (h:∀ p,vF B L R p=(lk R p,true)) (left right:TreePatch):Qa B L R=R∧tmFst B L R left right=[]∧tmSec B L R left right=[]:=by
  have hown:O5 B L R=[]:=by
    unfold O5 ownF;rw [List.filter_eq_nil_iff];intro f hf;have h1:=((mem_out hB.srt hL.srt hR.srt).1 hf).1;rw [h] at h1
    have:Gy R f.Path=true:=by
      cases hh:Gy R f.Path
      · rw [(lk_none hR.srt).2 hh] at h1;cases h1
      · rfl
    rw [this];simp
  have hrel:∀ p,Eu (O5 B L R) p=false:=fun p=>by rw [hown];rfl
  refine ⟨res_eq (fin_srt hB.srt hL.srt hR.srt) hR.srt fun f=>?_,(fst_nil hB.srt hL.srt hR.srt).2 fun p=>by rw [h],sec_nil.2 fun x hx=>hrel _⟩
  rw [fin_mem,mem_out hB.srt hL.srt hR.srt,mem_late hB.srt hL.srt hR.srt,h,hrel];constructor
  · rintro (⟨h1,_⟩ | ⟨⟨h1,_⟩,_⟩)
    · exact (lk_some hR.srt).1 h1
    · exact (lk_some hR.srt).1 h1
  · intro hf;have:=(lk_some hR.srt (p:=f.Path) (L:=f.Lines)).2 hf;by_cases hn:lk L f.Path=Option.none
    · exact .inr ⟨⟨this,hn⟩,rfl⟩
    · exact .inl ⟨this,hn⟩
end Go.Dc
set_option linter.unusedSimpArgs false
set_option linter.unusedVariables false
set_option maxRecDepth 4000
namespace Go.Dc
open Go
theorem nil_ok:TrOk []:=(G1 []).1 (by decide)
theorem tf_ok {l:List File} (h:TrOk l):Eq l=⟨0,0⟩:=by
  rcases Tk l with e | e
  · exact e
  · exact absurd ((G1 l).2 h) e
theorem apT_ok (p:List TreeChange) (l:List File):(C8 p l).2=⟨0,0⟩∨(C8 p l).2.Code≠0:=by
  by_cases h:(C8 p l).2.Code=0
  · left;obtain ⟨_,c2,c3,c4,_⟩:=Nw h;rw [c4] at h ⊢;exact (run_ok _ _ _ c3 c2 h).2
  · exact .inr h
theorem difT_ok (a b:List File):(difT a b).2=⟨0,0⟩∨(difT a b).2.Code≠0:=by
  unfold difT;split
  · next h=>exact .inr h
  · split
    · next h=>exact .inr h
    · split
      · right;decide
      · left;rfl
theorem difT_of {a b:List File} (ha:TrOk a) (hb:TrOk b) (hl:(Lf a b).length≤30):difT a b=(⟨Lf a b⟩,⟨0,0⟩):=by
  unfold difT;rw [tf_ok ha,tf_ok hb,if_neg (by decide),if_neg (by decide),if_neg (by omega)]
theorem difN_len {b:List File} (hb:TrOk b):(Lf [] b).length≤30:=by
  have h1:(Lf [] b).length≤b.length:=by
    unfold Lf;exact List.length_filterMap_le _ _
  have:=hb.len;omega
theorem difN {b:List File} (hb:TrOk b):difT [] b=(⟨Lf [] b⟩,⟨0,0⟩):=difT_of nil_ok hb (difN_len hb)
theorem apN {b:List File} (hb:TrOk b):C8 (Lf [] b) []=(b,⟨0,0⟩):=by
  obtain ⟨h1,h2⟩:=dif_ok rfl hb;rw [applyT_of (difN_len hb) h1 nil_ok,h2]
theorem not_net2 (u k n:Int) (p:TreePatch):¬ Net ⟨2,u,k,n,p⟩:=by intro h;unfold Net at h;simp at h
theorem not_net3 (u k n:Int) (p:TreePatch):¬ Net ⟨3,u,k,n,p⟩:=by intro h;unfold Net at h;simp at h
theorem net4 (u k n:Int) (p:TreePatch):Net ⟨4,u,k,n,p⟩:=.inl rfl
def setTree (s:State_forge) (u:Int) (D:Developer_forge) (t:List File):State_forge:=⟨s.keys,s.versions,s.developers.set u.toNat ⟨⟨t⟩,D.base,D.sent,D.accepted⟩,s.flight,s.log⟩
theorem step_edit {s:State_forge} {u k n:Int} {p:TreePatch} {D:Developer_forge} (hD:at? s.developers u=some D) :
    Nh s ⟨2,u,k,n,p⟩=some (if (C8 p.Changes D.tree.Files).2.Code≠0 then ((C8 p.Changes D.tree.Files).2.Code,s) else (0,setTree s u D (C8 p.Changes D.tree.Files).1)):=by
  unfold Nh;rw [if_neg (not_net2 u k n p)];unfold Ca;simp only;rw [hD,Option.bind_some,if_neg (by simp),if_pos (by simp),Apply_f,Option.bind_some]
  unfold Ca.j2;simp only;rcases apT_ok p.Changes D.tree.Files with h | h
  · rw [h];simp only [decide_true,Bool.and_self,Bool.not_true,Bool.false_eq_true,if_false,ne_eq,not_true_eq_false];rw [Option.bind_some];rfl
  · rw [if_pos (L5.2 fun h2=>h h2.1),if_pos h]
noncomputable def Q4 (u:Int) (D:Developer_forge) (key:Int) (q:TreePatch):Message_forge:=⟨u,D.sent+1,D.base,sg key (md ⟨u,D.sent+1,D.base,0,q⟩),q⟩
noncomputable def pushS (s:State_forge) (u:Int) (D:Developer_forge) (key:Int) (q:TreePatch):State_forge :=
  ⟨s.keys,s.versions,s.developers.set u.toNat ⟨D.tree,D.base,D.sent+1,D.accepted⟩,s.flight++[Q4 u D key q],s.log⟩
theorem letter_ok {u:Int} {D:Developer_forge} {key:Int} {q:TreePatch} (hu:0≤u∧u≤1000) (hs:0≤D.sent∧D.sent≤1000) (hb:0≤D.base∧D.base≤1000):MsgOk (Q4 u D key q) :=
  ⟨Hi hu.1 (by show u≤_;omega),Hi (by show 0≤D.sent+1;omega) (by show D.sent+1≤_;omega),Hi hb.1 (by show D.base≤_;omega)⟩
theorem letter_sig {u:Int} {D:Developer_forge} {key:Int} {q:TreePatch} (hk:Mi key) (hu:0≤u∧u≤1000) (hs:0≤D.sent∧D.sent≤1000) (hb:0≤D.base∧D.base≤1000) :
    (Q4 u D key q).signature=sg key (md (Q4 u D key q))∧Dig (Q4 u D key q).signature :=
  ⟨rfl,(sign_f hk (by rw [(md_f (letter_ok (key:=0) hu hs hb)).2];decide:(md (Q4 u D 0 q)).length≤4096)).2⟩
theorem step_push {s:State_forge} {u key n:Int} {p:TreePatch} {D:Developer_forge} {V:List File} (hD:at? s.developers u=some D) (hVn:V=[]) (hV:at? s.versions D.base=some ⟨V⟩) (hk:Mi key)
    (hu:0≤u∧u≤1000) (hs:0≤D.sent∧D.sent≤1000) (hb:0≤D.base∧D.base≤1000) :
    Nh s ⟨3,u,key,n,p⟩=some (if (difT V D.tree.Files).2.Code≠0 then ((difT V D.tree.Files).2.Code,s) else if (difT V D.tree.Files).1.Changes=[] then (11,s) else if s.flight.length ≥ 20 then (14,s) else (0,pushS s u D key (difT V D.tree.Files).1)):=by
  unfold Nh;rw [if_neg (not_net3 u key n p)];unfold Ca;simp only;rw [hD,Option.bind_some,if_neg (by simp),if_neg (by simp),if_pos (by simp)]
  unfold Gk;rw [hD,Option.bind_some,hV,Option.bind_some];have e0:D.tree=⟨D.tree.Files⟩:=rfl;have e1:Bl ⟨V⟩ D.tree=some (difT V D.tree.Files):=tdifT_f hVn D.tree.Files;rw [e1,Option.bind_some];generalize hd:difT V D.tree.Files=d;have hz:d.2=⟨0,0⟩∨d.2.Code≠0:=hd ▸ difT_ok V D.tree.Files;obtain ⟨q,f⟩:=d;unfold Gk.j1;simp only at hz ⊢;rcases hz with rfl | h
  · simp only [decide_true,Bool.and_self,Bool.not_true,Bool.false_eq_true,if_false,ne_eq,not_true_eq_false];rw [len_zero_dec,Bc];by_cases hq:q.Changes=[]
    · rw [if_pos hq,if_pos hq];rfl
    rw [if_neg hq,if_neg hq,Bc];by_cases hf:s.flight.length ≥ 20
    · rw [if_pos (by omega),if_pos hf];rfl
    rw [if_neg (by omega),if_neg hf,Cz (by omega) (by omega),Option.bind_some,Option.bind_some]
    obtain ⟨m1,m2⟩:=md_f (letter_ok (q:=q) (key:=0) hu hs hb);have m3:Ep ⟨u,D.sent+1,D.base,0,q⟩=some (md ⟨u,D.sent+1,D.base,0,q⟩):=m1;have m4:(md ⟨u,D.sent+1,D.base,0,q⟩).length=32:=m2;rw [m3,Option.bind_some,(sign_f hk (by omega)).1,Option.bind_some,Lm (by rw [List.length_singleton];omega),Option.bind_some]
    rfl
  · rw [if_pos (L5.2 fun h2=>h h2.1),if_pos h];rfl
def drp (s:State_forge) (n:Nat):State_forge:=⟨s.keys,s.versions,s.developers,s.flight.take n++s.flight.drop (n+1),s.log⟩
theorem step_deliver {s:State_forge} {u k:Int} {n:Nat} {p:TreePatch} (hl:s.flight.length≤1000) :
    Nh s ⟨4,u,k,(n:Int),p⟩=if h:n < s.flight.length then (Ci (drp s n) s.flight[n]) else some (6,s):=by
  unfold Nh;rw [if_pos (net4 u k (n:Int) p)];unfold Dp;simp only;rw [Bc];by_cases h:n < s.flight.length
  · rw [if_neg (by omega),dif_pos h,Dr h,Option.bind_some,if_pos (by decide),Cz (by omega) (by omega),Option.bind_some]
    rw [show (n:Int)+1=((n+1:Nat):Int) from rfl,del?_mk (by omega) h,Option.bind_some]
    show (Ci (drp s n) s.flight[n]).bind _=_;cases Ci (drp s n) s.flight[n] <;> rfl
  · rw [if_pos (by omega),dif_neg h]
theorem mg_empty {R:List File} (hR:TrOk R) (p q:TreePatch):Qa [] [] R=R∧tmFst [] [] R p q=[]∧tmSec [] [] R p q=[]:=by
  refine tm_left nil_ok nil_ok hR (fun x=>?_) p q;show mgO Option.none Option.none (lk R x)=_;unfold mgO;by_cases h:lk R x=Option.none
  · rw [if_pos (.inl h),h]
  · rw [if_neg (by rintro (h2 | h2) <;> exact h h2),if_pos rfl]
noncomputable def accT (s:State_forge) (m:Message_forge) (D:Developer_forge) (N R:List File):Int×State_forge :=
  if (Qa [] N R).length > 24 then (10,s)
  else if tmFst [] N R ⟨Lf [] N⟩ m.patch++tmSec [] N R ⟨Lf [] N⟩ m.patch≠[] then (19,s)
  else if (difT N (Qa [] N R)).2.Code≠0 then ((difT N (Qa [] N R)).2.Code,s)
  else (0,⟨s.keys,s.versions++[⟨Qa [] N R⟩],s.developers.set m.user.toNat ⟨D.tree,D.base,D.sent,m.number⟩,s.flight,s.log++[⟨m.user,m.number,(difT N (Qa [] N R)).1⟩]⟩)
theorem accept_f {s:State_forge} {m:Message_forge} {D:Developer_forge} {key:Int} {N:List File} {v:List FileTree} (hD:at? s.developers m.user=some D) (hk:at? s.keys m.user=some key) (hik:Mi key) (hm:MsgOk m)
    (hsd:Dig m.signature) (hs:m.signature=sg key (md m)) (hn:¬ m.number≤D.accepted) (hb:at? s.versions m.base=some ⟨[]⟩) (hv:s.versions=v++[⟨N⟩]) (hvl:v.length≤1000) (hll:s.log.length≤1000) (hN:TrOk N) (hNn:N=[])
    (hp:(C8 m.patch.Changes []).2.Code=0):Ci s m=some (accT s m D N (C8 m.patch.Changes []).1):=by
  obtain ⟨m1,m2⟩:=md_f hm;unfold Ci;rw [hD,Option.bind_some,hk,Option.bind_some,m1,Option.bind_some,verify_f hik (by omega) hsd,Option.bind_some]
  unfold Ci.j1;simp only;rw [decide_eq_true hs.symm,if_neg (by decide),Bc,if_neg hn,hb,Option.bind_some,newest_f hv (by omega),Option.bind_some,tdifT_f rfl,difN hN,Option.bind_some]
  unfold Ci.j2;simp only [decide_true,Bool.and_self,Bool.not_true,Bool.false_eq_true,if_false];have hA:(C8 (⟨Lf [] N⟩:TreePatch).Changes []).2.Code=0:=by show (C8 (Lf [] N) []).2.Code=0;rw [apN hN]
  have hA1:(C8 (⟨Lf [] N⟩:TreePatch).Changes []).1=N:=by show (C8 (Lf [] N) []).1=N;rw [apN hN]
  have hR:=(Nw hp).2.2.2.2
  have hv0:∀ p,vF [] N (C8 m.patch.Changes []).1 p=(lk (C8 m.patch.Changes []).1 p,true):=by
    intro x;rw [hNn];show mgO Option.none Option.none _=_;unfold mgO;by_cases h:lk (C8 m.patch.Changes []).1 x=Option.none
    · rw [if_pos (.inl h),h]
    · rw [if_neg (by rintro (h2 | h2) <;> exact h h2),if_pos rfl]
  have hsn:=(tm_left nil_ok hN hR hv0 ⟨Lf [] N⟩ m.patch).2.2;rw [tmerge rfl (by rw [hA1];intro p;rw [hv0]) (by rw [hA1];exact sec_nil.1 hsn) nil_ok hA hp,hA1,Option.bind_some]
  unfold accT;generalize (C8 m.patch.Changes []).1=R;by_cases h24:(Qa [] N R).length > 24
  · rw [if_pos h24,if_pos h24];rfl
  rw [if_neg h24,if_neg h24];simp only [decide_true,Bool.and_self,Bool.not_true,Bool.false_eq_true,if_false];rw [len_pos_dec,Bc];by_cases hc:tmFst [] N R ⟨Lf [] N⟩ m.patch++tmSec [] N R ⟨Lf [] N⟩ m.patch≠[]
  · rw [if_pos hc,if_pos hc]
  rw [if_neg hc,if_neg hc,newest_f hv (by omega),Option.bind_some,tdifT_f hNn,Option.bind_some]
  unfold Ci.j3;rcases difT_ok N (Qa [] N R) with h | h
  · rw [h];simp only [decide_true,Bool.and_self,Bool.not_true,Bool.false_eq_true,if_false,ne_eq,not_true_eq_false];rw [Option.bind_some,Lm (by rw [hv,List.length_append,List.length_singleton,List.length_singleton];omega),Option.bind_some,Lm (by rw [List.length_singleton];omega),Option.bind_some]
  · rw [if_pos (L5.2 fun h2=>h h2.1),if_pos h]
theorem accT_empty {s:State_forge} {m:Message_forge} {D:Developer_forge} {R:List File} (hR:TrOk R) :
    accT s m D [] R=(0,⟨s.keys,s.versions++[⟨R⟩],s.developers.set m.user.toNat ⟨D.tree,D.base,D.sent,m.number⟩,s.flight,s.log++[⟨m.user,m.number,⟨Lf [] R⟩⟩]⟩):=by
  unfold accT;obtain ⟨h1,h2,h3⟩:=mg_empty hR ⟨Lf [] []⟩ m.patch;have:=hR.len;rw [h1,h2,h3,if_neg (by omega),if_neg (by simp),difN hR,if_neg (by simp)]
end Go.Dc
set_option linter.unusedSimpArgs false
set_option linter.unusedVariables false
set_option maxRecDepth 4000
namespace Go.Dc
open Go
def evE (u:Int) (p:TreePatch):ForgeEvent:=⟨2,u,0,0,p⟩
def evP (u key:Int):ForgeEvent:=⟨3,u,key,0,⟨[]⟩⟩
def evL (n:Int):ForgeEvent:=⟨4,0,0,n,⟨[]⟩⟩
theorem evE_c {n u:Int} (h0:0≤u) (h1:u < n) (p:TreePatch):evC n (evE u p)=(pcF p.Changes).Code:=by
  unfold evC evE;rw [if_neg (not_net2 u 0 0 p),if_pos (by simp)]
  unfold evD;rw [if_neg (by rintro (h | h | h);exact absurd h (by show ¬ u < 0;omega);exact absurd h (by show ¬ u ≥ n;omega);exact absurd h.1 (by simp)),if_pos rfl]
theorem evP_c {n u key:Int} (h0:0≤u) (h1:u < n):evC n (evP u key)=if Mi key then 0 else 3:=by
  unfold evC evP;rw [if_neg (not_net3 u key 0 _),if_pos (by simp)]
  unfold evD;by_cases hk:Mi key
  · rw [if_neg (by rintro (h | h | h);exact absurd h (by show ¬ u < 0;omega);exact absurd h (by show ¬ u ≥ n;omega);exact h.2 hk),if_neg (by simp),if_pos hk]
  · rw [if_pos (.inr (.inr ⟨rfl,hk⟩)),if_neg hk]
theorem evL_c {n k:Int} (h0:0≤k) (h1:k≤1000000000):evC n (evL k)=0:=by
  unfold evC evL;rw [if_pos (net4 0 0 k _)];unfold evN;rw [if_neg (by rintro (h | h);exact absurd h (by show ¬ k < 0;omega);exact absurd h (by show ¬ k > 1000000000;omega))]
def evs1 (key:Int) (p:TreePatch):List ForgeEvent:=[evE 0 p,evP 0 key,evL 0]
theorem fv1 (key:Int) (p:TreePatch):(fvF [key] (evs1 key p)).Code=0↔Mi key∧(pcF p.Changes).Code=0:=by
  rw [fvF_zero];have e1:=evE_c (n:=([key]:List Int).length) (u:=0) (by omega) (by simp) p
  have e2:=evP_c (n:=([key]:List Int).length) (u:=0) (key:=key) (by omega) (by simp)
  have e3:=evL_c (n:=([key]:List Int).length) (k:=0) (by omega) (by omega)
  constructor
  · rintro ⟨⟨_,_,hk⟩,_,he⟩;exact ⟨hk key (by simp),by rw [← e1];exact he _ (by simp [evs1])⟩
  · rintro ⟨hk,hp⟩;refine ⟨⟨by simp,by simp,fun k h=>by rw [List.mem_singleton] at h;rw [h];exact hk⟩,by simp [evs1],fun e he=>?_⟩
    unfold evs1 at he;simp only [List.mem_cons,List.not_mem_nil,or_false] at he;rcases he with rfl | rfl | rfl
    · rw [e1];exact hp
    · rw [e2,if_pos hk]
    · exact e3
theorem ap_tr (p:List TreeChange):TrOk (C8 p []).1:=by
  by_cases h:(C8 p []).2.Code=0
  · exact (Nw h).2.2.2.2
  · rw [applyT_fail h];exact nil_ok
theorem difL_nil {b:List File}:Lf [] b=[]↔b=[]:=by
  unfold Lf;cases b with
  | nil=>simp
  | cons f r=>simp [adOf,Gy]
def s1 (key:Int) (t:List File):State_forge:=⟨[key],[⟨[]⟩],[⟨⟨t⟩,0,0,0⟩],[],[]⟩
def s3 (key:Int) (t:List File):State_forge:=⟨[key],[⟨[]⟩,⟨t⟩],[⟨⟨t⟩,0,1,1⟩],[],[⟨0,1,⟨Lf [] t⟩⟩]⟩
theorem first_runs {key:Int} (hk:Mi key) (p:TreePatch):runs (st0 [key]) [] (evs1 key p)=some (if (C8 p.Changes []).1=[] then (s1 key (C8 p.Changes []).1,[(C8 p.Changes []).2.Code,11,6]) else (s3 key (C8 p.Changes []).1,[(C8 p.Changes []).2.Code,0,0])):=by
  have ht:=ap_tr p.Changes
  have step1:Nh (st0 [key]) (evE 0 p)=some ((C8 p.Changes []).2.Code,s1 key (C8 p.Changes []).1):=by
    unfold evE;rw [step_edit (D:=⟨⟨[]⟩,0,0,0⟩) rfl];simp only;by_cases h:(C8 p.Changes []).2.Code=0
    · rw [if_neg (by omega),h];rfl
    · rw [if_pos h,applyT_fail h];rfl
  unfold evs1;rw [Tb step1];generalize (C8 p.Changes []).2.Code=c0;generalize (C8 p.Changes []).1=t at ht ⊢
  have step2:Nh (s1 key t) (evP 0 key)=some (if t=[] then (11,s1 key t) else (0,pushS (s1 key t) 0 ⟨⟨t⟩,0,0,0⟩ key ⟨Lf [] t⟩)):=by
    unfold evP;rw [step_push (D:=⟨⟨t⟩,0,0,0⟩) (V:=[]) rfl rfl rfl hk (by omega) (by simp) (by simp)]
    simp only;rw [difN ht];simp only [ne_eq,not_true_eq_false,if_false,difL_nil];rfl
  by_cases h:t=[]
  · rw [if_pos h] at step2 ⊢;rw [Tb step2]
    have step3:Nh (s1 key t) (evL 0)=some (6,s1 key t):=by
      unfold evL;rw [show (0:Int)=((0:Nat):Int) from rfl,step_deliver (by show 0≤1000;omega),dif_neg (by show ¬ 0 < 0;omega)]
    rw [Tb step3];rfl
  · rw [if_neg h] at step2 ⊢;rw [Tb step2]
    have step3:Nh (pushS (s1 key t) 0 ⟨⟨t⟩,0,0,0⟩ key ⟨Lf [] t⟩) (evL 0)=some (0,s3 key t):=by
      unfold evL;rw [show (0:Int)=((0:Nat):Int) from rfl,step_deliver (by show 1≤1000;omega),dif_pos (by show 0 < 1;omega)]
      have hl:=letter_sig (u:=0) (D:=⟨⟨t⟩,0,0,0⟩) (q:=⟨Lf [] t⟩) hk (by omega) (by simp) (by simp)
      have hm:=letter_ok (u:=0) (D:=⟨⟨t⟩,0,0,0⟩) (key:=key) (q:=⟨Lf [] t⟩) (by omega) (by simp) (by simp)
      show Ci (drp (pushS (s1 key t) 0 ⟨⟨t⟩,0,0,0⟩ key ⟨Lf [] t⟩) 0) (Q4 0 ⟨⟨t⟩,0,0,0⟩ key ⟨Lf [] t⟩)=_;have hA:(C8 (Q4 0 ⟨⟨t⟩,0,0,0⟩ key ⟨Lf [] t⟩).patch.Changes [])=(t,⟨0,0⟩):=apN ht;rw [accept_f (D:=⟨⟨t⟩,0,1,0⟩) (key:=key) (N:=[]) (v:=[]) rfl rfl hk hm hl.2 hl.1 (by show ¬ (0+1:Int)≤0;omega) rfl rfl (by simp) (by show 0≤1000;omega) nil_ok rfl (by rw [hA]),hA,accT_empty ht]
      rfl
    rw [Tb step3];rfl
theorem first_run {key:Int} {p:TreePatch} (hk:Mi key) (hp:(pcF p.Changes).Code=0) :
    O2 [key] (evs1 key p)=some (⟨(C8 p.Changes []).1⟩,(if (C8 p.Changes []).1=[] then [] else [⟨0,1,⟨Lf [] (C8 p.Changes []).1⟩⟩]),(if (C8 p.Changes []).1=[] then [(C8 p.Changes []).2.Code,11,6] else [(C8 p.Changes []).2.Code,0,0]),⟨0,0⟩):=by
  have hr:=first_runs hk p;have hv:=(fv1 key p).2 ⟨hk,hp⟩;have ht:=ap_tr p.Changes;by_cases h:(C8 p.Changes []).1=[]
  · rw [if_pos h] at hr;rw [if_pos h,if_pos h,Run_f hv hr (v:=[]) (t:=(C8 p.Changes []).1) (by show [(⟨[]⟩:FileTree)]=_;rw [h];rfl) (by simp) ht]
    rfl
  · rw [if_neg h] at hr;rw [if_neg h,if_neg h,Run_f hv hr (v:=[⟨[]⟩]) (t:=(C8 p.Changes []).1) rfl (by simp) ht]
    rfl
theorem ints_refl (l:List Int) (h:l.length≤1000):Cr l l=some true:=by
  rw [ints_eq l l (by omega),decide_eq_true rfl]
theorem entry_refl {u n:Int} {c:List TreeChange} (h:∀ x∈c,OkCh x) (hl:c.length≤1000):B5 [⟨u,n,⟨c⟩⟩] [⟨u,n,⟨c⟩⟩]=some true:=by
  unfold B5;rw [if_neg (by simp)]
  have e1:B5.l1 [⟨u,n,⟨c⟩⟩] [⟨u,n,⟨c⟩⟩] 0=some (.next 1):=by
    unfold B5.l1;rw [Bc,if_pos (by simp)]
    rw [show at? ([⟨u,n,⟨c⟩⟩]:List ForgeEntry) 0=some ⟨u,n,⟨c⟩⟩ from rfl,Option.bind_some,Option.bind_some];simp only [decide_true,Bool.not_true,Bool.false_eq_true,if_false,Option.bind_some,tp_refl h hl];rw [Cz (by omega) (by omega)];rfl
  have e2:B5.l1 [⟨u,n,⟨c⟩⟩] [⟨u,n,⟨c⟩⟩] 1=some (.done (.inr ())):=by
    unfold B5.l1;rw [Bc,if_neg (by simp)]
  rw [Cx e1,Cb e2,Option.bind_some];rfl
theorem x_okt:K8 [(⟨#[120]⟩:ByteArray)]:=(G6 _).2 ((Ec _).2 (by decide +kernel))
theorem a_tr:TrOk [⟨⟨#[97]⟩,[⟨#[120]⟩]⟩]:=one_ok (by decide +kernel) x_okt
theorem Qr:Dg=some true:=by
  have hd:Lf [] [⟨⟨#[97]⟩,[⟨#[120]⟩]⟩]=[⟨1,⟨#[97]⟩,ByteArray.empty,[⟨#[120]⟩],⟨[]⟩⟩]:=by simp [Lf,adOf,Gy]
  have hA:=apN a_tr;have hO:=(dif_ok rfl a_tr).1;rw [hd] at hA hO;have hp:(pcF [⟨1,⟨#[97]⟩,ByteArray.empty,[⟨#[120]⟩],⟨[]⟩⟩]).Code=0:=(N1 _).2 ⟨by simp,hO⟩
  have hr:=first_run (key:=5) (p:=⟨[⟨1,⟨#[97]⟩,ByteArray.empty,[⟨#[120]⟩],⟨[]⟩⟩]⟩) ⟨by omega,by omega⟩ hp
  simp only at hr;rw [hA] at hr;simp only [List.cons_ne_nil,if_false,hd,reduceCtorEq] at hr;unfold Dg Hs;rw [Option.bind_some];have hr2:=hr;unfold evs1 evE evP evL at hr2;rw [hr2,Option.bind_some];simp only [decide_true,if_true];unfold Kt;rw [Option.bind_some,tree_ok a_tr,Option.bind_some,if_pos rfl,entry_refl hO (by simp),Option.bind_some,if_pos rfl,ints_refl _ (by simp),Option.bind_some]
  rfl
end Go.Dc
set_option linter.unusedSimpArgs false
set_option linter.unusedVariables false
set_option maxRecDepth 4000
namespace Go.Dc
open Go
def BadE (e:ForgeEntry):Prop:=e.User < 0∨e.User ≥ 4∨e.Number < 1∨e.Number > 40
instance (e:ForgeEntry):Decidable (BadE e):=inferInstanceAs (Decidable (_∨_))
theorem leaf_val {e:ForgeEntry} (hb:¬ BadE e) (hp:(pcF e.Patch.Changes).Code=0) :
    Dq e.User [e.Number]=some (pr e.User e.Number)∧Dq (pr e.User e.Number) [pd e.Patch.Changes]=some (pr (pr e.User e.Number) (pd e.Patch.Changes))∧Gs e=some (pr (pr e.User e.Number) (pd e.Patch.Changes)):=by
  unfold BadE at hb;have d1:=Hi (x:=e.User) (by omega) (by omega)
  have d2:=Hi (x:=e.Number) (by omega) (by omega)
  have p1:=Qc d1 d2;have d3:=pd_dig ((N1 _).1 hp).2;have p2:=Qc p1.2.2.1 d3;refine ⟨?_,?_,?_⟩
  · rw [combine_f d1 (by intro s hs;rw [List.mem_singleton] at hs;rw [hs];exact d2) (by simp)];rfl
  · rw [combine_f p1.2.2.1 (by intro s hs;rw [List.mem_singleton] at hs;rw [hs];exact d3) (by simp)];rfl
  · unfold Gs;rw [p1.2.2.2,Option.bind_some];have e1:A1 e.Patch=some (pd e.Patch.Changes):=RPatchDigest_f (p:=e.Patch.Changes) hp;rw [e1,Option.bind_some,p2.2.2.2,Option.bind_some]
noncomputable def lfT (e:ForgeEntry):Int×Fault:=if BadE e then (0,⟨3,-2⟩) else if (pcF e.Patch.Changes).Code≠0 then (0,pcF e.Patch.Changes) else (pr (pr e.User e.Number) (pd e.Patch.Changes),⟨0,0⟩)
theorem bad_chain (e:ForgeEntry):((if decide (e.User < 0)=true then some true else some (decide (e.User ≥ 4))).bind fun x1=>(if x1=true then some true else some (decide (e.Number < 1))).bind fun x2=>if x2=true then some true else some (decide (e.Number > 40)))=some (decide (BadE e)):=by
  unfold BadE;by_cases h1:e.User < 0
  · simp [h1]
  · by_cases h2:e.User ≥ 4
    · simp [h1,h2]
    · by_cases h3:e.Number < 1
      · simp [h1,h2,h3]
      · by_cases h4:e.Number > 40
        · simp [h1,h2,h3,h4]
        · simp [h1,h2,h3,h4]
theorem Leaf_f (e:ForgeEntry):Qi e=some (lfT e):=by
  have hc:=bad_chain e;unfold Qi lfT
  have:∀ (F:Bool→Option (Int×Fault)),((if decide (e.User < 0)=true then some true else some (decide (e.User ≥ 4))).bind fun x1=>(if x1=true then some true else some (decide (e.Number < 1))).bind fun x2=>(if x2=true then some true else some (decide (e.Number > 40))).bind F)=F (decide (BadE e)):=by
    intro F;rw [← Option.bind_some (f:=F) (a:=decide (BadE e)),← hc];cases (if decide (e.User < 0)=true then some true else some (decide (e.User ≥ 4))) with
    | none=>rfl
    | some x1 =>
      simp only [Option.bind_some];cases (if x1=true then some true else some (decide (e.Number < 1))) <;> rfl
  rw [this,Bc];by_cases hb:BadE e
  · rw [if_pos hb,if_pos hb]
  · rw [if_neg hb,if_neg hb,Q3,Option.bind_some];unfold pdT;rcases pcF_ok e.Patch.Changes with h | h
    · have h0:(pcF e.Patch.Changes).Code=0:=by rw [h]
      obtain ⟨c1,c2,_⟩:=leaf_val hb h0;have hz:¬ (pcF e.Patch.Changes).Code≠0:=by omega
      simp only [if_neg hz,decide_true,Bool.and_self,Bool.not_true,Bool.false_eq_true,if_false];rw [c1,Option.bind_some,c2,Option.bind_some]
    · rw [if_pos h,if_pos h];simp only;rw [if_pos (L5.2 fun h2=>h h2.1)]
theorem LeafFault_f (e:ForgeEntry):Gd e=some (if BadE e then ⟨3,-2⟩ else pcF e.Patch.Changes):=by
  unfold Gd BadE;have v1:Bt e.Patch=some (pcF e.Patch.Changes):=RVPatch_f e.Patch;have v2:Cn 3 (-2)=some ⟨3,-2⟩:=rfl;rw [v1,v2];by_cases h1:e.User < 0
  · simp [h1]
  · by_cases h2:e.User > 3
    · have h2':e.User ≥ 4:=by omega
      simp [h1,h2,h2']
    · have h2':¬ e.User ≥ 4:=by omega
      by_cases h3:e.Number < 1
      · simp [h1,h2,h2',h3]
      · by_cases h4:e.Number > 40
        · simp [h1,h2,h2',h3,h4]
        · simp [h1,h2,h2',h3,h4]
theorem digest_spec (p:TreePatch) (e:ForgeEntry):Ee p e=some true:=by
  unfold Ee;rw [Q3,Option.bind_some,Leaf_f,Option.bind_some,RVPatch_f,Option.bind_some,LeafFault_f,Option.bind_some]
  have hp:(pdT p.Changes).2=pcF p.Changes∧((pcF p.Changes).Code=0→A1 p=some (pdT p.Changes).1)∧((pcF p.Changes).Code≠0→(pdT p.Changes).1=0):=by
    unfold pdT;rcases pcF_ok p.Changes with h | h
    · have h0:(pcF p.Changes).Code=0:=by rw [h]
      rw [if_neg (by omega)]
      exact ⟨h.symm,fun _=>RPatchDigest_f (p:=p.Changes) h0,fun hn=>absurd h0 hn⟩
    · rw [if_pos h];exact ⟨rfl,fun hn=>absurd hn h,fun _=>rfl⟩
  have he:(lfT e).2=(if BadE e then ⟨3,-2⟩ else pcF e.Patch.Changes)∧((lfT e).2.Code=0→Gs e=some (lfT e).1)∧((lfT e).2.Code≠0→(lfT e).1=0):=by
    unfold lfT;by_cases hb:BadE e
    · rw [if_pos hb,if_pos hb];exact ⟨rfl,fun hn=>by simp at hn,fun _=>rfl⟩
    · rw [if_neg hb,if_neg hb];rcases pcF_ok e.Patch.Changes with h | h
      · have h0:(pcF e.Patch.Changes).Code=0:=by rw [h]
        rw [if_neg (by omega)]
        exact ⟨h.symm,fun _=>(leaf_val hb h0).2.2,fun hn=>by simp at hn⟩
      · rw [if_pos h];exact ⟨rfl,fun hn=>absurd hn h,fun _=>rfl⟩
  obtain ⟨a1,a2,a3⟩:=hp;obtain ⟨b1,b2,b3⟩:=he;rw [← b1,a1];simp only [decide_true,Bool.and_self,Bool.not_true,Bool.false_eq_true,if_false,Option.bind_some];by_cases h1:(pcF p.Changes).Code=0
  · rw [a2 h1];by_cases h2:(lfT e).2.Code=0
    · rw [b2 h2];simp [h1,h2,Qr]
    · have:=b3 h2;simp [h1,h2,this,Qr]
  · have h3:=a3 h1;by_cases h2:(lfT e).2.Code=0
    · rw [b2 h2];simp [h1,h2,h3,Qr]
    · have:=b3 h2;simp [h1,h2,h3,this,Qr]
end Go.Dc
