import Derived.Test.YtmaepcbnjkanhaaGreatDoorDcF2
set_option linter.unusedSimpArgs false
set_option linter.unusedVariables false
set_option maxRecDepth 4000
namespace Go.Dc
open Go
def Gr (b:List File) (p:ByteArray):List ByteArray:=match b[Ee b p]? with
  | some g=>g.Lines
  | Option.none=>[]
def rmOf (b:List File) (f:File):Option TreeChange:=if Et b f.Path=true then Option.none else some ⟨2,f.Path,ByteArray.empty,f.Lines,⟨[]⟩⟩
def Qf (b:List File) (f:File):Option TreeChange:=if Et b f.Path=true∧Hy f.Lines (Gr b f.Path)≠[] then some (edF f.Path ⟨Hy f.Lines (Gr b f.Path)⟩) else Option.none
def adOf (a:List File) (f:File):Option TreeChange:=if Et a f.Path=true then Option.none else some ⟨1,f.Path,ByteArray.empty,f.Lines,⟨[]⟩⟩
theorem text0 {l:List ByteArray} (h:Gx l):(B8 l).Code=0:=(Dq _).1 ((Ez _).1 h)
theorem diff2_iter {a b:List File} (ha:TrOk a) (hb:TrOk b):∀ (r:List File) (k:Nat) (e d:List TreeChange),a.drop k=r→e.length≤k→d.length≤k →
    Dv (fun s=>Be.l2 ⟨a⟩ ⟨b⟩ s.1 s.2.1 s.2.2) ((k:Int),e,d)=some (e++r.filterMap (Qf b),d++r.filterMap (rmOf b)):=by
  intro r
  induction r with
  | nil =>
    intro k e d hk _ _;have:=Kj hk;refine B9 ?_;show Be.l2 ⟨a⟩ ⟨b⟩ _ _ _=_;unfold Be.l2;simp only;rw [decide_eq_false (by omega),if_neg Bool.false_ne_true]
    simp
  | cons f r ih =>
    intro k e d hk he hd;obtain ⟨hlt,hx,hr⟩:=K5 hk;have hfm:f∈a:=hx ▸ List.getElem_mem hlt;have hft:=ha.text_len hfm;have hal:=ha.len;have hbl:=hb.len
    have j4:∀ (u v:List TreeChange),Be.j4 (k:Int) u v=some (Step.next (((k+1:Nat):Int),v,u)):=by
      intro u v;unfold Be.j4;rw [Cd (by omega) (by omega),Option.bind_some];rfl
    have hs:Be.l2 ⟨a⟩ ⟨b⟩ (k:Int) e d=some (Step.next (((k+1:Nat):Int),e++(Qf b f).toList,d++(rmOf b f).toList)):=by
      unfold Be.l2 Qf rmOf;simp only;rw [decide_eq_true (by omega),if_pos rfl,C3 hlt,Option.bind_some,hx,Find_f hb.srt (by omega),Option.bind_some]
      simp only;cases hh:Et b f.Path with
      | false =>
        rw [if_pos (by rfl),clone_f _ (by omega),Option.bind_some,Gm (by simp;omega),Option.bind_some,j4]
        simp
      | true =>
        obtain ⟨hp,hpe⟩:=Og hb.srt hh;have hgm:=List.getElem_mem hp;rw [if_neg (show ¬ ((!true)=true) by decide),C3 hp,Option.bind_some,script_f,Option.bind_some]
        have h1:=text0 (ha.text f hfm);have h2:=text0 (hb.text _ hgm);rw [if_neg (fun hn=>hn h1),if_neg (fun hn=>hn h2)]
        have hla:Gr b f.Path=b[Ee b f.Path].Lines:=by
          unfold Gr;rw [List.getElem?_eq_getElem hp]
        rw [hla];unfold Be.j5;simp only;by_cases hsc:Hy f.Lines b[Ee b f.Path].Lines=[]
        · rw [decide_eq_false (by rw [hsc];simp),if_neg Bool.false_ne_true,j4]
          simp [hsc]
        · have:0 < (Hy f.Lines b[Ee b f.Path].Lines).length:=List.length_pos_iff.2 hsc;rw [decide_eq_true (by omega),if_pos rfl,Gm (by simp;omega),Option.bind_some,j4]
          simp [hsc,edF]
    rw [Cp (s':=(((k+1:Nat):Int),e++(Qf b f).toList,d++(rmOf b f).toList)) hs];have l1:(Qf b f).toList.length≤1:=by cases Qf b f <;> simp
    have l2:(rmOf b f).toList.length≤1:=by cases rmOf b f <;> simp
    rw [ih (k+1) _ _ hr (by rw [List.length_append];omega) (by rw [List.length_append];omega)]
    rw [List.append_assoc,List.append_assoc];cases h1:Qf b f <;> cases h2:rmOf b f <;> simp [List.filterMap_cons,h1,h2]
theorem diff1_iter {a b:List File} (ha:TrOk a) (hb:TrOk b):∀ (r:List File) (k:Nat) (e:List TreeChange),b.drop k=r→e.length≤k →
    Dv (fun s=>Be.l1 ⟨a⟩ ⟨b⟩ s.1 s.2) ((k:Int),e)=some (e++r.filterMap (adOf a)):=by
  intro r
  induction r with
  | nil =>
    intro k e hk _;have:=Kj hk;refine B9 ?_;show Be.l1 ⟨a⟩ ⟨b⟩ _ _=_;unfold Be.l1;simp only;rw [decide_eq_false (by omega),if_neg Bool.false_ne_true]
    simp
  | cons f r ih =>
    intro k e hk he;obtain ⟨hlt,hx,hr⟩:=K5 hk;have hfm:f∈b:=hx ▸ List.getElem_mem hlt;have hft:=hb.text_len hfm;have hal:=ha.len;have hbl:=hb.len
    have j3:∀ (u:List TreeChange),Be.j3 (k:Int) u=some (Step.next (((k+1:Nat):Int),u)):=by
      intro u;unfold Be.j3;rw [Cd (by omega) (by omega),Option.bind_some];rfl
    have hs:Be.l1 ⟨a⟩ ⟨b⟩ (k:Int) e=some (Step.next (((k+1:Nat):Int),e++(adOf a f).toList)):=by
      unfold Be.l1 adOf;simp only;rw [decide_eq_true (by omega),if_pos rfl,C3 hlt,Option.bind_some,hx,Find_f ha.srt (by omega),Option.bind_some]
      simp only;cases hh:Et a f.Path with
      | false =>
        rw [if_pos (by rfl),clone_f _ (by omega),Option.bind_some,Gm (by simp;omega),Option.bind_some,j3]
        simp
      | true =>
        rw [if_neg (show ¬ ((!true)=true) by decide),j3]
        simp
    rw [Cp (s':=(((k+1:Nat):Int),e++(adOf a f).toList)) hs];have l1:(adOf a f).toList.length≤1:=by cases adOf a f <;> simp
    rw [ih (k+1) _ hr (by rw [List.length_append];omega),List.append_assoc]
    cases h1:adOf a f <;> simp [List.filterMap_cons,h1]
theorem concat3 {x y z:List TreeChange} (hx:x.length≤100) (hy:y.length≤100) (hz:z.length≤100):Bm [x,y,z]=some (x++y++z):=by
  unfold Bm
  have s0:∀ (k:Nat) (v:List TreeChange) (n:Nat),[x,y,z][k]? = some v→v.length≤100→n≤1000→Bm.l2 [x,y,z] (k:Int) (n:Int)=some (Step.next (((k+1:Nat):Int),((n+v.length:Nat):Int))):=by
    intro k v n hv hl hn;have hk:k < 3:=by have:=List.getElem?_eq_some_iff.1 hv;obtain ⟨h,_⟩:=this;simpa using h
    unfold Bm.l2 Bm.j3;have:at? [x,y,z] (k:Int)=some v:=by unfold at?;rw [if_pos (by omega),Int.toNat_natCast,hv]
    rw [if_pos (by simp;omega),this,Option.bind_some,Cd (by omega) (by omega),Option.bind_some,if_neg (by simp;omega),Cd (by omega) (by omega),Option.bind_some];rfl
  have t0:∀ (k:Nat) (v w:List TreeChange),[x,y,z][k]? = some v→v.length≤100→w.length≤1000→Bm.l1 [x,y,z] (k:Int) w=some (Step.next (((k+1:Nat):Int),w++v)):=by
    intro k v w hv hl hn;have hk:k < 3:=by have:=List.getElem?_eq_some_iff.1 hv;obtain ⟨h,_⟩:=this;simpa using h
    unfold Bm.l1;have:at? [x,y,z] (k:Int)=some v:=by unfold at?;rw [if_pos (by omega),Int.toNat_natCast,hv]
    rw [if_pos (by simp;omega),this,Option.bind_some,Gm (by omega),Option.bind_some,Cd (by omega) (by omega),Option.bind_some];rfl
  have e1:Dv (fun s=>Bm.l2 [x,y,z] s.1 s.2) ((0:Int),(0:Int))=some ((0+x.length+y.length+z.length:Nat):Int):=by
    rw [Cp (s':=(((0+1:Nat):Int),((0+x.length:Nat):Int))) (s0 0 x 0 rfl hx (by omega))]
    rw [Cp (s':=(((1+1:Nat):Int),((0+x.length+y.length:Nat):Int))) (s0 1 y _ rfl hy (by omega))]
    rw [Cp (s':=(((2+1:Nat):Int),((0+x.length+y.length+z.length:Nat):Int))) (s0 2 z _ rfl hz (by omega))]
    refine B9 ?_;show Bm.l2 [x,y,z] _ _=_;unfold Bm.l2;rw [if_neg (by simp)]
  rw [e1,Option.bind_some];unfold Bm.j1 Bm.j2
  have e2:grow0 TreeChange 88 ((0+x.length+y.length+z.length:Nat):Int)=some []:=by
    unfold grow0;rw [if_pos ⟨by omega,by omega⟩]
  rw [e2,Option.bind_some]
  have e3:Dv (fun s=>Bm.l1 [x,y,z] s.1 s.2) ((0:Int),([]:List TreeChange))=some (x++y++z):=by
    rw [Cp (s':=(((0+1:Nat):Int),[]++x)) (t0 0 x [] rfl hx (by simp))]
    rw [Cp (s':=(((1+1:Nat):Int),[]++x++y)) (t0 1 y _ rfl hy (by simp;omega))]
    rw [Cp (s':=(((2+1:Nat):Int),[]++x++y++z)) (t0 2 z _ rfl hz (by simp;omega))]
    refine B9 ?_;show Bm.l1 [x,y,z] _ _=_;unfold Bm.l1;rw [if_neg (by simp)];simp
  rw [e3,Option.bind_some]
def L6 (a b:List File):List TreeChange:=a.filterMap (rmOf b)++a.filterMap (Qf b)++b.filterMap (adOf a)
theorem ch_ok {k:Int} {f:File} (hk:k=1∨k=2) (h1:E1 f.Path=true) (h2:Gx f.Lines):OkCh ⟨k,f.Path,ByteArray.empty,f.Lines,⟨[]⟩⟩ :=
  ⟨by simp only;omega,h1,fun h=>by simp only at h;omega,fun _=>rfl,fun h=>by simp only at h;omega,fun h=>by simp only at h;omega,fun _=>rfl,text0 h2,(by decide +kernel:(Eg ⟨[]⟩).Code=0)⟩
theorem Kz {b:List File} (hb:TrOk b) {p:ByteArray} (h:Et b p=true):(⟨p,Gr b p⟩:File)∈b:=by
  obtain ⟨hp,he⟩:=Og hb.srt h
  have e:(⟨p,Gr b p⟩:File)=b[Ee b p]:=by
    unfold Gr;rw [List.getElem?_eq_getElem hp];simp only;generalize b[Ee b p]=g at he;obtain ⟨gp,gl⟩:=g;simp only at he;rw [he]
  rw [e];exact List.getElem_mem hp
theorem has_mem {l:List File} {f:File} (h:f∈l):Et l f.Path=true:=by
  unfold Et;rw [List.any_eq_true];exact ⟨f,h,decide_eq_true rfl⟩
theorem has_ex {l:List File} {p:ByteArray} (h:Et l p=true):∃ f∈l,f.Path=p:=by
  unfold Et at h;rw [List.any_eq_true] at h;obtain ⟨f,hf,e⟩:=h;exact ⟨f,hf,of_decide_eq_true e⟩
theorem rel_ne {b:List File} (hb:TrOk b) {f g:File} (hf:f∈b) (hg:g∈b) (hne:f≠g):Lf f.Path g.Path=false:=by
  obtain ⟨i,hi,rfl⟩:=List.getElem_of_mem hf;obtain ⟨j,hj,rfl⟩:=List.getElem_of_mem hg;rcases Nat.lt_trichotomy i j with h | h | h
  · exact List.pairwise_iff_getElem.1 hb.rel i j hi hj h
  · subst h;exact absurd rfl hne
  · rw [relB_comm];exact List.pairwise_iff_getElem.1 hb.rel j i hj hi h
theorem sub_len:∀ {l b:List File},Gv l→Gv b→(∀ f∈l,f∈b)→l.length≤b.length
  | [],b,_,_,_=>by simp
  | f::l,[],_,_,h=>absurd (h f List.mem_cons_self) (by simp)
  | f::l,g::b,hl,hb,h=>by
    have hl':=List.pairwise_cons.1 hl;have hb':=List.pairwise_cons.1 hb
    have sub:∀ x∈l,x∈b:=by
      intro x hx;rcases List.mem_cons.1 (h x (List.mem_cons_of_mem _ hx)) with e | e
      · subst e;have h1:=hl'.1 x hx;rcases List.mem_cons.1 (h f List.mem_cons_self) with e2 | e2
        · subst e2;rw [H3] at h1;cases h1
        · have:=hb'.1 f e2;rw [L0 this] at h1;cases h1
      · exact e
    have:=sub_len hl'.2 hb'.2 sub;simp only [List.length_cons];omega
abbrev Dis (r:List File):Prop:=r.Pairwise fun f g=>f.Path≠g.Path
theorem rm_run {b:List File}:∀ (r:List File) (k:Nat) (l:List File),TrOk l→Dis r→(∀ f∈r,f∈l) →
    ∃ l',Ky k (r.filterMap (rmOf b)) l=(l',⟨0,0⟩)∧TrOk l'∧∀ g,g∈l'↔g∈l∧∀ f∈r,Et b f.Path=false→g.Path≠f.Path
  | [],k,l,h,_,_=>⟨l,rfl,h,fun g=>by simp⟩
  | f::r,k,l,h,hd,hm=>by
    have hd':=List.pairwise_cons.1 hd;rw [List.filterMap_cons];unfold rmOf;cases hh:Et b f.Path with
    | true =>
      simp only [if_true];obtain ⟨l',e1,e2,e3⟩:=rm_run (b:=b) r k l h hd'.2 fun g hg=>hm g (List.mem_cons_of_mem _ hg);refine ⟨l',e1,e2,fun g=>?_⟩;rw [e3 g];constructor
      · rintro ⟨h1,h2⟩;refine ⟨h1,fun x hx hf=>?_⟩;rcases List.mem_cons.1 hx with rfl | hx
        · rw [hh] at hf;cases hf
        · exact h2 x hx hf
      · rintro ⟨h1,h2⟩;exact ⟨h1,fun x hx hf=>h2 x (List.mem_cons_of_mem _ hx) hf⟩
    | false =>
      simp only [Bool.false_eq_true,if_false];have hf:=hm f List.mem_cons_self;have hc:OkCh ⟨2,f.Path,ByteArray.empty,f.Lines,⟨[]⟩⟩:=ch_ok (.inr rfl) (h.path f hf) (h.text f hf);rcases can_make h hc (x:=Option.none) (.inr (.inl ⟨rfl,hf,rfl⟩)) with ⟨q,_⟩ | ⟨m1,m2⟩
      · cases q
      have h1:=makeF_ok h hc m1;obtain ⟨l',e1,e2,e3⟩:=rm_run (b:=b) r (k+1) _ h1 hd'.2 fun g hg=>(m2 g).2 (.inl ⟨hm g (List.mem_cons_of_mem _ hg),(hd'.1 g hg).symm⟩);refine ⟨l',by rw [Ky,if_neg (by rw [m1];simp)];exact e1,e2,fun g=>?_⟩
      rw [e3 g,m2 g];constructor
      · rintro ⟨⟨q1,q2⟩ | q1,q3⟩
        · refine ⟨q1,fun x hx hf=>?_⟩;rcases List.mem_cons.1 hx with rfl | hx
          · exact q2
          · exact q3 x hx hf
        · cases q1
      · rintro ⟨q1,q2⟩;exact ⟨.inl ⟨q1,q2 f List.mem_cons_self hh⟩,fun x hx hf=>q2 x (List.mem_cons_of_mem _ hx) hf⟩
def Edd (b:List File) (f:File):Prop:=Et b f.Path=true∧Hy f.Lines (Gr b f.Path)≠[]
theorem ed_run {b:List File} (hb:TrOk b):∀ (r:List File) (k:Nat) (l:List File),TrOk l→Dis r→(∀ f∈r,Et b f.Path=true→f∈l) →
    ∃ l',Ky k (r.filterMap (Qf b)) l=(l',⟨0,0⟩)∧TrOk l'∧∀ g,g∈l'↔(g∈l∧∀ f∈r,Edd b f→g.Path≠f.Path)∨∃ f∈r,Edd b f∧g=⟨f.Path,Gr b f.Path⟩
  | [],k,l,h,_,_=>⟨l,rfl,h,fun g=>by simp⟩
  | f::r,k,l,h,hd,hm=>by
    have hd':=List.pairwise_cons.1 hd;rw [List.filterMap_cons];unfold Qf;by_cases hh:Et b f.Path=true∧Hy f.Lines (Gr b f.Path)≠[]
    · rw [if_pos hh];simp only;have hf:=hm f List.mem_cons_self hh.1;have hbm:=Kz hb hh.1;obtain ⟨s1,s2,s3⟩:=Qr (h.text f hf) (hb.text _ hbm);have hc:OkCh (edF f.Path ⟨Hy f.Lines (Gr b f.Path)⟩):=okCh_ed (h.path f hf) hh.2 s1
      have hcan:Can (edF f.Path ⟨Hy f.Lines (Gr b f.Path)⟩) l (some ⟨f.Path,Gr b f.Path⟩) :=
        .inr (.inr (.inr ⟨rfl,f.Lines,hf,by simp only [edF];rw [s2],by simp only [edF];rw [s2]⟩))
      rcases can_make h hc hcan with ⟨q,_⟩ | ⟨m1,m2⟩
      · cases q
      have h1:=makeF_ok h hc m1;obtain ⟨l',e1,e2,e3⟩:=ed_run hb r (k+1) _ h1 hd'.2 fun g hg hgb=>(m2 g).2 (.inl ⟨hm g (List.mem_cons_of_mem _ hg) hgb,(hd'.1 g hg).symm⟩);refine ⟨l',by rw [Ky,if_neg (by rw [m1];simp)];exact e1,e2,fun g=>?_⟩
      rw [e3 g,m2 g];simp only [edF,Option.some.injEq];constructor
      · rintro (⟨⟨q1,q2⟩ | q1,q3⟩ | ⟨x,q1,q2,q3⟩)
        · refine .inl ⟨q1,fun x hx hf=>?_⟩;rcases List.mem_cons.1 hx with rfl | hx
          · exact q2
          · exact q3 x hx hf
        · exact .inr ⟨f,List.mem_cons_self,hh,q1⟩
        · exact .inr ⟨x,List.mem_cons_of_mem _ q1,q2,q3⟩
      · rintro (⟨q1,q2⟩ | ⟨x,q1,q2,q3⟩)
        · exact .inl ⟨.inl ⟨q1,q2 f List.mem_cons_self hh⟩,fun x hx hf=>q2 x (List.mem_cons_of_mem _ hx) hf⟩
        · rcases List.mem_cons.1 q1 with rfl | q1
          · refine .inl ⟨.inr q3,fun y hy _=>?_⟩;rw [q3];exact hd'.1 y hy
          · exact .inr ⟨x,q1,q2,q3⟩
    · rw [if_neg hh];simp only;obtain ⟨l',e1,e2,e3⟩:=ed_run hb r k l h hd'.2 fun g hg=>hm g (List.mem_cons_of_mem _ hg);refine ⟨l',e1,e2,fun g=>?_⟩;rw [e3 g];constructor
      · rintro (⟨q1,q2⟩ | ⟨x,q1,q2,q3⟩)
        · refine .inl ⟨q1,fun x hx hf=>?_⟩;rcases List.mem_cons.1 hx with rfl | hx
          · exact absurd hf hh
          · exact q2 x hx hf
        · exact .inr ⟨x,List.mem_cons_of_mem _ q1,q2,q3⟩
      · rintro (⟨q1,q2⟩ | ⟨x,q1,q2,q3⟩)
        · exact .inl ⟨q1,fun x hx hf=>q2 x (List.mem_cons_of_mem _ hx) hf⟩
        · rcases List.mem_cons.1 q1 with rfl | q1
          · exact absurd q2 hh
          · exact .inr ⟨x,q1,q2,q3⟩
theorem ad_run {a b:List File} (hb:TrOk b):∀ (r:List File) (k:Nat) (l:List File),TrOk l→Dis r→(∀ f∈r,f∈b)→(∀ g∈l,g∈b)→(∀ f∈r,Et a f.Path=false→∀ g∈l,g.Path≠f.Path) →
    ∃ l',Ky k (r.filterMap (adOf a)) l=(l',⟨0,0⟩)∧TrOk l'∧∀ g,g∈l'↔g∈l∨(g∈r∧Et a g.Path=false)
  | [],k,l,h,_,_,_,_=>⟨l,rfl,h,fun g=>by simp⟩
  | f::r,k,l,h,hd,hm,hs,hn=>by
    have hd':=List.pairwise_cons.1 hd;rw [List.filterMap_cons];unfold adOf;cases hh:Et a f.Path with
    | true =>
      simp only [if_true];obtain ⟨l',e1,e2,e3⟩:=ad_run (a:=a) hb r k l h hd'.2 (fun g hg=>hm g (List.mem_cons_of_mem _ hg)) hs (fun g hg=>hn g (List.mem_cons_of_mem _ hg));refine ⟨l',e1,e2,fun g=>?_⟩;rw [e3 g];constructor
      · rintro (q | ⟨q1,q2⟩)
        · exact .inl q
        · exact .inr ⟨List.mem_cons_of_mem _ q1,q2⟩
      · rintro (q | ⟨q1,q2⟩)
        · exact .inl q
        · rcases List.mem_cons.1 q1 with rfl | q1
          · rw [hh] at q2;cases q2
          · exact .inr ⟨q1,q2⟩
    | false =>
      simp only [Bool.false_eq_true,if_false];have hf:=hm f List.mem_cons_self;have hc:OkCh ⟨1,f.Path,ByteArray.empty,f.Lines,⟨[]⟩⟩:=ch_ok (.inl rfl) (hb.path f hf) (hb.text f hf);have hnf:=hn f List.mem_cons_self hh;have hrel:∀ g∈l,Lf g.Path f.Path=false:=fun g hg=>rel_ne hb (hs g hg) hf fun e=>hnf g hg (by rw [e])
      have hra:=Q7.2 hrel
      have hlen:l.length < 24:=by
        have h1:=sub_len (ins_srt h.srt (rel_has hra)) hb.srt fun g hg=>by
          rcases Qb.1 hg with e | e
          · subst e;exact hf
          · exact hs g e
        rw [ins_len] at h1;have:=hb.len;omega
      have hcan:Can ⟨1,f.Path,ByteArray.empty,f.Lines,⟨[]⟩⟩ l (some f):=.inl ⟨rfl,hrel,rfl⟩;rcases can_make h hc hcan with ⟨_,m0⟩ | ⟨m1,m2⟩
      · exfalso;unfold Gz at m0;rw [if_pos rfl] at m0;simp only at m0;rw [hra,if_neg Bool.false_ne_true,if_neg (by omega)] at m0
        cases m0
      have h1:=makeF_ok h hc m1
      obtain ⟨l',e1,e2,e3⟩:=ad_run (a:=a) hb r (k+1) _ h1 hd'.2 (fun g hg=>hm g (List.mem_cons_of_mem _ hg)) (fun g hg=>by
        rcases (m2 g).1 hg with q | q
        · exact hs g q.1
        · cases q;exact hf) (fun x hx hxa g hg=>by
        rcases (m2 g).1 hg with q | q
        · exact hn x (List.mem_cons_of_mem _ hx) hxa g q.1
        · cases q;exact hd'.1 x hx)
      refine ⟨l',by rw [Ky,if_neg (by rw [m1];simp)];exact e1,e2,fun g=>?_⟩
      rw [e3 g,m2 g];simp only [Option.some.injEq];constructor
      · rintro ((⟨q1,_⟩ | q1) | ⟨q1,q2⟩)
        · exact .inl q1
        · subst q1;exact .inr ⟨List.mem_cons_self,hh⟩
        · exact .inr ⟨List.mem_cons_of_mem _ q1,q2⟩
      · rintro (q | ⟨q1,q2⟩)
        · exact .inl (.inl ⟨q,hnf g q⟩)
        · rcases List.mem_cons.1 q1 with rfl | q1
          · exact .inl (.inr rfl)
          · exact .inr ⟨q1,q2⟩
theorem dis_of {l:List File} (h:Gv l):Dis l:=h.imp fun h=>sLt_ne h
theorem dif_ok {a b:List File} (ha:TrOk a) (hb:TrOk b):(∀ c∈L6 a b,OkCh c)∧Ky 0 (L6 a b) a=(b,⟨0,0⟩):=by
  constructor
  · intro c hc;unfold L6 at hc;rw [List.mem_append,List.mem_append,List.mem_filterMap,List.mem_filterMap,List.mem_filterMap] at hc;rcases hc with (⟨f,hf,e⟩ | ⟨f,hf,e⟩) | ⟨f,hf,e⟩
    · unfold rmOf at e;split at e
      · cases e
      · cases e;exact ch_ok (.inr rfl) (ha.path f hf) (ha.text f hf)
    · unfold Qf at e;split at e
      · rename_i hh
        cases e;exact okCh_ed (ha.path f hf) hh.2 (Qr (ha.text f hf) (hb.text _ (Kz hb hh.1))).1
      · cases e
    · unfold adOf at e;split at e
      · cases e
      · cases e;exact ch_ok (.inl rfl) (hb.path f hf) (hb.text f hf)
  · obtain ⟨l1,r1,o1,m1⟩:=rm_run (b:=b) a 0 a ha (dis_of ha.srt) fun f hf=>hf
    have k1:∀ g,g∈l1↔g∈a∧Et b g.Path=true:=by
      intro g;rw [m1 g];constructor
      · rintro ⟨q1,q2⟩;refine ⟨q1,?_⟩;cases hh:Et b g.Path
        · exact absurd rfl (q2 g q1 hh)
        · rfl
      · rintro ⟨q1,q2⟩;exact ⟨q1,fun f hf hff e=>by rw [← e,q2] at hff;cases hff⟩
    obtain ⟨l2,r2,o2,m2⟩:=ed_run hb a (0+(a.filterMap (rmOf b)).length) l1 o1 (dis_of ha.srt) fun f hf hfb=>(k1 f).2 ⟨hf,hfb⟩
    have same:∀ f∈a,Et b f.Path=true→¬ Edd b f→f∈b:=by
      intro f hf hfb hne;have hbm:=Kz hb hfb
      have hsc:Hy f.Lines (Gr b f.Path)=[]:=by
        by_cases h0:Hy f.Lines (Gr b f.Path)=[]
        · exact h0
        · exact absurd ⟨hfb,h0⟩ hne
      have:f.Lines=Gr b f.Path:=(Qr (ha.text f hf) (hb.text _ hbm)).2.2 hsc;rw [← this] at hbm;exact hbm
    have k2:∀ g∈l2,g∈b∧Et a g.Path=true:=by
      intro g hg;rcases (m2 g).1 hg with ⟨q1,q2⟩ | ⟨f,q1,q2,q3⟩
      · obtain ⟨p1,p2⟩:=(k1 g).1 q1;refine ⟨same g p1 p2 fun he=>q2 g p1 he rfl,has_mem p1⟩
      · subst q3;exact ⟨Kz hb q2.1,show Et a f.Path=true from has_mem q1⟩
    obtain ⟨l3,r3,o3,m3⟩:=ad_run (a:=a) hb b (0+(a.filterMap (rmOf b)++a.filterMap (Qf b)).length) l2 o2 (dis_of hb.srt) (fun f hf=>hf) (fun g hg=>(k2 g hg).1) (fun f hf hfa g hg e=>by
      have:=(k2 g hg).2;rw [e,hfa] at this;cases this)
    have hrun:Ky 0 (L6 a b) a=(l3,⟨0,0⟩):=by
      unfold L6
      have e12:Ky 0 (a.filterMap (rmOf b)++a.filterMap (Qf b)) a=(l2,⟨0,0⟩):=by
        rw [run_app _ _ _ _ (by rw [r1]),r1];exact r2
      rw [run_app _ _ _ _ (by rw [e12]),e12];exact r3
    rw [hrun];congr 1;refine res_eq o3.srt hb.srt fun g=>?_;rw [m3 g];constructor
    · rintro (q | ⟨q,_⟩)
      · exact (k2 g q).1
      · exact q
    · intro hg;cases hh:Et a g.Path with
      | false=>exact .inr ⟨hg,rfl⟩
      | true =>
        left;obtain ⟨f,hf,e⟩:=has_ex hh;have hfb:Et b f.Path=true:=by rw [e];exact has_mem hg
        rw [m2 g];by_cases he:Edd b f
        · right;refine ⟨f,hf,he,?_⟩;exact srt_uniq hb.srt hg (Kz hb hfb) e.symm
        · left;have hfg:f=g:=srt_uniq hb.srt (same f hf hfb he) hg e;subst hfg;refine ⟨(k1 f).2 ⟨hf,hfb⟩,fun x hx hxe ex=>?_⟩;have:=srt_uniq ha.srt hf hx ex;subst this;exact he hxe
theorem scr_self:∀ (a:List ByteArray) (s:Cst),(scr a a s).1=s.1
  | [],s=>by simp [scr]
  | x::a,s=>by
    rw [scr,if_pos rfl,scr_self a];rfl
theorem script_self (a:List ByteArray):Hy a a=[]:=scr_self a _
theorem pw_ext {α:Type} {R:α→α→Prop} (asym:∀ x y,R x y→¬ R y x):∀ {a b:List α},a.Pairwise R→b.Pairwise R→(∀ f,f∈a↔f∈b)→a=b
  | [],[],_,_,_=>rfl
  | [],y::b,_,_,h=>absurd ((h y).2 (by simp)) (by simp)
  | x::a,[],_,_,h=>absurd ((h x).1 (by simp)) (by simp)
  | x::a,y::b,ha,hb,h=>by
    rw [List.pairwise_cons] at ha hb;have irr:∀ z,¬ R z z:=fun z hz=>asym z z hz hz
    have e:x=y:=by
      rcases List.mem_cons.1 ((h x).1 (by simp)) with e | h1
      · exact e
      · rcases List.mem_cons.1 ((h y).2 (by simp)) with e | h2
        · exact e.symm
        · exact absurd (hb.1 x h1) (asym _ _ (ha.1 y h2))
    subst e;congr 1;refine pw_ext asym ha.2 hb.2 fun f=>⟨fun hf=>?_,fun hf=>?_⟩
    · rcases List.mem_cons.1 ((h f).1 (List.mem_cons_of_mem _ hf)) with e | h1
      · subst e;exact absurd (ha.1 f hf) (irr f)
      · exact h1
    · rcases List.mem_cons.1 ((h f).2 (List.mem_cons_of_mem _ hf)) with e | h1
      · subst e;exact absurd (hb.1 f hf) (irr f)
      · exact h1
theorem linesAt_of {a:List File} (ha:Gv a) {f:File} (hf:f∈a):Gr a f.Path=f.Lines:=by
  obtain ⟨hp,h1,h2⟩:=mem_has ha (P:=f.Path) (L:=f.Lines) (by cases f;exact hf)
  unfold Gr;rw [List.getElem?_eq_getElem hp,h2]
def edO (a:List File) (f:File):Option TreeChange:=if Et a f.Path=true∧Gr a f.Path≠f.Lines then some (edF f.Path ⟨Hy (Gr a f.Path) f.Lines⟩) else Option.none
theorem ed_pw {b:List File} {F:File→Option TreeChange} (hF:∀ f c,F f=some c→c.Path=f.Path) {a:List File} (ha:Gv a):(a.filterMap F).Pairwise fun c d=>sLt c.Path d.Path=true:=by
  rw [List.pairwise_filterMap];refine ha.imp ?_;intro f g h c hc d hd;rw [hF f c hc,hF g d hd];exact h
theorem ed_eq {a b:List File} (ha:TrOk a) (hb:TrOk b):a.filterMap (Qf b)=b.filterMap (edO a):=by
  refine pw_ext (R:=fun c d:TreeChange=>sLt c.Path d.Path=true) (fun x y h h2=>?_) (ed_pw (b:=b) ?_ ha.srt) (ed_pw (b:=a) ?_ hb.srt) ?_
  · have:=Ni h h2;rw [H3] at this;cases this
  · intro f c h;unfold Qf at h;split at h
    · cases h;rfl
    · cases h
  · intro f c h;unfold edO at h;split at h
    · cases h;rfl
    · cases h
  · intro c;rw [List.mem_filterMap,List.mem_filterMap];constructor
    · rintro ⟨f,hf,e⟩;unfold Qf at e;split at e
      · rename_i hh
        cases e;have hl:=linesAt_of ha.srt hf;refine ⟨⟨f.Path,Gr b f.Path⟩,Kz hb hh.1,?_⟩;unfold edO;simp only;rw [if_pos ⟨has_mem hf,fun e=>hh.2 (by rw [← hl,e];exact script_self _)⟩,hl]
      · cases e
    · rintro ⟨g,hg,e⟩;unfold edO at e;split at e
      · rename_i hh
        cases e;have hl:=linesAt_of hb.srt hg;have hm:=Kz ha hh.1;refine ⟨⟨g.Path,Gr a g.Path⟩,hm,?_⟩;unfold Qf;simp only;have hne:Hy (Gr a g.Path) g.Lines≠[]:=fun e=>hh.2 ((Qr (ha.text _ hm) (hb.text _ hg)).2.2 e);rw [hl,if_pos ⟨has_mem hg,hne⟩]
      · cases e
def Oz (a b:List File):TreePatch×Fault :=
  if (Eq a).Code≠0 then (⟨[]⟩,Eq a) else if (Eq b).Code≠0 then (⟨[]⟩,⟨(Eq b).Code,-2⟩) else if (L6 a b).length > 30 then (⟨[]⟩,⟨10,-1⟩) else (⟨L6 a b⟩,⟨0,0⟩)
theorem tdifT_f (a b:List File):Be ⟨a⟩ ⟨b⟩=some (Oz a b):=by
  unfold Be Oz;rw [Validate_f,Option.bind_some];simp only;rcases Od a with h | h
  · have ha:=(Gt a).1 (by rw [h])
    rw [if_neg (by rw [h];decide),tsecond_f,Option.bind_some,if_neg (show ¬ (Eq a).Code≠0 by rw [h];decide)]
    simp only;by_cases hb0:(Eq b).Code=0
    · have hb:=(Gt b).1 hb0;have hal:=ha.len;have hbl:=hb.len;have i2:=diff2_iter ha hb a 0 [] [] rfl (Nat.le_refl _) (Nat.le_refl _);have i1:=diff1_iter ha hb b 0 [] rfl (Nat.le_refl _);rw [show ((0:Nat):Int)=0 from rfl] at i1 i2;have f1:=List.length_filterMap_le (Qf b) a;have f2:=List.length_filterMap_le (rmOf b) a;have f3:=List.length_filterMap_le (adOf a) b;rw [if_pos hb0,if_neg (by decide),i2,Option.bind_some,if_neg (fun hn=>hn hb0)]
      unfold Be.j1 Be.j2 L6;rw [i1,Option.bind_some];simp only [List.nil_append];rw [concat3 (by omega) (by omega) (by omega),Option.bind_some]
      by_cases h30:((a.filterMap (rmOf b)++a.filterMap (Qf b)++b.filterMap (adOf a)).length:Int) > 30
      · rw [decide_eq_true h30,if_pos rfl,if_pos (by omega)]
      · rw [decide_eq_false h30,if_neg Bool.false_ne_true,if_neg (by omega)]
    · rw [if_neg hb0,if_pos (by simp [hb0]),if_pos hb0]
  · rw [if_pos (by simp [h]),if_pos h]
theorem tp_refl {l:List TreeChange} (h:∀ c∈l,OkCh c) (hl:l.length≤1000):D3 ⟨l⟩ ⟨l⟩=some true:=by
  unfold D3;simp only;rw [if_neg (by simp),scan0 l (fun _ _=>(Option.none:Option Bool)) ?_ ?_,Option.bind_some]
  · have:Gi (fun _ _=>(Option.none:Option Bool)) 0 l=Option.none:=by rw [Ml];intro j hj;rfl
    rw [this];rfl
  · intro k hk _;unfold D3.l1;simp only;rw [decide_eq_true (by omega),if_pos rfl,C3 hk,Option.bind_some,Option.bind_some,refl_ok (h _ (List.getElem_mem hk)),Option.bind_some,if_neg (by decide),Cd (by omega) (by omega),Option.bind_some];rfl
  · unfold D3.l1;rw [decide_eq_false (by simp),if_neg Bool.false_ne_true]
theorem difL_ok {a b:List File} (ha:TrOk a) (hb:TrOk b):∀ c∈L6 a b,OkCh c:=by
  intro c hc;unfold L6 at hc;rw [List.mem_append,List.mem_append,List.mem_filterMap,List.mem_filterMap,List.mem_filterMap] at hc;rcases hc with (⟨f,hf,e⟩ | ⟨f,hf,e⟩) | ⟨f,hf,e⟩
  · unfold rmOf at e;split at e
    · cases e
    · cases e;exact ch_ok (.inr rfl) (ha.path f hf) (ha.text f hf)
  · unfold Qf at e;split at e
    · rename_i hh
      cases e;exact okCh_ed (ha.path f hf) hh.2 (Qr (ha.text f hf) (hb.text _ (Kz hb hh.1))).1
    · cases e
  · unfold adOf at e;split at e
    · cases e
    · cases e;exact ch_ok (.inl rfl) (hb.path f hf) (hb.text f hf)
theorem ints_eq (a b:List Int) (hb:a.length≤1000000):Cj a b=some (decide (a=b)):=by
  unfold Cj;rw [Ls];by_cases hl:(a.length:Int)=(b.length:Int)
  · rw [if_pos hl];have hl':a.length=b.length:=by omega
    obtain ⟨r,h1,h2⟩:=L4 (m:=fun s=>Cj.l1 a b s) (fun s=>∃ k:Nat,s=(k:Int)∧k≤a.length∧a.take k=b.take k) (fun s=>a.length - s.toNat)
      (fun r=>(r=.inr ()∧a=b)∨(r=.inl false∧a≠b)) (by
        rintro s ⟨k,rfl,hk,hall⟩;unfold Cj.l1;rw [Bb];by_cases hlt:k < a.length
        · rw [if_pos (by omega),C3 hlt,Option.bind_some,C3 (by omega),Option.bind_some,Ls]
          by_cases he:a[k]=b[k]
          · rw [if_pos he,Cd (by omega) (by omega),Option.bind_some]
            exact .inl ⟨_,rfl,⟨k+1,by omega,hlt,by rw [List.take_succ_eq_append_getElem hlt,List.take_succ_eq_append_getElem (by omega),hall,he]⟩,by omega⟩
          · rw [if_neg he];exact .inr ⟨_,rfl,.inr ⟨rfl,fun h=>he (by subst h;rfl)⟩⟩
        · rw [if_neg (by omega)]
          refine .inr ⟨_,rfl,.inl ⟨rfl,?_⟩⟩;rw [List.take_of_length_le (by omega),List.take_of_length_le (by omega)] at hall
          exact hall) 0 ⟨0,rfl,Nat.zero_le _,by simp⟩
    rw [h1,Option.bind_some];rcases h2 with ⟨rfl,h⟩ | ⟨rfl,h⟩
    · rw [decide_eq_true h];rfl
    · rw [decide_eq_false h]
  · rw [if_neg hl,decide_eq_false (fun h=>hl (by rw [h]))]
theorem Nx {x m:Int} (h0:0≤x) (hm:0 < m):rem? x m=some (x % m):=by
  unfold rem?;rw [if_neg (by omega),Int.tmod_eq_emod_of_nonneg h0]
theorem shr1 {b:Int}:shr? .i64 b 1=some (b / 2):=by
  unfold shr?;rw [if_neg (by decide)]
  have:(2:Int) ^ (min (1:Int).toNat IntKind.i64.bits)=2:=by decide
  rw [this,Int.fdiv_eq_ediv_of_nonneg _ (by decide)]
def Dig (x:Int):Prop:=0≤x∧x < 2305843009213693951
theorem dig_mod {x:Int}:Dig (x % 2305843009213693951):=⟨Int.emod_nonneg _ (by decide),Int.emod_lt_of_pos _ (by decide)⟩
theorem mul_ok {a b:Int} (ha:Dig a) (hb:0≤b):∃ r,Cz a b=some r∧Dig r:=by
  unfold Cz
  obtain ⟨r,h1,h2⟩:=L4 (m:=fun s:Int×Int×Int=>Cz.l1 s.1 s.2.1 s.2.2) (fun s=>Dig s.1∧Dig s.2.1∧0≤s.2.2) (fun s=>s.2.2.toNat) Dig (by
    rintro ⟨o,x,y⟩ ⟨h1,h2,h3⟩;simp only at h1 h2 h3 ⊢;obtain ⟨p1,p2⟩:=h1;obtain ⟨q1,q2⟩:=h2;unfold Cz.l1;simp only [Bb];by_cases hy:y > 0
    · left;rw [if_pos hy]
      have j2:∀ o',Dig o'→∃ s',Cz.j2 x y o'=some (.next s')∧(Dig s'.1∧Dig s'.2.1∧0≤s'.2.2)∧s'.2.2.toNat < y.toNat:=by
        intro o' ho;unfold Cz.j2;rw [Cd (by omega) (by omega),Option.bind_some,Nx (by omega) (by decide),Option.bind_some,shr1,Option.bind_some]
        exact ⟨_,rfl,⟨ho,dig_mod,by simp only;omega⟩,by simp only;omega⟩
      by_cases hc:andI .i64 y 1=1
      · rw [if_pos hc,Cd (by omega) (by omega),Option.bind_some,Nx (by omega) (by decide),Option.bind_some]
        exact j2 _ dig_mod
      · rw [if_neg hc];exact j2 _ ⟨p1,p2⟩
    · right;rw [if_neg hy];exact ⟨_,rfl,p1,p2⟩) (0,a,b) ⟨⟨Int.le_refl 0,(by decide:(0:Int) < 2305843009213693951)⟩,ha,hb⟩
  rw [h1,Option.bind_some];exact ⟨r,rfl,h2⟩
theorem dnext_ok {s:Step_digest} {f:Int} (h0:Dig s.e0) (h1:Dig s.e1) (hf:0≤f):∃ r,H4 s f=some r∧Dig r:=by
  obtain ⟨r,h2,h3,h4⟩:=mul_ok h0 hf;unfold H4;obtain ⟨p1,p2⟩:=h1;rw [h2,Option.bind_some,Cd (by omega) (by omega),Option.bind_some,Nx (by omega) (by decide),Option.bind_some]
  exact ⟨_,rfl,dig_mod⟩
theorem of_ok {l:List UInt8} (hl:l.length≤4096):∃ r,Dy l=some (r,⟨0,0⟩)∧Dig r:=by
  unfold Dy;rw [Bb,if_neg (by omega)]
  obtain ⟨r,h1,h2⟩:=L4 (m:=fun s:Int×Int=>Dy.l1 l s.1 s.2) (fun s=>∃ k:Nat,s.1=(k:Int)∧k≤l.length∧Dig s.2) (fun s=>l.length - s.1.toNat) Dig (by
    rintro ⟨x,h⟩ ⟨k,hx,hk,hd⟩;simp only at hx hd ⊢;subst hx;unfold Dy.l1;rw [Bb];by_cases hlt:k < l.length
    · left;have hb:(l[k]).toNat < 256:=(l[k]).toNat_lt;rw [if_pos (by omega),C3 hlt,Option.bind_some,Cd (by omega) (by omega),Option.bind_some,Cd (by omega) (by omega),Option.bind_some]
      obtain ⟨r,e1,e2⟩:=dnext_ok (s:={ e0:=h,e1:=((l[k]).toNat:Int)+1 }) (f:=257) hd ⟨by simp only;omega,by simp only;omega⟩ (by decide)
      rw [e1,Option.bind_some,Cd (by omega) (by omega),Option.bind_some]
      exact ⟨_,rfl,⟨k+1,by simp,hlt,e2⟩,by simp only;omega⟩
    · right;rw [if_neg (by omega)]
      exact ⟨_,rfl,hd⟩) (0,1) ⟨0,rfl,Nat.zero_le _,by decide,by decide⟩
  rw [h1,Option.bind_some];exact ⟨r,rfl,h2⟩
theorem pair_ok {a b:Int} (ha:Dig a) (hb:Dig b):∃ r,Hf a b=some r∧Dig r:=by
  unfold Hf;obtain ⟨r,h1,h2⟩:=dnext_ok (s:={ e0:=b,e1:=7 }) (f:=31) hb ⟨(by decide:(0:Int)≤7),(by decide:(7:Int) < 2305843009213693951)⟩ (by decide)
  rw [h1,Option.bind_some];obtain ⟨r',h3,h4⟩:=dnext_ok (s:={ e0:=a,e1:=r }) (f:=1000003) ha h2 (by decide)
  rw [h3];exact ⟨r',rfl,h4⟩
theorem is_eq {a:Int} (h:Dig a):Qs a=some true:=by
  obtain ⟨h1,h2⟩:=h;unfold Qs;rw [Bb,if_pos h1,Option.bind_some,decide_eq_true h2]
theorem Pair_ok {a b:Int} (ha:Dig a) (hb:Dig b):∃ r,Cy a b=some (r,⟨0,0⟩)∧Dig r:=by
  unfold Cy
  have:Dv (fun s=>Cy.l1 a b s) 0=some (.inr ()):=by
    refine iter_eq_of (fun s=>s=0∨s=1∨s=2) (fun s=>2 - s.toNat) _ ?_ _ (.inl rfl);rintro s (rfl | rfl | rfl)
    · left;unfold Cy.l1;rw [Bb,if_pos (by decide),show at? [a,b] 0=some a from rfl,Option.bind_some,is_eq ha,Option.bind_some,if_neg (by decide),Cd (by decide) (by decide),Option.bind_some]
      exact ⟨_,rfl,.inr (.inl rfl),by decide⟩
    · left;unfold Cy.l1;rw [Bb,if_pos (by decide),show at? [a,b] 1=some b from rfl,Option.bind_some,is_eq hb,Option.bind_some,if_neg (by decide),Cd (by decide) (by decide),Option.bind_some]
      exact ⟨_,rfl,.inr (.inr rfl),by decide⟩
    · right;unfold Cy.l1;rw [Bb,if_neg (by decide)]
  rw [this,Option.bind_some];simp only;unfold Cy.j1;obtain ⟨r,h1,h2⟩:=pair_ok ha hb;rw [h1,Option.bind_some];exact ⟨r,rfl,h2⟩
theorem and1 {y:Int} (h0:0≤y) (h1:y≤9223372036854775807):andI .i64 y 1=y % 2:=by
  obtain ⟨n,rfl⟩:=Int.eq_ofNat_of_zero_le h0;unfold andI;rw [BitVec.toNat_and]
  have e1:(BitVec.ofInt IntKind.i64.bits (n:Int)).toNat=n:=by
    rw [BitVec.toNat_ofInt];show ((n:Int) % ((2 ^ 64:Nat):Int)).toNat=n;omega
  have e2:(BitVec.ofInt IntKind.i64.bits 1).toNat=1:=by decide
  rw [e1,e2,Nat.and_one_is_mod,i64_wrap (by omega) (by omega)]
  omega
theorem quo2 {x:Int} (h0:0≤x) (h1:x≤9223372036854775807):quo? .i64 x 2=some (x / 2):=by
  unfold quo?;rw [if_neg (by decide),Int.tdiv_eq_ediv_of_nonneg h0,Cd (by omega) (by omega)]
theorem times_iter:∀ (n:Nat) (o x y:Int),y.toNat=n→Dig o→Dig x→0≤y→y≤9223372036854775807 →
    Dv (fun s:Int×Int×Int=>Bs.l1 s.1 s.2.1 s.2.2) (o,x,y)=Dv (fun s:Int×Int×Int=>Cz.l1 s.1 s.2.1 s.2.2) (o,x,y):=by
  intro n
  induction n using Nat.strongRecOn with
  | _ n ih =>
    intro o x y hn ho hx h0 h1;obtain ⟨p1,p2⟩:=ho;obtain ⟨q1,q2⟩:=hx;by_cases hy:y > 0
    · have s1:∃ o',Dig o'∧Bs.l1 o x y=some (.next (o',(x+x) % 2305843009213693951,y / 2))∧Cz.l1 o x y=some (.next (o',(x+x) % 2305843009213693951,y / 2)):=by
        have j1:∀ o',Bs.j2 x y o'=some (.next (o',(x+x) % 2305843009213693951,y / 2)):=by
          intro o';unfold Bs.j2;rw [Cd (by omega) (by omega),Option.bind_some,Nx (by omega) (by decide),Option.bind_some,quo2 h0 h1,Option.bind_some]
        have j2:∀ o',Cz.j2 x y o'=some (.next (o',(x+x) % 2305843009213693951,y / 2)):=by
          intro o';unfold Cz.j2;rw [Cd (by omega) (by omega),Option.bind_some,Nx (by omega) (by decide),Option.bind_some,shr1,Option.bind_some,Int.two_mul]
        by_cases hc:y % 2=1
        · refine ⟨(o+x) % 2305843009213693951,dig_mod,?_,?_⟩
          · unfold Bs.l1;rw [Bb,if_pos hy,Nx h0 (by decide),Option.bind_some,Bb,if_pos hc,Cd (by omega) (by omega),Option.bind_some,Nx (by omega) (by decide),Option.bind_some,j1]
          · unfold Cz.l1;rw [Bb,if_pos hy,Bb,and1 h0 h1,if_pos hc,Cd (by omega) (by omega),Option.bind_some,Nx (by omega) (by decide),Option.bind_some,j2]
        · refine ⟨o,⟨p1,p2⟩,?_,?_⟩
          · unfold Bs.l1;rw [Bb,if_pos hy,Nx h0 (by decide),Option.bind_some,Bb,if_neg hc,j1]
          · unfold Cz.l1;rw [Bb,if_pos hy,Bb,and1 h0 h1,if_neg hc,j2]
      obtain ⟨o',hd,e1,e2⟩:=s1;rw [Cp (m:=fun s:Int×Int×Int=>Bs.l1 s.1 s.2.1 s.2.2) e1,Cp (m:=fun s:Int×Int×Int=>Cz.l1 s.1 s.2.1 s.2.2) e2];exact ih (y / 2).toNat (by omega) _ _ _ rfl hd dig_mod (by omega) (by omega)
    · have e1:Bs.l1 o x y=some (.done o):=by unfold Bs.l1;rw [Bb,if_neg hy]
      have e2:Cz.l1 o x y=some (.done o):=by unfold Cz.l1;rw [Bb,if_neg hy]
      rw [B9 (m:=fun s:Int×Int×Int=>Bs.l1 s.1 s.2.1 s.2.2) e1,B9 (m:=fun s:Int×Int×Int=>Cz.l1 s.1 s.2.1 s.2.2) e2]
theorem times_f {a b:Int} (ha:Dig a) (h0:0≤b) (h1:b≤9223372036854775807):Bs a b=Cz a b:=by
  unfold Bs Cz;rw [times_iter b.toNat 0 a b rfl ⟨by decide,by decide⟩ ha h0 h1];rfl
theorem next_ref {h z f:Int} (hh:Dig h) (hz:0≤z∧z≤2305843009213693951) (hf:0≤f):∃ r,Cz h f=some r∧Dig r∧H4 ⟨h,z⟩ f=some ((r+z) % 2305843009213693951):=by
  obtain ⟨r,h2,h3,h4⟩:=mul_ok hh hf;refine ⟨r,h2,⟨h3,h4⟩,?_⟩;unfold H4;simp only;rw [h2,Option.bind_some,Cd (by omega) (by omega),Option.bind_some,Nx (by omega) (by decide),Option.bind_some]
theorem of_iter (l:List UInt8) (hl:l.length≤4096):∀ (n k:Nat) (h:Int),l.length - k=n→k≤l.length→Dig h →
    Dv (fun s:Int×Int=>Cg.l1 l s.1 s.2) ((k:Int),h)=Dv (fun s:Int×Int=>Dy.l1 l s.1 s.2) ((k:Int),h)
  | 0,k,h,hn,hk,hd=>by
    have e1:Cg.l1 l (k:Int) h=some (.done h):=by unfold Cg.l1;rw [Bb,if_neg (by omega)]
    have e2:Dy.l1 l (k:Int) h=some (.done h):=by unfold Dy.l1;rw [Bb,if_neg (by omega)]
    rw [B9 (m:=fun s:Int×Int=>Cg.l1 l s.1 s.2) e1,B9 (m:=fun s:Int×Int=>Dy.l1 l s.1 s.2) e2]
  | n+1,k,h,hn,hk,hd=>by
    have hk:k < l.length:=by omega
    have hb:(l[k].toNat:Int) < 256:=by have:=l[k].toNat_lt;omega
    obtain ⟨r,h1,⟨h2,h3⟩,h4⟩:=next_ref (z:=(l[k].toNat:Int)+1) (f:=257) hd ⟨by omega,by omega⟩ (by decide)
    have e1:Cg.l1 l (k:Int) h=some (.next (((k+1:Nat):Int),(r+((l[k].toNat:Int)+1)) % 2305843009213693951)):=by
      unfold Cg.l1
      rw [Bb,if_pos (by omega),C3 hk,Option.bind_some,Cd (by omega) (by omega),Option.bind_some,times_f hd (by decide) (by decide),h1,Option.bind_some,Cd (by omega) (by omega),Option.bind_some,Cd (by omega) (by omega),Option.bind_some,
        Nx (by omega) (by decide),Option.bind_some,Cd (by omega) (by omega),Option.bind_some,Int.add_assoc];rfl
    have e2:Dy.l1 l (k:Int) h=some (.next (((k+1:Nat):Int),(r+((l[k].toNat:Int)+1)) % 2305843009213693951)):=by
      unfold Dy.l1;rw [Bb,if_pos (by omega),C3 hk,Option.bind_some,Cd (by omega) (by omega),Option.bind_some,Cd (by omega) (by omega),Option.bind_some,h4,Option.bind_some,Cd (by omega) (by omega),Option.bind_some];rfl
    rw [Cp (m:=fun s:Int×Int=>Cg.l1 l s.1 s.2) e1,Cp (m:=fun s:Int×Int=>Dy.l1 l s.1 s.2) e2];exact of_iter l hl n (k+1) _ (by omega) (by omega) dig_mod
theorem DigestOf_f {l:List UInt8} (hl:l.length≤4096) {d:Int} {f:Fault} (h:Dy l=some (d,f)):Cg l=some d:=by
  unfold Dy at h;rw [Bb,if_neg (by omega)] at h
  unfold Cg;have:=of_iter l hl _ 0 1 rfl (Nat.zero_le _) ⟨by decide,by decide⟩
  rw [show ((0:Nat):Int)=0 from rfl] at this;rw [this];generalize Dv (fun s:Int×Int=>Dy.l1 l s.1 s.2) (0,1)=x at h;cases x with
  | none=>cases h
  | some v=>rw [Option.bind_some] at h ⊢;unfold Dy.j1 at h;cases h;rfl
theorem Pair_pair {a b:Int} (ha:Dig a) (hb:Dig b):Cy a b=(Hf a b).bind fun y=>some (y,⟨0,0⟩):=by
  unfold Cy
  have s0:Cy.l1 a b 0=some (.next 1):=by
    unfold Cy.l1;rw [Bb,if_pos (by decide),show at? [a,b] 0=some a from rfl,Option.bind_some,is_eq ha,Option.bind_some,if_neg (by decide),Cd (by decide) (by decide),Option.bind_some];rfl
  have s1:Cy.l1 a b 1=some (.next 2):=by
    unfold Cy.l1;rw [Bb,if_pos (by decide),show at? [a,b] 1=some b from rfl,Option.bind_some,is_eq hb,Option.bind_some,if_neg (by decide),Cd (by decide) (by decide),Option.bind_some];rfl
  have s2:Cy.l1 a b 2=some (.done (.inr ())):=by
    unfold Cy.l1;rw [Bb,if_neg (by decide)]
  rw [Cp s0,Cp s1,B9 s2,Option.bind_some];rfl
theorem DigestPair_f {a b r:Int} {f:Fault} (ha:Dig a) (hb:Dig b) (h:Cy a b=some (r,f)):Gq a b=some r:=by
  rw [Pair_pair ha hb] at h;obtain ⟨r1,a1,⟨a2,a3⟩,a4⟩:=next_ref (z:=7) (f:=31) hb ⟨by decide,by decide⟩ (by decide)
  obtain ⟨r2,b1,⟨b2,b3⟩,b4⟩:=next_ref (z:=(r1+7) % 2305843009213693951) (f:=1000003) ha ⟨by omega,by omega⟩ (by decide)
  have e:Hf a b=some ((r2+(r1+7) % 2305843009213693951) % 2305843009213693951):=by
    unfold Hf;rw [a4,Option.bind_some,b4,Option.bind_some]
  rw [e,Option.bind_some] at h;cases h;unfold Gq;rw [times_f ha (by decide) (by decide),b1,Option.bind_some,times_f hb (by decide) (by decide),a1,Option.bind_some,Cd (by omega) (by omega),Option.bind_some,Cd (by omega) (by omega),Option.bind_some,Nx (by omega) (by decide),Option.bind_some]
  congr 1;omega
theorem ed_one {path:ByteArray} {base:List ByteArray} {p:Patch}:Gz (edF path p) [⟨path,base⟩]=if (Gk p base).2.Code≠0 then ((Gk p base).2.Code,[⟨path,base⟩]) else (0,[⟨path,(Gk p base).1⟩]):=by
  have hp:Ee [(⟨path,base⟩:File)] path=0:=by
    unfold Ee;rw [List.takeWhile_cons,H3];rfl
  have hh:Et [(⟨path,base⟩:File)] path=true:=by simp [Et]
  unfold Gz edF;simp only [hp,hh,if_true,List.getElem?_cons_zero];rw [if_neg (by decide),if_neg (by decide),if_neg (by decide)]
  rfl
end Go.Dc
set_option linter.unusedSimpArgs false
set_option linter.unusedVariables false
set_option maxRecDepth 4000
noncomputable section
namespace Go.Dc
open Go
def dg (l:List UInt8):Int:=((Dy l).map (·.1)).getD 0
def pr (a b:Int):Int:=((Cy a b).map (·.1)).getD 0
theorem dg_ok {l:List UInt8} (hl:l.length≤4096):Dy l=some (dg l,⟨0,0⟩)∧Dig (dg l)∧Cg l=some (dg l):=by
  obtain ⟨r,h1,h2⟩:=of_ok hl;have e:dg l=r:=by unfold dg;rw [h1];rfl
  rw [e];exact ⟨h1,h2,DigestOf_f hl h1⟩
theorem pr_ok {a b:Int} (ha:Dig a) (hb:Dig b):Cy a b=some (pr a b,⟨0,0⟩)∧Hf a b=some (pr a b)∧Dig (pr a b)∧Gq a b=some (pr a b):=by
  obtain ⟨r,h1,h2⟩:=Pair_ok ha hb;have e:pr a b=r:=by unfold pr;rw [h1];rfl
  rw [e];refine ⟨h1,?_,h2,DigestPair_f ha hb h1⟩;rw [Pair_pair ha hb] at h1;obtain ⟨r',h3,_⟩:=pair_ok ha hb;rw [h3,Option.bind_some] at h1;cases h1;exact h3
theorem Kr {x:Int} (h0:0≤x) (h1:x≤1000000000000):Dig x:=⟨h0,by omega⟩
def ds (l:List ByteArray):Int:=l.foldl (fun h s=>pr h (dg s.data.toList)) 2
theorem line_len {s:ByteArray} (h:s.size≤4096):s.data.toList.length≤4096:=by rw [Array.length_toList];exact h
theorem dfold_dig:∀ (l:List ByteArray) (x:Int),Dig x→(∀ s∈l,s.size≤4096)→Dig (l.foldl (fun h s=>pr h (dg s.data.toList)) x)
  | [],_,h,_=>h
  | s::l,x,h,hl=>dfold_dig l _ (pr_ok h (dg_ok (line_len (hl s (by simp)))).2.1).2.2.1 fun t ht=>hl t (by simp [ht])
theorem ds_ok {m:List ByteArray} (h:Gx m):Dw m=some (ds m,⟨0,0⟩)∧Dig (ds m)∧C8 m=some (ds m,⟨0,0⟩)∧E5 m=some (ds m):=by
  have hl:=h.1;have hs:∀ s∈m,s.size≤4096:=fun s hs=>Nat.le_trans (h.2 s hs).1 (by decide)
  have hd:Dig (ds m):=dfold_dig m 2 (Kr (by decide) (by decide)) hs
  have k1:Dw m=some (ds m,⟨0,0⟩):=by
    unfold Dw;rw [Bb,if_neg (by omega)]
    obtain ⟨r,hr,rfl⟩:=Mb (f:=fun s:Int×Int=>Dw.l1 m s.1 s.2) m.length (fun k x=>x=(m.take k).foldl (fun h s=>pr h (dg s.data.toList)) 2) (fun r=>r=.inr (ds m))
      (by
        rintro k x hk rfl;have hx:Dig ((m.take k).foldl (fun h s=>pr h (dg s.data.toList)) 2):=dfold_dig _ 2 (Kr (by decide) (by decide)) fun s hs'=>hs s (List.mem_of_mem_take hs')
        refine ⟨_,?_,rfl⟩;rw [List.take_succ_eq_append_getElem hk,List.foldl_append];generalize (m.take k).foldl (fun h s=>pr h (dg s.data.toList)) 2=x at hx ⊢;obtain ⟨d1,d2,_⟩:=dg_ok (line_len (hs _ (List.getElem_mem hk)));unfold Dw.l1;rw [Bb,if_pos (by omega),C3 hk,Option.bind_some,d1,Option.bind_some]
        simp only [decide_true,Bool.and_self,Bool.not_true,Bool.false_eq_true,if_false];rw [(pr_ok hx d2).2.1,Option.bind_some,Cd (by omega) (by omega),Option.bind_some];rfl)
      (by
        rintro x rfl;unfold Dw.l1;rw [Bb,if_neg (by omega),List.take_length]
        exact ⟨_,rfl,rfl⟩) 2 rfl
    rw [hr,Option.bind_some];rfl
  refine ⟨k1,hd,?_,by unfold E5;rw [k1,Option.bind_some]⟩
  unfold C8;rw [Bb,if_neg (by omega)]
  obtain ⟨r,hr,rfl⟩:=Mb (f:=fun s:Int×Int=>C8.l1 m s.1 s.2) m.length (fun k x=>x=(m.take k).foldl (fun h s=>pr h (dg s.data.toList)) 2) (fun r=>r=.inr (ds m))
    (by
      rintro k x hk rfl;have hx:Dig ((m.take k).foldl (fun h s=>pr h (dg s.data.toList)) 2):=dfold_dig _ 2 (Kr (by decide) (by decide)) fun s hs'=>hs s (List.mem_of_mem_take hs')
      refine ⟨_,?_,rfl⟩;rw [List.take_succ_eq_append_getElem hk,List.foldl_append];generalize (m.take k).foldl (fun h s=>pr h (dg s.data.toList)) 2=x at hx ⊢;have hz:=hs _ (List.getElem_mem hk);obtain ⟨_,d2,d3⟩:=dg_ok (line_len hz);unfold C8.l1;rw [Bb,if_pos (by omega),C3 hk,Option.bind_some,Bb,if_neg (by omega),Option.bind_some,d3,Option.bind_some,(pr_ok hx d2).2.2.2,Option.bind_some,Cd (by omega) (by omega),Option.bind_some];rfl)
    (by
      rintro x rfl;unfold C8.l1;rw [Bb,if_neg (by omega),List.take_length]
      exact ⟨_,rfl,rfl⟩) 2 rfl
  rw [hr,Option.bind_some];rfl
theorem Qn:∀ (l:List Int) (x:Int),Dig x→(∀ s∈l,Dig s)→Dig (l.foldl pr x)
  | [],_,h,_=>h
  | s::l,x,h,hl=>Qn l _ (pr_ok h (hl s (by simp))).2.2.1 fun t ht=>hl t (by simp [ht])
theorem combine_f {h:Int} {l:List Int} (hh:Dig h) (hl:∀ s∈l,Dig s) (hn:l.length≤1000):D8 h l=some (l.foldl pr h):=by
  unfold D8
  obtain ⟨r,hr,rfl⟩:=Mb (f:=fun s:Int×Int=>D8.l1 l s.1 s.2) l.length (fun k x=>x=(l.take k).foldl pr h) (fun r=>r=l.foldl pr h)
    (by
      rintro k x hk rfl;have hx:=Qn (l.take k) h hh fun s hs=>hl s (List.mem_of_mem_take hs);refine ⟨_,?_,rfl⟩;rw [List.take_succ_eq_append_getElem hk,List.foldl_append];generalize (l.take k).foldl pr h=x at hx ⊢;unfold D8.l1;rw [Bb,if_pos (by omega),C3 hk,Option.bind_some,(pr_ok hx (hl _ (List.getElem_mem hk))).1,Option.bind_some,Cd (by omega) (by omega),Option.bind_some];rfl)
    (by
      rintro x rfl;unfold D8.l1;rw [Bb,if_neg (by omega),List.take_length]
      exact ⟨_,rfl,rfl⟩) h rfl
  rw [hr,Option.bind_some];rfl
def hd (x:Int) (h:Hunk):Int:=[h.At,ds h.Old,ds h.New].foldl pr x
def cd0 (x:Int) (c:TreeChange):Int:=[c.Kind,dg c.Path.data.toList,dg c.To.data.toList,ds c.Lines].foldl pr x
def cd (x:Int) (c:TreeChange):Int:=c.Patch.Hunks.foldl hd (cd0 x c)
def pd (p:List TreeChange):Int:=p.foldl cd 3
structure HOk (h:Hunk):Prop where
  at0:Dig h.At
  old:Gx h.Old
  new:Gx h.New
theorem hunks_ok {c:TreeChange} (hc:OkCh c):c.Patch.Hunks.length≤130∧∀ h∈c.Patch.Hunks,HOk h:=by
  obtain ⟨h1,h2⟩:=(Lc _).1 hc.patch;refine ⟨h1,fun x hx=>?_⟩;obtain ⟨a1,a2,a3,a4,_⟩:=good_at h2 (by omega) x hx
  exact ⟨Kr (by omega) (by omega),(Ez _).2 ((Dq _).2 a3),(Ez _).2 ((Dq _).2 a4)⟩
theorem hd_list {h:Hunk} (hh:HOk h):∀ s∈[h.At,ds h.Old,ds h.New],Dig s:=by
  intro s hs;simp only [List.mem_cons,List.not_mem_nil,or_false] at hs;rcases hs with rfl | rfl | rfl
  · exact hh.at0
  · exact (ds_ok hh.old).2.1
  · exact (ds_ok hh.new).2.1
theorem hd_dig {x:Int} {h:Hunk} (hx:Dig x) (hh:HOk h):Dig (hd x h):=Qn _ _ hx (hd_list hh)
theorem hds_dig:∀ (l:List Hunk) (x:Int),Dig x→(∀ h∈l,HOk h)→Dig (l.foldl hd x)
  | [],_,h,_=>h
  | s::l,x,h,hl=>hds_dig l _ (hd_dig h (hl s (by simp))) fun t ht=>hl t (by simp [ht])
theorem path_sz {p:ByteArray} (h:E1 p=true):p.size≤60:=by
  unfold E1 at h;rw [Bool.and_eq_true] at h;exact of_decide_eq_true h.1
theorem ch_len {c:TreeChange} (hc:OkCh c):c.Path.data.toList.length≤4096∧c.To.data.toList.length≤4096:=by
  refine ⟨line_len (Nat.le_trans (path_sz hc.path) (by decide)),?_⟩
  by_cases h3:c.Kind=3
  · exact line_len (Nat.le_trans (path_sz (hc.to h3).1) (by decide))
  · rw [hc.noTo h3];decide
theorem cd0_list {c:TreeChange} (hc:OkCh c):∀ s∈[c.Kind,dg c.Path.data.toList,dg c.To.data.toList,ds c.Lines],Dig s:=by
  intro s hs;have hk:=hc.kind;simp only [List.mem_cons,List.not_mem_nil,or_false] at hs;rcases hs with rfl | rfl | rfl | rfl
  · exact Kr (by omega) (by omega)
  · exact (dg_ok (ch_len hc).1).2.1
  · exact (dg_ok (ch_len hc).2).2.1
  · exact (ds_ok ((Ez _).2 ((Dq _).2 hc.lines))).2.1
theorem cd0_dig {x:Int} {c:TreeChange} (hx:Dig x) (hc:OkCh c):Dig (cd0 x c):=Qn _ _ hx (cd0_list hc)
theorem cd_dig {x:Int} {c:TreeChange} (hx:Dig x) (hc:OkCh c):Dig (cd x c):=hds_dig _ _ (cd0_dig hx hc) (hunks_ok hc).2
theorem cds_dig:∀ (l:List TreeChange) (x:Int),Dig x→(∀ h∈l,OkCh h)→Dig (l.foldl cd x)
  | [],_,h,_=>h
  | s::l,x,h,hl=>cds_dig l _ (cd_dig h (hl s (by simp))) fun t ht=>hl t (by simp [ht])
theorem dig3:Dig 3:=Kr (by decide) (by decide)
theorem pd_dig {p:List TreeChange} (hp:∀ c∈p,OkCh c):Dig (pd p):=cds_dig p 3 dig3 hp
theorem hloop_f {c:TreeChange} (hc:OkCh c) {x:Int} (hx:Dig x):Dv (fun s=>Bl.l2 c s.1 s.2) (0,x)=some (c.Patch.Hunks.foldl hd x):=by
  obtain ⟨hn,hh⟩:=hunks_ok hc
  obtain ⟨r,hr,rfl⟩:=Mb (f:=fun s:Int×Int=>Bl.l2 c s.1 s.2) c.Patch.Hunks.length (fun k y=>y=(c.Patch.Hunks.take k).foldl hd x) (fun r=>r=c.Patch.Hunks.foldl hd x)
    (by
      rintro k y hk rfl;have hy:=hds_dig (c.Patch.Hunks.take k) x hx fun s hs=>hh s (List.mem_of_mem_take hs);refine ⟨_,?_,rfl⟩;rw [List.take_succ_eq_append_getElem hk,List.foldl_append];generalize (c.Patch.Hunks.take k).foldl hd x=y at hy ⊢;have ho:=hh _ (List.getElem_mem hk);unfold Bl.l2;rw [Bb,if_pos (by omega),C3 hk,Option.bind_some,(ds_ok ho.old).2.2.2,Option.bind_some,(ds_ok ho.new).2.2.2,Option.bind_some,combine_f hy (hd_list ho) (by simp),Option.bind_some,Cd (by omega) (by omega),Option.bind_some];rfl)
    (by
      rintro y rfl;unfold Bl.l2;rw [Bb,if_neg (by omega),List.take_length]
      exact ⟨_,rfl,rfl⟩) x rfl
  exact hr
theorem s1_f {s:ByteArray} (h:s.data.toList.length≤4096):Gg s=some (dg s.data.toList):=by
  unfold Gg;rw [(dg_ok h).1,Option.bind_some]
def pdT (p:List TreeChange):Int×Fault:=if (pcF p).Code≠0 then (0,pcF p) else (pd p,⟨0,0⟩)
theorem PatchDigest_f (p:TreePatch):Bl p=some (pdT p.Changes):=by
  obtain ⟨p⟩:=p;unfold Bl pdT;rw [VPatch_f,Option.bind_some];simp only;rcases pcF_ok p with h | h
  · obtain ⟨hl,hp⟩:=(M0 p).1 (by rw [h])
    rw [h];simp only [decide_true,Bool.and_self,Bool.not_true,Bool.false_eq_true,if_false,ne_eq,not_true_eq_false]
    obtain ⟨r,hr,rfl⟩:=Mb (f:=fun s:Int×Int=>Bl.l1 ⟨p⟩ s.1 s.2) p.length (fun k y=>y=(p.take k).foldl cd 3) (fun r=>r=pd p)
      (by
        rintro k y hk rfl;have hy:=cds_dig (p.take k) 3 dig3 fun s hs=>hp s (List.mem_of_mem_take hs);refine ⟨_,?_,rfl⟩;rw [List.take_succ_eq_append_getElem hk,List.foldl_append];generalize (p.take k).foldl cd 3=y at hy ⊢;have hc:=hp _ (List.getElem_mem hk);have hcl:=(Ez _).2 ((Dq _).2 hc.lines);unfold Bl.l1;simp only;rw [Bb,if_pos (by omega),C3 hk,Option.bind_some,s1_f (ch_len hc).1,Option.bind_some,s1_f (ch_len hc).2,Option.bind_some,(ds_ok hcl).2.2.2,Option.bind_some,combine_f hy (cd0_list hc) (by simp),Option.bind_some]
        rw [hloop_f hc (Qn _ _ hy (cd0_list hc)),Option.bind_some];unfold Bl.j3 Bl.j2;rw [Cd (by omega) (by omega),Option.bind_some];rfl)
      (by
        rintro y rfl;unfold Bl.l1;simp only;rw [Bb,if_neg (by omega),List.take_length]
        exact ⟨_,rfl,rfl⟩) 3 rfl
    rw [hr,Option.bind_some];rfl
  · rw [if_pos h,if_pos (Li.2 fun h2=>h h2.1)]
def M9 (k:Int):Prop:=1≤k∧k≤1000000000
instance (k:Int):Decidable (M9 k):=inferInstanceAs (Decidable (_∧_))
theorem isKey_f (k:Int):Kg k=some (decide (M9 k)):=by
  unfold Kg M9;rw [Bb];by_cases h:k ≥ 1
  · rw [if_pos h,Option.bind_some];exact congrArg some (decide_eq_decide.2 ⟨fun h2=>⟨h,h2⟩,fun h2=>h2.2⟩)
  · rw [if_neg h,Option.bind_some];exact congrArg some (decide_eq_false fun h2=>h h2.1).symm
theorem isDig_f {a:Int} (h:Dig a):Hj a=some true:=by
  obtain ⟨h1,h2⟩:=h;unfold Hj;rw [Bb,if_pos h1,Option.bind_some,decide_eq_true h2]
def sg (key:Int) (d:List UInt8):Int:=pr key (dg d)
theorem sign_f {key:Int} {d:List UInt8} (hk:M9 key) (hd:d.length≤4096):Lz key d=some (sg key d,⟨0,0⟩)∧Dig (sg key d):=by
  obtain ⟨d1,d2,_⟩:=dg_ok hd;have p:=pr_ok (Kr (x:=key) (by have:=hk.1;omega) (by have:=hk.2;omega)) d2
  refine ⟨?_,p.2.2.1⟩;unfold Lz;rw [isKey_f,Option.bind_some,decide_eq_true hk,if_neg (by decide),d1,Option.bind_some]
  simp only [decide_true,Bool.and_self,Bool.not_true,Bool.false_eq_true,if_false];rw [p.1,Option.bind_some];rfl
theorem verify_f {key s:Int} {d:List UInt8} (hk:M9 key) (hd:d.length≤4096) (hs:Dig s):Lv key d s=some (decide (sg key d=s),⟨0,0⟩):=by
  unfold Lv;rw [(sign_f hk hd).1,Option.bind_some];simp only [decide_true,Bool.and_self,Bool.not_true,Bool.false_eq_true,if_false];rw [isDig_f hs,Option.bind_some,if_neg (by decide)]
theorem big_f {n:Int} (h:Dig n):∃ b,Ey n=some b∧b.length=8:=by
  obtain ⟨h0,h1⟩:=h;unfold Ey
  have hz:∀ k:Int,0≤k→k≤56→∃ z,shr? .i64 n k=some z:=by
    intro k hk hk2;unfold shr?;rw [if_neg (by omega)]
    exact ⟨_,rfl⟩
  obtain ⟨r,hr,hq⟩:=L4 (m:=fun s:Int×List UInt8=>Ey.l1 n s.1 s.2) (fun s=>∃ j:Nat,j≤8∧s.1=56 - 8 * (j:Int)∧s.2.length=j) (fun s=>(s.1+8).toNat) (fun r=>r.length=8) (by
    rintro ⟨x,l⟩ ⟨j,hj,hx,hl⟩;simp only at hx hl ⊢;subst hx;unfold Ey.l1;rw [Bb];by_cases h8:j=8
    · right;rw [if_neg (by omega)]
      exact ⟨_,rfl,by omega⟩
    · left;obtain ⟨z,hz⟩:=hz (56 - 8 * (j:Int)) (by omega) (by omega)
      rw [if_pos (by omega),hz,Option.bind_some,Option.bind_some,Gm (by rw [List.length_singleton];omega),Option.bind_some,Cd (by omega) (by omega),Option.bind_some]
      exact ⟨_,rfl,⟨j+1,by omega,by simp only;omega,by simp [hl]⟩,by simp only;omega⟩) (56,[]) ⟨0,by omega,by simp,rfl⟩
  rw [hr,Option.bind_some];exact ⟨r,rfl,hq⟩
theorem message_f {l:List Int} (hl:l.length≤64) (hd:∀ x∈l,Dig x):∃ d,Dm l=some (d,⟨0,0⟩)∧d.length=8 * l.length:=by
  unfold Dm;rw [Bb,if_neg (by omega)]
  obtain ⟨r,hr,d,rfl,hq⟩:=Mb (f:=fun s:Int×List UInt8=>Dm.l1 l s.1 s.2) l.length (fun k y=>y.length=8 * k) (fun r=>∃ d,r=.inr d∧d.length=8 * l.length)
    (by
      intro k y hk hy;obtain ⟨b,hb,hb8⟩:=big_f (hd _ (List.getElem_mem hk));show ∃ s',Dm.l1 l (k:Int) y=some (.next (((k+1:Nat):Int),s'))∧s'.length=8 * (k+1)
      unfold Dm.l1;rw [Bb,if_pos (by omega),C3 hk,Option.bind_some,isDig_f (hd _ (List.getElem_mem hk)),Option.bind_some,if_neg (by decide),hb,Option.bind_some,Gm (by omega),Option.bind_some,Cd (by omega) (by omega),Option.bind_some]
      exact ⟨_,rfl,by rw [List.length_append,hy,hb8];omega⟩)
    (by
      intro y hy;unfold Dm.l1;rw [Bb,if_neg (by omega)]
      exact ⟨_,rfl,_,rfl,hy⟩) [] rfl
  rw [hr,Option.bind_some];exact ⟨d,rfl,hq⟩
def md (m:Message_forge):List UInt8:=(El m).getD []
structure MsgOk (m:Message_forge):Prop where
  user:Dig m.user
  number:Dig m.number
  base:Dig m.base
theorem pdT_dig (p:List TreeChange):Dig (pdT p).1:=by
  unfold pdT;split
  · exact (Kr (by decide) (by decide):Dig 0)
  · next h=>exact pd_dig ((M0 p).1 (by simpa using h)).2
theorem md_f {m:Message_forge} (h:MsgOk m):El m=some (md m)∧(md m).length=32:=by
  have e:∃ d,El m=some d∧d.length=32:=by
    unfold El;rw [PatchDigest_f,Option.bind_some]
    obtain ⟨d,h1,h2⟩:=message_f (l:=[m.user,m.number,m.base,(pdT m.patch.Changes).1]) (by simp) (by
      intro x hx;simp only [List.mem_cons,List.not_mem_nil,or_false] at hx;rcases hx with rfl | rfl | rfl | rfl
      · exact h.user
      · exact h.number
      · exact h.base
      · exact pdT_dig _)
    rw [h1,Option.bind_some];exact ⟨d,rfl,h2⟩
  obtain ⟨d,h1,h2⟩:=e;have:md m=d:=by unfold md;rw [h1];rfl
  rw [this];exact ⟨h1,h2⟩
end Go.Dc
set_option linter.unusedSimpArgs false
set_option linter.unusedVariables false
set_option maxRecDepth 4000
namespace Go.Dc
open Go
def Net (e:ForgeEvent):Prop:=e.Kind=4∨e.Kind=5∨e.Kind=6∨e.Kind=7
instance (e:ForgeEvent):Decidable (Net e):=inferInstanceAs (Decidable (_∨_))
def evD (n:Int) (e:ForgeEvent):Int:=if e.User < 0∨e.User ≥ n∨(e.Kind=3∧¬ M9 e.Key) then 3 else if e.Kind=2 then (pcF e.Patch.Changes).Code else 0
def evN (e:ForgeEvent):Int:=if e.N < 0∨e.N > 1000000000 then 3 else 0
def evC (n:Int) (e:ForgeEvent):Int :=
  if Net e then evN e
  else if e.Kind=1∨e.Kind=2∨e.Kind=3∨e.Kind=8 then
    evD n e
  else 4
theorem ce2 (e:ForgeEvent) (n:Int) (b:Bool):Cl.j2 e n b=some (if b=true then evD n e else 4):=by
  unfold Cl.j2 evD;cases b
  · rw [if_neg Bool.false_ne_true,if_neg Bool.false_ne_true]
  rw [if_pos rfl,if_pos rfl];simp only [Bb,isKey_f,VPatch_f,Option.bind_some];by_cases h1:e.User < 0
  · rw [if_pos h1,Option.bind_some,if_pos rfl,Option.bind_some,if_pos rfl,if_pos (.inl h1)]
  rw [if_neg h1,Option.bind_some];simp only [Bb];by_cases h2:e.User ≥ n
  · rw [if_pos h2,Option.bind_some,if_pos rfl,if_pos (.inr (.inl h2))]
  rw [if_neg h2];by_cases h3:e.Kind=3
  · rw [if_pos h3,Option.bind_some,Option.bind_some];by_cases h4:M9 e.Key
    · have hP:¬ (e.User < 0∨e.User ≥ n∨(e.Kind=3∧¬ M9 e.Key)):=by rintro (h | h | h);exact h1 h;exact h2 h;exact h.2 h4
      rw [decide_eq_true h4,if_neg (by decide),if_neg hP]
      split <;> rfl
    · rw [decide_eq_false h4,if_pos (by decide),if_pos (.inr (.inr ⟨h3,h4⟩))]
  · have hP:¬ (e.User < 0∨e.User ≥ n∨(e.Kind=3∧¬ M9 e.Key)):=by rintro (h | h | h);exact h1 h;exact h2 h;exact h3 h.1
    rw [if_neg h3,Option.bind_some,Option.bind_some,if_neg Bool.false_ne_true,if_neg hP];split <;> rfl
theorem checkEvent_f (e:ForgeEvent) (n:Int):Cl e n=some (evC n e):=by
  have j1t:Cl.j1 e n true=some (evN e):=by
    unfold Cl.j1 evN;rw [if_pos rfl];by_cases h1:e.N < 0
    · rw [decide_eq_true h1,if_pos rfl,Option.bind_some,if_pos rfl,if_pos (.inl h1)]
    · rw [decide_eq_false h1,if_neg Bool.false_ne_true,Option.bind_some,Bb];by_cases h2:e.N > 1000000000
      · rw [if_pos h2,if_pos (.inr h2)]
      · rw [if_neg h2,if_neg (by omega)]
  have j1f:Cl.j1 e n false=some (if e.Kind=1∨e.Kind=2∨e.Kind=3∨e.Kind=8 then
    evD n e
  else 4):=by
    unfold Cl.j1;rw [if_neg Bool.false_ne_true];simp only [ce2,Bb];by_cases h1:e.Kind=1
    · rw [if_pos h1,if_pos h1,if_pos (.inl h1)]
    rw [if_neg h1];by_cases h2:e.Kind=2
    · rw [if_pos h2,if_pos h2,if_pos (.inr (.inl h2))]
    rw [if_neg h2];by_cases h3:e.Kind=3
    · rw [if_pos h3,if_pos h3,if_pos (.inr (.inr (.inl h3)))]
    rw [if_neg h3];by_cases h8:e.Kind=8
    · rw [if_pos h8,if_pos (.inr (.inr (.inr h8)))]
    · rw [if_neg h8,if_neg (by omega)]
  unfold Cl evC;simp only [Bb];by_cases h4:e.Kind=4
  · rw [if_pos h4,decide_eq_true h4,j1t,if_pos (show Net e from .inl h4)]
  rw [if_neg h4];by_cases h5:e.Kind=5
  · rw [if_pos h5,decide_eq_true h5,j1t,if_pos (show Net e from .inr (.inl h5))]
  rw [if_neg h5];by_cases h6:e.Kind=6
  · rw [if_pos h6,decide_eq_true h6,j1t,if_pos (show Net e from .inr (.inr (.inl h6)))]
  rw [if_neg h6];by_cases h7:e.Kind=7
  · rw [decide_eq_true h7,j1t,if_pos (show Net e from .inr (.inr (.inr h7)))]
  · rw [decide_eq_false h7,j1f,if_neg (show ¬ Net e by rintro (h | h | h | h) <;> contradiction)]
def evG (n:Int) (k:Nat) (e:ForgeEvent):Option Fault:=if evC n e≠0 then some ⟨evC n e,k⟩ else Option.none
def kyG (k:Nat) (x:Int):Option Fault:=if M9 x then Option.none else some ⟨3,-3 - (k:Int)⟩
def fvF (keys:List Int) (events:List ForgeEvent):Fault :=
  if keys.length=0∨keys.length > 4 then ⟨9,-2⟩ else match Gi kyG 0 keys with
  | some f=>f
  | Option.none=>if events.length > 40 then ⟨2,-1⟩ else (Gi (evG keys.length) 0 events).getD ⟨0,0⟩
theorem FValidate_f (keys:List Int) (events:List ForgeEvent):Cc keys events=some (fvF keys events):=by
  unfold Cc fvF
  have e1:(if decide ((keys.length:Int)=0)=true then some true else some (decide ((keys.length:Int) > 4)))=some (decide (keys.length=0∨keys.length > 4)):=by
    rw [Bb];split
    · rw [decide_eq_true (by omega)]
    · exact congrArg some (decide_eq_decide.2 (by omega))
  rw [e1,Option.bind_some,Bb];by_cases hk:keys.length=0∨keys.length > 4
  · rw [if_pos hk,if_pos hk]
  rw [if_neg hk,if_neg hk,scan0 keys kyG ?_ ?_,Option.bind_some]
  · cases hs:Gi kyG 0 keys with
    | some f=>rfl
    | none =>
      show Cc.j1 keys events=_;unfold Cc.j1;simp only;rw [Bb];by_cases h40:events.length > 40
      · rw [if_pos (by omega),if_pos h40]
      rw [if_neg (by omega),if_neg h40,scan0 events (evG keys.length) ?_ ?_,Option.bind_some]
      · cases Gi (evG keys.length) 0 events <;> rfl
      · intro k hk _;unfold Cc.l1 evG;rw [Bb,if_pos (by omega),C3 hk,Option.bind_some,checkEvent_f,Option.bind_some]
        by_cases hc:evC keys.length events[k]=0
        · rw [decide_eq_true hc,if_neg (by decide),if_neg (fun hn=>hn hc),Cd (by omega) (by omega)];rfl
        · rw [decide_eq_false hc,if_pos (show (!false)=true from rfl),if_pos hc]
      · unfold Cc.l1;rw [Bb,if_neg (by omega)]
  · intro k hk2 _;unfold Cc.l2 kyG;rw [Bb,if_pos (by omega),C3 hk2,Option.bind_some,isKey_f,Option.bind_some]
    by_cases hc:M9 keys[k]
    · rw [decide_eq_true hc,if_neg (by decide),if_pos hc,Cd (by omega) (by omega)];rfl
    · rw [decide_eq_false hc,if_pos (show (!false)=true from rfl),if_neg hc,Cd (by omega) (by omega)];rfl
  · unfold Cc.l2;rw [Bb,if_neg (by omega)]
theorem fvF_ok (keys:List Int) (events:List ForgeEvent):fvF keys events=⟨0,0⟩∨(fvF keys events).Code≠0:=by
  unfold fvF;split
  · right;decide
  · cases hs:Gi kyG 0 keys with
    | some f =>
      right;obtain ⟨j,hj,e⟩:=Kb hs;unfold kyG at e;split at e
      · cases e
      · cases e;simp
    | none =>
      simp only;split
      · right;decide
      · cases h:Gi (evG keys.length) 0 events with
        | none=>left;rfl
        | some y =>
          right;obtain ⟨j,hj,e⟩:=Kb h;unfold evG at e;split at e
          · rename_i hc;cases e;exact hc
          · cases e
theorem fvF_zero (keys:List Int) (events:List ForgeEvent):(fvF keys events).Code=0↔(1≤keys.length∧keys.length≤4∧∀ k∈keys,M9 k)∧events.length≤40∧∀ e∈events,evC keys.length e=0:=by
  unfold fvF;by_cases hk:keys.length=0∨keys.length > 4
  · rw [if_pos hk];exact ⟨fun h=>by simp at h,fun h=>by omega⟩
  rw [if_neg hk];cases hs:Gi kyG 0 keys with
  | some f =>
    obtain ⟨j,hj,e⟩:=Kb hs;unfold kyG at e;split at e
    · cases e
    · rename_i hc
      cases e;exact ⟨fun h=>by simp at h,fun h=>absurd (h.1.2.2 _ (List.getElem_mem hj)) hc⟩
  | none =>
    have hall:∀ k∈keys,M9 k:=by
      intro x hx;obtain ⟨j,hj,rfl⟩:=List.getElem_of_mem hx;have:=Ml.1 hs j hj;unfold kyG at this;split at this
      · assumption
      · cases this
    simp only;by_cases h40:events.length > 40
    · rw [if_pos h40];exact ⟨fun h=>by simp at h,fun h=>by omega⟩
    rw [if_neg h40];cases h:Gi (evG keys.length) 0 events with
    | some y =>
      obtain ⟨j,hj,e⟩:=Kb h;unfold evG at e;split at e
      · rename_i hc
        cases e;exact ⟨fun h=>absurd h hc,fun h=>absurd (h.2.2 _ (List.getElem_mem hj)) hc⟩
      · cases e
    | none =>
      refine ⟨fun _=>⟨⟨by omega,by omega,hall⟩,by omega,fun e he=>?_⟩,fun _=>rfl⟩
      obtain ⟨j,hj,rfl⟩:=List.getElem_of_mem he;have:=Ml.1 h j hj;unfold evG at this;split at this
      · cases this
      · rename_i hc;exact Classical.not_not.1 hc
noncomputable def K4 (s:State_forge) (e:ForgeEvent):Option (Int×State_forge):=if Net e then Dh s e else B0 s e
noncomputable def runs:State_forge→List Int→List ForgeEvent→Option (State_forge×List Int)
  | s,out,[]=>some (s,out)
  | s,out,e::r=>(K4 s e).bind fun y=>runs y.2 (out++[y.1]) r
theorem Mq {s s':State_forge} {out:List Int} {e:ForgeEvent} {r:List ForgeEvent} {c:Int} (h:K4 s e=some (c,s')):runs s out (e::r)=runs s' (out++[c]) r:=by
  rw [runs,h,Option.bind_some]
theorem play_loop (keys:List Int) (events:List ForgeEvent) (hl:events.length≤1000):∀ (rest:List ForgeEvent) (k:Nat) (out:List Int) (s s':State_forge) (out':List Int),events.drop k=rest→k≤events.length→out.length=k →
    runs s out rest=some (s',out') →
    Dv (fun s=>Ds.l1 keys events s.1 s.2.1 s.2.2.1 s.2.2.2.1 s.2.2.2.2.1 s.2.2.2.2.2.1 s.2.2.2.2.2.2) ((k:Int),out,s.keys,s.versions,s.developers,s.flight,s.log)=some (out',s'.keys,s'.versions,s'.developers,s'.flight,s'.log):=by
  intro rest
  induction rest with
  | nil =>
    intro k out s s' out' hk hkl ho hr;have:=Kj hk;rw [runs] at hr;cases hr;refine B9 ?_;unfold Ds.l1;simp only;rw [Bb,if_neg (by omega)]
  | cons e r ih =>
    intro k out s s' out' hk hkl ho hr;obtain ⟨hlt,hx,hr'⟩:=K5 hk;rw [runs] at hr;cases he:K4 s e with
    | none=>rw [he] at hr;cases hr
    | some y =>
      obtain ⟨c,t⟩:=y;rw [he,Option.bind_some] at hr;simp only at hr
      have key:Ds.l1 keys events (k:Int) out s.keys s.versions s.developers s.flight s.log=some (.next (((k+1:Nat):Int),out++[c],t.keys,t.versions,t.developers,t.flight,t.log)):=by
        have j2:∀ b:Bool,b=decide (Net e)→Ds.j2 keys (k:Int) out s.keys s.versions s.developers s.flight s.log e b=some (.next (((k+1:Nat):Int),out++[c],t.keys,t.versions,t.developers,t.flight,t.log)):=by
          rintro b rfl;unfold Ds.j2;unfold K4 at he;rw [Bb];by_cases hn:Net e
          · rw [if_pos hn] at he ⊢;rw [show ({ keys:=s.keys,versions:=s.versions,developers:=s.developers,flight:=s.flight,log:=s.log }:State_forge)=s from rfl,he,Option.bind_some,Gm (by rw [List.length_singleton];omega),Option.bind_some,Cd (by omega) (by omega),Option.bind_some];rfl
          · rw [if_neg hn] at he ⊢;rw [show ({ keys:=s.keys,versions:=s.versions,developers:=s.developers,flight:=s.flight,log:=s.log }:State_forge)=s from rfl,he,Option.bind_some,Gm (by rw [List.length_singleton];omega),Option.bind_some,Cd (by omega) (by omega),Option.bind_some];rfl
        unfold Ds.l1;rw [Bb,if_pos (by omega),C3 hlt,Option.bind_some,hx]
        simp only [Bb];by_cases h4:e.Kind=4
        · rw [if_pos h4];exact j2 _ (decide_eq_decide.2 ⟨fun h=>.inl h,fun _=>h4⟩)
        rw [if_neg h4];by_cases h5:e.Kind=5
        · rw [if_pos h5];exact j2 _ (decide_eq_decide.2 ⟨fun h=>.inr (.inl h),fun _=>h5⟩)
        rw [if_neg h5];by_cases h6:e.Kind=6
        · rw [if_pos h6];exact j2 _ (decide_eq_decide.2 ⟨fun h=>.inr (.inr (.inl h)),fun _=>h6⟩)
        rw [if_neg h6];exact j2 _ (decide_eq_decide.2 ⟨fun h=>.inr (.inr (.inr h)),fun h=>by rcases h with h | h | h | h;exact absurd h h4;exact absurd h h5;exact absurd h h6;exact h⟩)
      rw [Cp (m:=fun s:Int×List Int×List Int×List FileTree×List Developer_forge×List Message_forge×List ForgeEntry=>Ds.l1 keys events s.1 s.2.1 s.2.2.1 s.2.2.2.1 s.2.2.2.2.1 s.2.2.2.2.2.1 s.2.2.2.2.2.2) key];exact ih (k+1) _ t s' out' hr' (by omega) (by rw [List.length_append,ho];rfl) hr
def st0 (keys:List Int):State_forge:=⟨keys,[⟨[]⟩],List.replicate keys.length ⟨⟨[]⟩,0,0,0⟩,[],[]⟩
theorem play_f {keys:List Int} {events:List ForgeEvent} {s:State_forge} {out:List Int} (hv:(fvF keys events).Code=0) (hr:runs (st0 keys) [] events=some (s,out)):Ds keys events=some (.inr (s,out)):=by
  have hz:=(fvF_zero keys events).1 hv;unfold Ds;rw [FValidate_f,Option.bind_some];rcases fvF_ok keys events with h | h
  · rw [h];simp only [decide_true,Bool.and_self,Bool.not_true,Bool.false_eq_true,if_false];rw [mk_eq (by omega) (by omega),Option.bind_some,Int.toNat_natCast]
    have:=play_loop keys events (by omega) events 0 [] (st0 keys) s out rfl (Nat.zero_le _) rfl hr
    rw [show ((0:Nat):Int)=0 from rfl] at this;unfold st0 at this;simp only at this;rw [this,Option.bind_some];rfl
  · exact absurd hv h
theorem play_bad {keys:List Int} {events:List ForgeEvent} (hv:(fvF keys events).Code≠0):Ds keys events=some (.inl (fvF keys events)):=by
  unfold Ds;rw [FValidate_f,Option.bind_some,if_pos (Li.2 fun h2=>hv h2.1)]
theorem Run_bad {keys:List Int} {events:List ForgeEvent} (hv:(fvF keys events).Code≠0):Mn keys events=some (⟨[]⟩,[],[],fvF keys events):=by
  unfold Mn;rw [play_bad hv,Option.bind_some]
theorem newest_f {s:State_forge} {v:List FileTree} {t:FileTree} (h:s.versions=v++[t]) (hl:v.length≤100000):Ex s=some t:=by
  unfold Ex;rw [h,List.length_append,List.length_singleton,Cd (by omega) (by omega),Option.bind_some]
  rw [show ((v.length+1:Nat):Int) - 1=(v.length:Int) by omega,C3 (by simp),Option.bind_some]
  simp
theorem Run_f {keys:List Int} {events:List ForgeEvent} {s:State_forge} {out:List Int} {v:List FileTree} {t:List File} (hv:(fvF keys events).Code=0) (hr:runs (st0 keys) [] events=some (s,out))
    (h:s.versions=v++[⟨t⟩]) (hl:v.length≤100000) (ht:TrOk t):Mn keys events=some (⟨t⟩,s.log,out,⟨0,0⟩):=by
  unfold Mn;rw [play_f hv hr,Option.bind_some];simp only;rw [newest_f h hl,Option.bind_some,copyT_f (fun f hf=>by have:=ht.text_len hf;omega) (by have:=ht.len;omega),Option.bind_some]
end Go.Dc
set_option linter.unusedSimpArgs false
set_option linter.unusedVariables false
set_option maxRecDepth 4000
noncomputable section
namespace Go.Dc
open Go
abbrev OT:=Option (List ByteArray)
def ver:OT→Version_treecommute
  | Option.none=>⟨false,[]⟩
  | some l=>⟨true,l⟩
def OkO (o:OT):Prop:=∀ l,o=some l→Gx l
def lk (l:List File) (p:ByteArray):OT:=if Et l p=true then (l[Ee l p]?).map (·.Lines) else Option.none
theorem lk_some {l:List File} (h:Gv l) {p:ByteArray} {L:List ByteArray}:lk l p=some L↔(⟨p,L⟩:File)∈l:=by
  unfold lk;constructor
  · intro e;by_cases hh:Et l p=true
    · rw [if_pos hh] at e;obtain ⟨hp,e2⟩:=Og h hh;rw [List.getElem?_eq_getElem hp,Option.map_some] at e;have e3:=Option.some.inj e;have hm:=List.getElem_mem hp
      have:l[Ee l p]=⟨p,L⟩:=by
        generalize l[Ee l p]=f at e2 e3;obtain ⟨a,b⟩:=f;simp only at e2 e3;rw [e2,e3]
      rw [this] at hm;exact hm
    · rw [if_neg hh] at e;cases e
  · intro hm;obtain ⟨hp,h1,h2⟩:=mem_has h hm;rw [if_pos h1,List.getElem?_eq_getElem hp,h2];rfl
theorem Q6 {l:List File} (h:Gv l) {p:ByteArray}:lk l p=Option.none↔Et l p=false:=by
  unfold lk;cases hh:Et l p
  · simp
  · rw [if_pos rfl];obtain ⟨hp,_⟩:=Og h hh;rw [List.getElem?_eq_getElem hp];simp
theorem Mw {l:List File} {p:ByteArray}:Et l p=true↔∃ f∈l,f.Path=p:=by
  unfold Et;rw [List.any_eq_true];exact ⟨fun ⟨f,h1,h2⟩=>⟨f,h1,by simpa using h2⟩,fun ⟨f,h1,h2⟩=>⟨f,h1,by simpa using h2⟩⟩
theorem lk_ok {l:List File} (h:TrOk l) (p:ByteArray):OkO (lk l p):=fun L e=>h.text _ ((lk_some h.srt).1 e)
theorem tcfind_f {l:List File} (h:TrOk l) (p:ByteArray):Gf ⟨l⟩ p=some (ver (lk l p)):=by
  have hl:=h.len;unfold Gf lk;rw [Find_f h.srt (by omega),Option.bind_some]
  simp only;cases hh:Et l p
  · rfl
  · obtain ⟨hp,_⟩:=Og h.srt hh;rw [if_neg (by decide),C3 hp,Option.bind_some,if_pos rfl,List.getElem?_eq_getElem hp];rfl
theorem same_f {a b:OT} (ha:OkO a) (hb:OkO b):Gw (ver a) (ver b)=some (decide (a=b)):=by
  unfold Gw;cases a with
  | none =>
    cases b with
    | none =>
      have e:=sequal_f [] [] (by simp)
      simp [ver,e]
    | some y=>simp [ver]
  | some x =>
    cases b with
    | none=>simp [ver]
    | some y =>
      have:=(ha x rfl).1;have e:=sequal_f x y (by omega)
      simp [ver,e]
def mgO (b l r:OT):OT×Bool :=
  if r=b∨r=l then (l,true) else if l=b then (r,true) else (l,false)
theorem merged_f {b l r:OT} (hb:b=Option.none) (hl:OkO l) (hr:OkO r):Ei (ver b) (ver l) (ver r)=some (ver (mgO b l r).1,(mgO b l r).2)∧OkO (mgO b l r).1:=by
  subst hb;have hb:OkO Option.none:=fun L h=>by cases h
  unfold Ei mgO;rw [same_f hr hb,Option.bind_some,same_f hr hl,Option.bind_some];have e1:(if decide (r=Option.none)=true then some true else some (decide (r=l)))=some (decide (r=Option.none∨r=l)):=by by_cases h:r=Option.none <;> simp [h]
  rw [e1,Option.bind_some,Bb];by_cases h1:r=Option.none∨r=l
  · rw [if_pos h1,if_pos h1];exact ⟨rfl,hl⟩
  rw [if_neg h1,if_neg h1,same_f hl hb,Option.bind_some,Bb];by_cases h2:l=Option.none
  · rw [if_pos h2,if_pos h2];exact ⟨rfl,hr⟩
  rw [if_neg h2,if_neg h2];exact ⟨rfl,hl⟩
def lastF (p:TreePatch) (path:ByteArray):Int:=(Cn p path).getD (-1)
theorem last_f {p:TreePatch} (hp:∀ c∈p.Changes,OkCh c) (hl:p.Changes.length≤30) {path:ByteArray} (hs:path.size≤1000000) :
    Cn p path=some (lastF p path)∧((lastF p path = -1∧∀ c∈p.Changes,touB path c=false)∨∃ k,∃ h:k < p.Changes.length,lastF p path=(k:Int)∧touB path p.Changes[k]=true):=by
  have key:∀ k,k≤p.Changes.length→(∀ j (h:j < p.Changes.length),k≤j→touB path p.Changes[j]=false) →
      ∃ r,Dv (fun s=>Cn.l1 p path s) ((k:Int) - 1)=some r∧((r=.inr ()∧∀ c∈p.Changes,touB path c=false)∨∃ j,∃ h:j < p.Changes.length,r=.inl (j:Int)∧touB path p.Changes[j]=true):=by
    intro k
    induction k with
    | zero =>
      intro _ h;refine ⟨.inr (),B9 ?_,.inl ⟨rfl,fun c hc=>?_⟩⟩
      · unfold Cn.l1;rw [Bb,if_neg (by omega)]
      · obtain ⟨j,hj,rfl⟩:=List.getElem_of_mem hc;exact h j hj (Nat.zero_le _)
    | succ k ih =>
      intro hk h;have hlt:k < p.Changes.length:=by omega
      have e1:((k+1:Nat):Int) - 1=(k:Int):=by omega
      rw [e1]
      have hs1:Cn.l1 p path (k:Int)=if touB path p.Changes[k]=true then some (.done (.inl (k:Int))) else some (.next ((k:Int) - 1)):=by
        unfold Cn.l1;rw [Bb,if_pos (by omega),C3 hlt,Option.bind_some,touches_f hs (hp _ (List.getElem_mem hlt)).size,Option.bind_some]
        split
        · rfl
        · rw [Cd (by omega) (by omega),Option.bind_some]
      by_cases ht:touB path p.Changes[k]=true
      · rw [if_pos ht] at hs1;exact ⟨_,B9 hs1,.inr ⟨k,hlt,rfl,ht⟩⟩
      · rw [if_neg ht] at hs1;rw [Cp hs1];refine ih (by omega) fun j hj hkj=>?_
        rcases Nat.lt_or_eq_of_le hkj with h2 | h2
        · exact h j hj h2
        · subst h2;simpa using ht
  obtain ⟨r,e,hr⟩:=key p.Changes.length (Nat.le_refl _) fun j hj h=>by omega
  have e0:∃ x,Cn p path=some x∧((x = -1∧∀ c∈p.Changes,touB path c=false)∨∃ j,∃ h:j < p.Changes.length,x=(j:Int)∧touB path p.Changes[j]=true):=by
    unfold Cn;rw [Cd (by omega) (by omega),Option.bind_some,e,Option.bind_some]
    rcases hr with ⟨rfl,h2⟩ | ⟨j,hj,rfl,h2⟩
    · exact ⟨_,rfl,.inl ⟨rfl,h2⟩⟩
    · exact ⟨_,rfl,.inr ⟨j,hj,rfl,h2⟩⟩
  obtain ⟨x,e1,h1⟩:=e0;have ex:lastF p path=x:=by unfold lastF;rw [e1];rfl
  rw [ex];exact ⟨e1,h1⟩
def En (l:List File):List ByteArray:=l.map (·.Path)
theorem prow_f (t:FileTree) (hl:t.Files.length≤1000) (acc:List ByteArray) (ha:acc.length≤10000) :
    Dv (fun s=>Bk.l2 t s.1 s.2) (0,acc)=some (acc++En t.Files):=by
  obtain ⟨r,e,rfl⟩:=Mb (f:=fun s=>Bk.l2 t s.1 s.2) t.Files.length (fun k x=>x=acc++En (t.Files.take k)) (fun x=>x=acc++En t.Files) (by
    rintro k x hk rfl;unfold Bk.l2;simp only;have hlen:(En (t.Files.take k)).length=k:=by unfold En;rw [List.length_map,List.length_take];omega
    refine ⟨_,?_,rfl⟩;rw [Bb,if_pos (by omega),C3 hk,Option.bind_some,Gm (by simp only [List.length_append,hlen,List.length_singleton];omega),Option.bind_some,Cd (by omega) (by omega),Option.bind_some]
    unfold En;rw [List.take_succ_eq_append_getElem hk,List.map_append,List.append_assoc];rfl) (by
    rintro x rfl;unfold Bk.l2;simp only;rw [Bb,if_neg (by omega),List.take_length]
    exact ⟨_,rfl,rfl⟩) acc (by simp [En])
  exact e
theorem all_f3 {a b c:FileTree} (ha:a.Files.length≤24) (hb:b.Files.length≤24) (hc:c.Files.length≤24):Bk [a,b,c]=some (ksort (En a.Files++En b.Files++En c.Files)):=by
  have la:(En a.Files).length≤24:=by unfold En;rw [List.length_map];exact ha
  have lb:(En b.Files).length≤24:=by unfold En;rw [List.length_map];exact hb
  have lc:(En c.Files).length≤24:=by unfold En;rw [List.length_map];exact hc
  have st:∀ (j:Nat) (t:FileTree) (acc:List ByteArray),j < 3→[a,b,c][j]? = some t→t.Files.length≤24→acc.length≤100→Bk.l1 [a,b,c] (j:Int) acc=some (.next ((j:Int)+1,acc++En t.Files)):=by
    intro j t acc hj ht hl hacc;unfold Bk.l1;rw [Bb,if_pos (by simp;omega),show at? [a,b,c] (j:Int)=some t from by unfold at?;rw [if_pos (by omega)];simpa using ht,Option.bind_some,prow_f _ (by omega) _ (by omega),Option.bind_some]
    unfold Bk.j3 Bk.j2;rw [Cd (by omega) (by omega),Option.bind_some]
  have s0:=st 0 a [] (by omega) rfl ha (by simp)
  have s1:=st 1 b (En a.Files) (by omega) rfl hb (by omega)
  have s2:=st 2 c (En a.Files++En b.Files) (by omega) rfl hc (by rw [List.length_append];omega)
  rw [show ((0:Nat):Int)=0 from rfl,show (0:Int)+1=1 from rfl,List.nil_append] at s0;rw [show ((1:Nat):Int)=1 from rfl,show (1:Int)+1=2 from rfl] at s1;rw [show ((2:Nat):Int)=2 from rfl,show (2:Int)+1=3 from rfl] at s2;have s3:∀ x,Bk.l1 [a,b,c] 3 x=some (.done x):=by intro x;unfold Bk.l1;rw [Bb,if_neg (by simp)]
  unfold Bk
  rw [Cp (m:=fun s:Int×List ByteArray=>Bk.l1 [a,b,c] s.1 s.2) s0,Cp (m:=fun s:Int×List ByteArray=>Bk.l1 [a,b,c] s.1 s.2) s1,Cp (m:=fun s:Int×List ByteArray=>Bk.l1 [a,b,c] s.1 s.2) s2,
    B9 (m:=fun s:Int×List ByteArray=>Bk.l1 [a,b,c] s.1 s.2) (s3 _),Option.bind_some]
  unfold Bk.j1;have hl3:(En a.Files++En b.Files++En c.Files).length≤72:=by rw [List.length_append,List.length_append];omega
  have hs:sortS? (En a.Files++En b.Files++En c.Files)=some (N5 (En a.Files++En b.Files++En c.Files)):=by
    unfold sortS?;rw [if_pos (by omega)]
  rw [hs,Option.bind_some,scompact_f (by rw [(sortS_perm _).length_eq];omega),Option.bind_some];rfl
theorem pathsL_mem {l:List File} {p:ByteArray}:p∈En l↔Et l p=true:=by
  rw [Mw];unfold En;rw [List.mem_map]
section
variable (B L R : List File)
def vF (p:ByteArray):OT×Bool:=mgO (lk B p) (lk L p) (lk R p)
def outO (p:ByteArray):Option File:=match (vF B L R p).1,lk L p with
  | some v,some _=>some ⟨p,v⟩
  | _,_=>Option.none
def O6 (p:ByteArray):Option File:=match (vF B L R p).1,lk L p with
  | some v,Option.none=>some ⟨p,v⟩
  | _,_=>Option.none
def fstO (left right:TreePatch) (p:ByteArray):Option Arr2_Int:=if (vF B L R p).2=true then Option.none else some ⟨lastF left p,lastF right p⟩
end
theorem fm_snoc {α β:Type} (f:α→Option β) (l:List α) (x:α):(l++[x]).filterMap f=l.filterMap f++(f x).toList:=by
  rw [List.filterMap_append];cases h:f x <;> simp [List.filterMap,h]
theorem fm_path {f:ByteArray→Option File} (hf:∀ p x,f p=some x→x.Path=p):∀ {l:List ByteArray},SAsc l→Gv (l.filterMap f)
  | [],_=>List.Pairwise.nil
  | p::l,h=>by
    have h1:l.Pairwise fun x y=>sLt x y=true:=(List.pairwise_cons.1 h).2;have ih:=fm_path hf (l:=l) h1;cases e:f p with
    | none=>rw [List.filterMap_cons_none e];exact ih
    | some x =>
      rw [List.filterMap_cons_some e];refine List.pairwise_cons.2 ⟨fun y hy=>?_,ih⟩;obtain ⟨q,hq,hqy⟩:=List.mem_filterMap.1 hy;rw [hf p x e,hf q y hqy];exact (List.pairwise_cons.1 h).1 q hq
theorem outO_path (B L R:List File):∀ p x,outO B L R p=some x→x.Path=p:=by
  intro p x h;unfold outO at h;split at h
  · cases h;rfl
  · cases h
theorem Q2 (B L R:List File):∀ p x,O6 B L R p=some x→x.Path=p:=by
  intro p x h;unfold O6 at h;split at h
  · cases h;rfl
  · cases h
theorem put_end {l:List File} (h:Gv l) (hl:l.length≤1000) {p:ByteArray} (hp:∀ f∈l,sLt f.Path p=true) {t:List ByteArray} (ht:t.length≤1000000):Eh ⟨l⟩ p t=some ⟨l++[⟨p,t⟩]⟩:=by
  have hn:Et l p=false:=by
    cases hh:Et l p
    · rfl
    · obtain ⟨f,hf,e⟩:=Mw.1 hh;have:=hp f hf;rw [e,H3] at this;cases this
  rw [Put_f h hl hn ht,ins_end hp]
theorem lkn {B:List File} (h:B=[]) (p:ByteArray):lk B p=Option.none:=by subst h;rfl
theorem walk_f {B L R:List File} (hBn:B=[]) (hB:TrOk B) (hL:TrOk L) (hR:TrOk R) {left right:TreePatch} (hcl:∀ c∈left.Changes,OkCh c) (hll:left.Changes.length≤30) (hcr:∀ c∈right.Changes,OkCh c) (hrl:right.Changes.length≤30) {fl fr:Fault}
    {K:List ByteArray} (hK:SAsc K) (hKl:K.length≤100) (hKs:∀ p∈K,p.size≤60) :
    Dv (fun s=>Ax.l3 ⟨B⟩ left right (⟨L⟩,fl) (⟨R⟩,fr) K s.1 s.2.1 s.2.2.1 s.2.2.2) (0,[],[],[])=some (K.filterMap (fstO B L R left right),K.filterMap (O6 B L R),K.filterMap (outO B L R),R):=by
  obtain ⟨r,e,rfl⟩:=Mb (f:=fun s=>Ax.l3 ⟨B⟩ left right (⟨L⟩,fl) (⟨R⟩,fr) K s.1 s.2.1 s.2.2.1 s.2.2.2) K.length
    (fun k s=>s=((K.take k).filterMap (fstO B L R left right),(K.take k).filterMap (O6 B L R),(K.take k).filterMap (outO B L R)))
    (fun r=>r=(K.filterMap (fstO B L R left right),K.filterMap (O6 B L R),K.filterMap (outO B L R),R)) (by
    rintro k s hk rfl;have hsz:=hKs _ (List.getElem_mem hk);have hKt:SAsc (K.take k):=List.Pairwise.sublist (List.take_sublist _ _) hK
    have hlt:∀ q∈K.take k,sLt q K[k]=true:=by
      intro q hq;obtain ⟨j,hj,rfl⟩:=List.getElem_of_mem hq;rw [List.length_take] at hj;rw [List.getElem_take];exact (List.pairwise_iff_getElem.1 hK) j k (by omega) hk (by omega)
    have so:=fm_path (outO_path B L R) hKt;have sl:=fm_path (Q2 B L R) hKt;have lo:((K.take k).filterMap (outO B L R)).length≤k:=Nat.le_trans (List.length_filterMap_le _ _) (by rw [List.length_take];omega)
    have ll:((K.take k).filterMap (O6 B L R)).length≤k:=Nat.le_trans (List.length_filterMap_le _ _) (by rw [List.length_take];omega)
    have lf:((K.take k).filterMap (fstO B L R left right)).length≤k:=Nat.le_trans (List.length_filterMap_le _ _) (by rw [List.length_take];omega)
    have po:∀ f∈(K.take k).filterMap (outO B L R),sLt f.Path K[k]=true:=by
      intro f hf;obtain ⟨q,hq,e⟩:=List.mem_filterMap.1 hf;rw [outO_path B L R q f e];exact hlt q hq
    have pl:∀ f∈(K.take k).filterMap (O6 B L R),sLt f.Path K[k]=true:=by
      intro f hf;obtain ⟨q,hq,e⟩:=List.mem_filterMap.1 hf;rw [Q2 B L R q f e];exact hlt q hq
    refine ⟨_,?_,rfl⟩;rw [List.take_succ_eq_append_getElem hk,fm_snoc,fm_snoc,fm_snoc];generalize (K.take k).filterMap (outO B L R)=o at so lo po;generalize (K.take k).filterMap (O6 B L R)=lt at sl ll pl;generalize (K.take k).filterMap (fstO B L R left right)=fs at lf;obtain ⟨m1,m2⟩:=merged_f (lkn hBn K[k]) (lk_ok hL K[k]) (lk_ok hR K[k]);obtain ⟨t1,_⟩:=last_f hcl hll (path:=K[k]) (by omega)
    obtain ⟨t2,_⟩:=last_f hcr hrl (path:=K[k]) (by omega)
    unfold Ax.l3;simp only;rw [Bb,if_pos (by omega),C3 hk,Option.bind_some,tcfind_f hL,Option.bind_some,tcfind_f hB,Option.bind_some,tcfind_f hR,Option.bind_some,m1,Option.bind_some]
    have hj6:∀ a b c,Ax.j6 (k:Int) a b c=some (.next (((k+1:Nat):Int),a,b,c)):=by
      intro a b c;unfold Ax.j6;rw [Cd (by omega) (by omega),Option.bind_some];rfl
    have hv:vF B L R K[k]=mgO (lk B K[k]) (lk L K[k]) (lk R K[k]):=rfl
    have hj8:∀ a,Ax.j8 (k:Int) lt o K[k] (ver (lk L K[k])) (ver (mgO (lk B K[k]) (lk L K[k]) (lk R K[k])).1,(mgO (lk B K[k]) (lk L K[k]) (lk R K[k])).2) a=some (.next (((k+1:Nat):Int),a,lt++(O6 B L R K[k]).toList,o++(outO B L R K[k]).toList)):=by
      intro a;unfold Ax.j8 O6 outO;rw [hv];cases hm:(mgO (lk B K[k]) (lk L K[k]) (lk R K[k])).1 with
      | none =>
        simp [ver,hj6]
      | some v =>
        have hv2:=(m2 v hm).1;cases hlk:lk L K[k] with
        | none =>
          have e:=put_end sl (by omega) pl (t:=v) (by omega)
          simp [ver,e,hj6]
        | some w =>
          have e:=put_end so (by omega) po (t:=v) (by omega)
          simp [ver,e,hj6]
    unfold Ax.j7 fstO;simp only;rw [hv,t1,Option.bind_some,t2,Option.bind_some];cases hc:(mgO (lk B K[k]) (lk L K[k]) (lk R K[k])).2
    · rw [hc] at hj8;rw [if_pos (show (!false)=true from rfl),Gm (by rw [List.length_singleton];omega),Option.bind_some,hj8]
      simp
    · rw [hc] at hj8;rw [if_neg (show ¬ (!true)=true by decide),hj8]
      simp) (by
    rintro s rfl;unfold Ax.l3;simp only;rw [Bb,if_neg (by omega),List.take_length]
    exact ⟨_,rfl,rfl⟩) ([],[],[]) rfl
  exact e
def ownF (R out:List File):List File:=out.filter fun x=>!Et R x.Path
theorem own_f {R out:List File} (hR:TrOk R) (hl:out.length≤1000):Dv (fun s=>Ax.l2 out R s.1 s.2) (0,[])=some (ownF R out):=by
  obtain ⟨r,e,rfl⟩:=Mb (f:=fun s=>Ax.l2 out R s.1 s.2) out.length (fun k s=>s=ownF R (out.take k)) (fun r=>r=ownF R out) (by
    rintro k s hk rfl;have hlen:(ownF R (out.take k)).length≤k:=Nat.le_trans (List.length_filter_le _ _) (by rw [List.length_take];omega)
    have hj:∀ w,Ax.j5 (k:Int) w=some (.next (((k+1:Nat):Int),w)):=by
      intro w;unfold Ax.j5;rw [Cd (by omega) (by omega),Option.bind_some];rfl
    refine ⟨_,?_,rfl⟩
    have e:ownF R (out.take (k+1))=ownF R (out.take k)++if Et R out[k].Path=true then [] else [out[k]]:=by
      unfold ownF;rw [List.take_succ_eq_append_getElem hk,List.filter_append];cases h:Et R out[k].Path <;> simp [h]
    have hi:(ver (lk R out[k].Path)).is=Et R out[k].Path:=by
      cases h:Et R out[k].Path
      · rw [(Q6 hR.srt).2 h];rfl
      · cases h2:lk R out[k].Path with
        | none=>rw [(Q6 hR.srt).1 h2] at h;cases h
        | some v=>rfl
    unfold Ax.l2;simp only;rw [Bb,if_pos (by omega),C3 hk,Option.bind_some,tcfind_f hR,Option.bind_some,hi,e]
    cases h:Et R out[k].Path
    · rw [if_pos (show (!false)=true from rfl),Gm (by rw [List.length_singleton];omega),Option.bind_some,hj,if_neg Bool.false_ne_true]
    · rw [if_neg (show ¬ (!true)=true by decide),hj,if_pos rfl,List.append_nil]) (by
    rintro s rfl;unfold Ax.l2;simp only;rw [Bb,if_neg (by omega),List.take_length]
    exact ⟨_,rfl,rfl⟩) [] rfl
  exact e
theorem clash_any {l:List File} {p:ByteArray} (hl:∀ f∈l,f.Path.size≤1000000) (hn:l.length≤1000000) (hp:p.size≤1000000):Ca l p (-1)=some (Ej l p):=by
  rw [clash_f hl hn hp];congr 1
  have key:∀ (l:List File) (k:Nat),(Gi (clG p (-1)) k l).isSome=Ej l p:=by
    intro l
    induction l with
    | nil=>intro k;rfl
    | cons f l ih =>
      intro k
      have hcl:clG p (-1) k f=if Lf f.Path p=true then some true else Option.none:=by
        unfold clG;have hk:(k:Int) ≠ -1:=by omega
        by_cases h:Lf f.Path p=true
        · rw [if_pos ⟨hk,h⟩,if_pos h]
        · rw [if_neg (fun hh=>h hh.2),if_neg h]
      rw [Gi,hcl];have:=ih (k+1);unfold Ej at this ⊢;rw [List.any_cons,← this];cases h:Lf f.Path p
      · rfl
      · rfl
  exact key l 0
def Me (own:List File) (o:List File) (x:File):List File:=if Ej own x.Path=true then o else Qx o x
def secO (left right:TreePatch) (own:List File) (x:File):Option Arr2_Int:=if Ej own x.Path=true then some ⟨lastF left x.Path,lastF right x.Path⟩ else Option.none
theorem late_mem {own:List File}:∀ (late o:List File) (f:File),f∈late.foldl (Me own) o↔f∈o∨(f∈late∧Ej own f.Path=false)
  | [],o,f=>by simp
  | x::late,o,f=>by
    rw [List.foldl_cons,late_mem late];unfold Me;cases h:Ej own x.Path
    · rw [if_neg Bool.false_ne_true,Qb];constructor
      · rintro ((rfl | h1) | ⟨h1,h2⟩)
        · exact .inr ⟨List.mem_cons_self,h⟩
        · exact .inl h1
        · exact .inr ⟨List.mem_cons_of_mem _ h1,h2⟩
      · rintro (h1 | ⟨h1,h2⟩)
        · exact .inl (.inr h1)
        · rcases List.mem_cons.1 h1 with rfl | h1
          · exact .inl (.inl rfl)
          · exact .inr ⟨h1,h2⟩
    · rw [if_pos rfl];constructor
      · rintro (h1 | ⟨h1,h2⟩)
        · exact .inl h1
        · exact .inr ⟨List.mem_cons_of_mem _ h1,h2⟩
      · rintro (h1 | ⟨h1,h2⟩)
        · exact .inl h1
        · rcases List.mem_cons.1 h1 with rfl | h1
          · rw [h] at h2;cases h2
          · exact .inr ⟨h1,h2⟩
theorem late_srt {own:List File}:∀ (late o:List File),Gv o→Gv late→(∀ f∈late,Et o f.Path=false)→Gv (late.foldl (Me own) o)∧(late.foldl (Me own) o).length≤o.length+late.length
  | [],o,h,_,_=>⟨h,by simp⟩
  | x::late,o,h,hl,hn=>by
    have hl1:=List.pairwise_cons.1 hl;rw [List.foldl_cons];have hx:=hn x List.mem_cons_self
    have hS:Gv (Me own o x)∧(Me own o x).length≤o.length+1:=by
      unfold Me;split
      · exact ⟨h,by omega⟩
      · exact ⟨ins_srt h hx,Nat.le_of_eq (ins_len _ _)⟩
    have hn':∀ f∈late,Et (Me own o x) f.Path=false:=by
      intro f hf;have h1:=hn f (List.mem_cons_of_mem _ hf);unfold Me;split
      · exact h1
      · cases hh:Et (Qx o x) f.Path
        · rfl
        · obtain ⟨g,hg,e⟩:=Mw.1 hh;rcases Qb.1 hg with rfl | hg
          · have:=hl1.1 f hf;rw [e,H3] at this;cases this
          · rw [Mw.2 ⟨g,hg,e⟩] at h1;cases h1
    obtain ⟨i1,i2⟩:=late_srt (own:=own) late _ hS.1 hl1.2 hn';exact ⟨i1,by rw [List.length_cons];omega⟩
theorem late_f {left right:TreePatch} (hcl:∀ c∈left.Changes,OkCh c) (hll:left.Changes.length≤30) (hcr:∀ c∈right.Changes,OkCh c) (hrl:right.Changes.length≤30) {own late out:List File}
    (ho:Gv out) (hol:out.length≤100) (hlt:Gv late) (hll2:late.length≤100) (hn:∀ f∈late,Et out f.Path=false) (hsz:∀ f∈late,f.Path.size≤60) (htx:∀ f∈late,f.Lines.length≤1000) (hown:∀ f∈own,f.Path.size≤60) (hownl:own.length≤1000) :
    Dv (fun s=>Ax.l1 left right late own s.1 s.2.1 s.2.2) (0,[],out)=some (late.filterMap (secO left right own),late.foldl (Me own) out):=by
  obtain ⟨r,e,rfl⟩:=Mb (f:=fun s=>Ax.l1 left right late own s.1 s.2.1 s.2.2) late.length
    (fun k s=>s=((late.take k).filterMap (secO left right own),(late.take k).foldl (Me own) out)) (fun r=>r=(late.filterMap (secO left right own),late.foldl (Me own) out)) (by
    rintro k s hk rfl;have hx:=List.getElem_mem hk;have hs:=hsz _ hx;obtain ⟨q1,q2⟩:=late_srt (own:=own) (late.take k) out ho (List.Pairwise.sublist (List.take_sublist _ _) hlt) fun f hf=>hn f (List.mem_of_mem_take hf);rw [List.length_take] at q2;have q3:((late.take k).foldl (Me own) out).length≤1000:=by omega
    have hno:Et ((late.take k).foldl (Me own) out) late[k].Path=false:=by
      cases hh:Et ((late.take k).foldl (Me own) out) late[k].Path
      · rfl
      · obtain ⟨g,hg,e⟩:=Mw.1 hh;rcases (late_mem _ _ _).1 hg with h1 | ⟨h1,_⟩
        · have:=hn _ hx;rw [Mw.2 ⟨g,h1,e⟩] at this;cases this
        · obtain ⟨j,hj,rfl⟩:=List.getElem_of_mem h1;rw [List.length_take] at hj;rw [List.getElem_take] at e;have:=(List.pairwise_iff_getElem.1 hlt) j k (by omega) hk (by omega)
          rw [e,H3] at this;cases this
    have ls:((late.take k).filterMap (secO left right own)).length≤k:=Nat.le_trans (List.length_filterMap_le _ _) (by rw [List.length_take];omega)
    have hj:∀ a b,Ax.j4 (k:Int) a b=some (.next (((k+1:Nat):Int),a,b)):=by
      intro a b;unfold Ax.j4;rw [Cd (by omega) (by omega),Option.bind_some];rfl
    obtain ⟨t1,_⟩:=last_f hcl hll (path:=late[k].Path) (by omega)
    obtain ⟨t2,_⟩:=last_f hcr hrl (path:=late[k].Path) (by omega)
    refine ⟨_,?_,rfl⟩;rw [List.take_succ_eq_append_getElem hk,fm_snoc,List.foldl_append];unfold Ax.l1;simp only [List.foldl_cons,List.foldl_nil];rw [Bb,if_pos (by omega),C3 hk,Option.bind_some,clash_any (fun f hf=>by have:=hown f hf;omega) (by omega) (by omega),Option.bind_some]
    cases h:Ej own late[k].Path
    · have e1:secO left right own late[k]=Option.none:=by unfold secO;rw [h];rfl
      have e2:∀ o,Me own o late[k]=Qx o late[k]:=fun o=>by unfold Me;rw [h];rfl
      rw [if_neg Bool.false_ne_true,Put_f q1 q3 hno (Nat.le_trans (htx _ hx) (by decide)),Option.bind_some,hj,e1,e2]
      simp
    · have e1:secO left right own late[k]=some ⟨lastF left late[k].Path,lastF right late[k].Path⟩:=by unfold secO;rw [h];rfl
      have e2:∀ o,Me own o late[k]=o:=fun o=>by unfold Me;rw [h];rfl
      rw [if_pos rfl,t1,Option.bind_some,t2,Option.bind_some,Gm (by rw [List.length_singleton];omega),Option.bind_some,hj,e1,e2]
      rfl) (by
    rintro s rfl;unfold Ax.l1;simp only;rw [Bb,if_neg (by omega),List.take_length]
    exact ⟨_,rfl,rfl⟩) ([],out) rfl
  exact e
end Go.Dc
set_option linter.unusedSimpArgs false
set_option linter.unusedVariables false
set_option maxRecDepth 4000
noncomputable section
namespace Go.Dc
open Go
section
variable (B L R : List File)
def tmK:List ByteArray:=ksort (En B++En L++En R)
def Qm:List File:=(tmK B L R).filterMap (outO B L R)
def Mj:List File:=(tmK B L R).filterMap (O6 B L R)
def tmFst (left right:TreePatch):List Arr2_Int:=(tmK B L R).filterMap (fstO B L R left right)
def N7:List File:=ownF R (Qm B L R)
def Ms:List File:=(Mj B L R).foldl (Me (N7 B L R)) (Qm B L R)
def tmSec (left right:TreePatch):List Arr2_Int:=(Mj B L R).filterMap (secO left right (N7 B L R))
end
theorem mem_K {B L R:List File} {p:ByteArray}:p∈tmK B L R↔Et B p=true∨Et L p=true∨Et R p=true:=by
  unfold tmK;rw [ksort_mem,List.mem_append,List.mem_append,pathsL_mem,pathsL_mem,pathsL_mem];exact or_assoc
theorem not_K {B L R:List File} (hB:Gv B) (hL:Gv L) (hR:Gv R) {p:ByteArray} (h:p ∉ tmK B L R):vF B L R p=(Option.none,true):=by
  rw [mem_K,not_or,not_or] at h;have e1:=(Q6 hB).2 (by simpa using h.1)
  have e2:=(Q6 hL).2 (by simpa using h.2.1)
  have e3:=(Q6 hR).2 (by simpa using h.2.2)
  unfold vF mgO;rw [e1,e2,e3];simp
theorem mem_out {B L R:List File} (hB:Gv B) (hL:Gv L) (hR:Gv R) {f:File}:f∈Qm B L R↔(vF B L R f.Path).1=some f.Lines∧lk L f.Path≠Option.none:=by
  unfold Qm;rw [List.mem_filterMap];constructor
  · rintro ⟨p,_,h⟩;have hp:=outO_path B L R p f h;subst hp;unfold outO at h;split at h
    · rename_i v w h1 h2
      have e:=congrArg File.Lines (Option.some.inj h);simp only at e;exact ⟨by rw [h1,e],by rw [h2];simp⟩
    · cases h
  · rintro ⟨h1,h2⟩;refine ⟨f.Path,?_,?_⟩
    · by_cases hk:f.Path∈tmK B L R
      · exact hk
      · rw [not_K hB hL hR hk] at h1;cases h1
    · unfold outO;cases h3:lk L f.Path with
      | none=>exact absurd h3 h2
      | some w=>rw [h1]
theorem mem_late {B L R:List File} (hB:Gv B) (hL:Gv L) (hR:Gv R) {f:File}:f∈Mj B L R↔(vF B L R f.Path).1=some f.Lines∧lk L f.Path=Option.none:=by
  unfold Mj;rw [List.mem_filterMap];constructor
  · rintro ⟨p,_,h⟩;have hp:=Q2 B L R p f h;subst hp;unfold O6 at h;split at h
    · rename_i v h1 h2
      have e:=congrArg File.Lines (Option.some.inj h);simp only at e;exact ⟨by rw [h1,e],h2⟩
    · cases h
  · rintro ⟨h1,h2⟩;refine ⟨f.Path,?_,?_⟩
    · by_cases hk:f.Path∈tmK B L R
      · exact hk
      · rw [not_K hB hL hR hk] at h1;cases h1
    · unfold O6;rw [h1,h2]
theorem K_len {B L R:List File} (hB:TrOk B) (hL:TrOk L) (hR:TrOk R):(tmK B L R).length≤72:=by
  have:=ksort_len (En B++En L++En R);unfold tmK;have h1:=hB.len;have h2:=hL.len;have h3:=hR.len;unfold En at *;rw [List.length_append,List.length_append,List.length_map,List.length_map,List.length_map] at this;omega
theorem K_size {B L R:List File} (hB:TrOk B) (hL:TrOk L) (hR:TrOk R):∀ p∈tmK B L R,p.size≤60:=by
  intro p hp
  have h:∀ l:List File,TrOk l→Et l p=true→p.size≤60:=by
    intro l hl hh;obtain ⟨f,hf,rfl⟩:=Mw.1 hh;exact Ho (hl.path f hf)
  rcases mem_K.1 hp with h1 | h1 | h1
  · exact h B hB h1
  · exact h L hL h1
  · exact h R hR h1
theorem out_srt (B L R:List File):Gv (Qm B L R):=fm_path (outO_path B L R) (ksort_asc _)
theorem late_srtT (B L R:List File):Gv (Mj B L R):=fm_path (Q2 B L R) (ksort_asc _)
theorem late_no {B L R:List File} (hB:Gv B) (hL:Gv L) (hR:Gv R):∀ f∈Mj B L R,Et (Qm B L R) f.Path=false:=by
  intro f hf;cases hh:Et (Qm B L R) f.Path
  · rfl
  · obtain ⟨g,hg,e⟩:=Mw.1 hh;have h1:=((mem_late hB hL hR).1 hf).2;have h2:=((mem_out hB hL hR).1 hg).2;rw [e] at h2;exact absurd h1 h2
theorem fin_mem {B L R:List File} {f:File}:f∈Ms B L R↔f∈Qm B L R∨(f∈Mj B L R∧Ej (N7 B L R) f.Path=false):=late_mem _ _ _
theorem fin_srt {B L R:List File} (hB:Gv B) (hL:Gv L) (hR:Gv R):Gv (Ms B L R):=(late_srt (own:=N7 B L R) _ _ (out_srt B L R) (late_srtT B L R) (late_no hB hL hR)).1
theorem vF_ok {B L R:List File} (hBn:B=[]) (hB:TrOk B) (hL:TrOk L) (hR:TrOk R) (p:ByteArray):OkO (vF B L R p).1:=(merged_f (lkn hBn p) (lk_ok hL p) (lk_ok hR p)).2
theorem tmerge {B:List File} {left right:TreePatch} (hBn:B=[]) (hB:TrOk B) (h1:(D6 left.Changes B).2.Code=0) (h2:(D6 right.Changes B).2.Code=0) :
    Ax ⟨B⟩ left right=some (if (Ms B (D6 left.Changes B).1 (D6 right.Changes B).1).length > 24 then (⟨[]⟩,[],⟨10,-1⟩)
      else (⟨Ms B (D6 left.Changes B).1 (D6 right.Changes B).1⟩,tmFst B (D6 left.Changes B).1 (D6 right.Changes B).1 left right++tmSec B (D6 left.Changes B).1 (D6 right.Changes B).1 left right,⟨0,0⟩)):=by
  obtain ⟨a1,a2,_,_,hL⟩:=Om h1;obtain ⟨b1,b2,_,_,hR⟩:=Om h2
  have f1:(D6 left.Changes B).2=⟨0,0⟩:=by
    obtain ⟨_,c2,c3,c4,_⟩:=Om h1;rw [c4] at h1 ⊢;exact (run_ok _ _ _ c3 c2 h1).2
  have f2:(D6 right.Changes B).2=⟨0,0⟩:=by
    obtain ⟨_,c2,c3,c4,_⟩:=Om h2;rw [c4] at h2 ⊢;exact (run_ok _ _ _ c3 c2 h2).2
  have eB:Eq B=⟨0,0⟩:=by
    rcases Od B with h | h
    · exact h
    · exact absurd ((Gt B).2 hB) h
  unfold Ax;rw [Validate_f,Option.bind_some];simp only;rw [eB];simp only [decide_true,Bool.and_self,Bool.not_true,Bool.false_eq_true,if_false];rw [Apply_f,Option.bind_some];simp only;rw [f1];simp only [decide_true,Bool.and_self,Bool.not_true,Bool.false_eq_true,if_false];rw [Apply_f,Option.bind_some];simp only;rw [f2];simp only [decide_true,Bool.and_self,Bool.not_true,Bool.false_eq_true,if_false];generalize (D6 left.Changes B).1=L at hL ⊢;generalize (D6 right.Changes B).1=R at hR ⊢;have lK:=K_len hB hL hR;have sK:=K_size hB hL hR;have lo:(Qm B L R).length≤72:=Nat.le_trans (List.length_filterMap_le _ _) lK;have ll:(Mj B L R).length≤72:=Nat.le_trans (List.length_filterMap_le _ _) lK;have lf:(tmFst B L R left right).length≤72:=Nat.le_trans (List.length_filterMap_le _ _) lK
  have hsz:∀ f,(f∈Qm B L R∨f∈Mj B L R)→f.Path.size≤60∧f.Lines.length≤120:=by
    intro f hf
    have hv:(vF B L R f.Path).1=some f.Lines:=by
      rcases hf with hf | hf
      · exact ((mem_out hB.srt hL.srt hR.srt).1 hf).1
      · exact ((mem_late hB.srt hL.srt hR.srt).1 hf).1
    refine ⟨?_,(vF_ok hBn hB hL hR f.Path f.Lines hv).1⟩;by_cases hk:f.Path∈tmK B L R
    · exact sK _ hk
    · rw [not_K hB.srt hL.srt hR.srt hk] at hv;cases hv
  have lown:(N7 B L R).length≤72:=Nat.le_trans (List.length_filter_le _ _) lo
  have hlf:=late_f a2 a1 b2 b1 (own:=N7 B L R) (out_srt B L R) (by omega) (late_srtT B L R) (by omega) (late_no hB.srt hL.srt hR.srt) (fun f hf=>(hsz f (.inr hf)).1) (fun f hf=>by have:=(hsz f (.inr hf)).2;omega)
    (fun f hf=>(hsz f (.inl (List.mem_filter.1 hf).1)).1) (by omega)
  have ls:(tmSec B L R left right).length≤72:=Nat.le_trans (List.length_filterMap_le _ _) ll;rw [all_f3 hB.len hL.len hR.len,Option.bind_some];rw [show ksort (En B++En L++En R)=tmK B L R from rfl,walk_f hBn hB hL hR a2 a1 b2 b1 (K:=tmK B L R) (ksort_asc _) (by omega) sK,Option.bind_some]
  simp only;rw [show (tmK B L R).filterMap (fstO B L R left right)=tmFst B L R left right from rfl,show (tmK B L R).filterMap (O6 B L R)=Mj B L R from rfl,show (tmK B L R).filterMap (outO B L R)=Qm B L R from rfl];unfold Ax.j1;rw [own_f hR (by omega),Option.bind_some]
  unfold Ax.j2;rw [show ownF R (Qm B L R)=N7 B L R from rfl,hlf,Option.bind_some];simp only;rw [show (Mj B L R).filterMap (secO left right (N7 B L R))=tmSec B L R left right from rfl,show (Mj B L R).foldl (Me (N7 B L R)) (Qm B L R)=Ms B L R from rfl];unfold Ax.j3;rw [Bb];by_cases h24:(Ms B L R).length > 24
  · rw [if_pos (by omega),if_pos h24]
  · rw [if_neg (by omega),if_neg h24,Gm (by omega),Option.bind_some]
theorem fst_nil {B L R:List File} (hB:Gv B) (hL:Gv L) (hR:Gv R) {left right:TreePatch}:tmFst B L R left right=[]↔∀ p,(vF B L R p).2=true:=by
  unfold tmFst;rw [List.filterMap_eq_nil_iff];constructor
  · intro h p;by_cases hk:p∈tmK B L R
    · have:=h p hk;unfold fstO at this;split at this
      · assumption
      · cases this
    · rw [not_K hB hL hR hk]
  · intro h p _;unfold fstO;rw [if_pos (h p)]
theorem sec_nil {B L R:List File} {left right:TreePatch}:tmSec B L R left right=[]↔∀ x∈Mj B L R,Ej (N7 B L R) x.Path=false:=by
  unfold tmSec;rw [List.filterMap_eq_nil_iff];constructor
  · intro h x hx;have:=h x hx;unfold secO at this;cases hr:Ej (N7 B L R) x.Path
    · rfl
    · rw [if_pos hr] at this;cases this
  · intro h x hx;unfold secO;rw [h x hx,if_neg Bool.false_ne_true]
theorem tm_left {B L R:List File} (hB:TrOk B) (hL:TrOk L) (hR:TrOk R) (h:∀ p,vF B L R p=(lk R p,true)) (left right:TreePatch):Ms B L R=R∧tmFst B L R left right=[]∧tmSec B L R left right=[]:=by
  have hown:N7 B L R=[]:=by
    unfold N7 ownF;rw [List.filter_eq_nil_iff];intro f hf;have h1:=((mem_out hB.srt hL.srt hR.srt).1 hf).1;rw [h] at h1
    have:Et R f.Path=true:=by
      cases hh:Et R f.Path
      · rw [(Q6 hR.srt).2 hh] at h1;cases h1
      · rfl
    rw [this];simp
  have hrel:∀ p,Ej (N7 B L R) p=false:=fun p=>by rw [hown];rfl
  refine ⟨res_eq (fin_srt hB.srt hL.srt hR.srt) hR.srt fun f=>?_,(fst_nil hB.srt hL.srt hR.srt).2 fun p=>by rw [h],sec_nil.2 fun x hx=>hrel _⟩
  rw [fin_mem,mem_out hB.srt hL.srt hR.srt,mem_late hB.srt hL.srt hR.srt,h,hrel];constructor
  · rintro (⟨h1,_⟩ | ⟨⟨h1,_⟩,_⟩)
    · exact (lk_some hR.srt).1 h1
    · exact (lk_some hR.srt).1 h1
  · intro hf;have:=(lk_some hR.srt (p:=f.Path) (L:=f.Lines)).2 hf;by_cases hn:lk L f.Path=Option.none
    · exact .inr ⟨⟨this,hn⟩,rfl⟩
    · exact .inl ⟨this,hn⟩
end Go.Dc
set_option linter.unusedSimpArgs false
set_option linter.unusedVariables false
set_option maxRecDepth 4000
namespace Go.Dc
open Go
theorem Mk:TrOk []:=(Gt []).1 (by decide)
theorem tf_ok {l:List File} (h:TrOk l):Eq l=⟨0,0⟩:=by
  rcases Od l with e | e
  · exact e
  · exact absurd ((Gt l).2 h) e
theorem apT_ok (p:List TreeChange) (l:List File):(D6 p l).2=⟨0,0⟩∨(D6 p l).2.Code≠0:=by
  by_cases h:(D6 p l).2.Code=0
  · left;obtain ⟨_,c2,c3,c4,_⟩:=Om h;rw [c4] at h ⊢;exact (run_ok _ _ _ c3 c2 h).2
  · exact .inr h
theorem difT_ok (a b:List File):(Oz a b).2=⟨0,0⟩∨(Oz a b).2.Code≠0:=by
  unfold Oz;split
  · next h=>exact .inr h
  · split
    · next h=>exact .inr h
    · split
      · right;decide
      · left;rfl
theorem difT_of {a b:List File} (ha:TrOk a) (hb:TrOk b) (hl:(L6 a b).length≤30):Oz a b=(⟨L6 a b⟩,⟨0,0⟩):=by
  unfold Oz;rw [tf_ok ha,tf_ok hb,if_neg (by decide),if_neg (by decide),if_neg (by omega)]
theorem difN_len {b:List File} (hb:TrOk b):(L6 [] b).length≤30:=by
  have h1:(L6 [] b).length≤b.length:=by
    unfold L6;simp only [List.filterMap_nil,List.nil_append];exact List.length_filterMap_le _ _
  have:=hb.len;omega
theorem difN {b:List File} (hb:TrOk b):Oz [] b=(⟨L6 [] b⟩,⟨0,0⟩):=difT_of Mk hb (difN_len hb)
theorem apN {b:List File} (hb:TrOk b):D6 (L6 [] b) []=(b,⟨0,0⟩):=by
  obtain ⟨h1,h2⟩:=dif_ok Mk hb;rw [applyT_of (difN_len hb) h1 Mk,h2]
theorem not_net2 (u k n:Int) (p:TreePatch):¬ Net ⟨2,u,k,n,p⟩:=by intro h;unfold Net at h;simp at h
theorem not_net3 (u k n:Int) (p:TreePatch):¬ Net ⟨3,u,k,n,p⟩:=by intro h;unfold Net at h;simp at h
theorem net4 (u k n:Int) (p:TreePatch):Net ⟨4,u,k,n,p⟩:=.inl rfl
def setTree (s:State_forge) (u:Int) (D:Developer_forge) (t:List File):State_forge:=⟨s.keys,s.versions,s.developers.set u.toNat ⟨⟨t⟩,D.base,D.sent,D.accepted⟩,s.flight,s.log⟩
theorem step_edit {s:State_forge} {u k n:Int} {p:TreePatch} {D:Developer_forge} (hD:at? s.developers u=some D) :
    K4 s ⟨2,u,k,n,p⟩=some (if (D6 p.Changes D.tree.Files).2.Code≠0 then ((D6 p.Changes D.tree.Files).2.Code,s) else (0,setTree s u D (D6 p.Changes D.tree.Files).1)):=by
  unfold K4;rw [if_neg (not_net2 u k n p)];unfold B0;simp only;rw [hD,Option.bind_some,if_neg (by simp),if_pos (by simp),Apply_f,Option.bind_some]
  unfold B0.j2;simp only;rcases apT_ok p.Changes D.tree.Files with h | h
  · rw [h];simp only [decide_true,Bool.and_self,Bool.not_true,Bool.false_eq_true,if_false,ne_eq,not_true_eq_false];rw [Option.bind_some];rfl
  · rw [if_pos (Li.2 fun h2=>h h2.1),if_pos h]
noncomputable def Q8 (u:Int) (D:Developer_forge) (key:Int) (q:TreePatch):Message_forge:=⟨u,D.sent+1,D.base,sg key (md ⟨u,D.sent+1,D.base,0,q⟩),q⟩
noncomputable def pushS (s:State_forge) (u:Int) (D:Developer_forge) (key:Int) (q:TreePatch):State_forge :=
  ⟨s.keys,s.versions,s.developers.set u.toNat ⟨D.tree,D.base,D.sent+1,D.accepted⟩,s.flight++[Q8 u D key q],s.log⟩
theorem Oj {u:Int} {D:Developer_forge} {key:Int} {q:TreePatch} (hu:0≤u∧u≤1000) (hs:0≤D.sent∧D.sent≤1000) (hb:0≤D.base∧D.base≤1000):MsgOk (Q8 u D key q) :=
  ⟨Kr hu.1 (by show u≤_;omega),Kr (by show 0≤D.sent+1;omega) (by show D.sent+1≤_;omega),Kr hb.1 (by show D.base≤_;omega)⟩
theorem Qu {u:Int} {D:Developer_forge} {key:Int} {q:TreePatch} (hk:M9 key) (hu:0≤u∧u≤1000) (hs:0≤D.sent∧D.sent≤1000) (hb:0≤D.base∧D.base≤1000) :
    (Q8 u D key q).signature=sg key (md (Q8 u D key q))∧Dig (Q8 u D key q).signature :=
  ⟨rfl,(sign_f hk (by rw [(md_f (Oj (key:=0) hu hs hb)).2];decide:(md (Q8 u D 0 q)).length≤4096)).2⟩
theorem step_push {s:State_forge} {u key n:Int} {p:TreePatch} {D:Developer_forge} {V:List File} (hD:at? s.developers u=some D) (hV:at? s.versions D.base=some ⟨V⟩) (hk:M9 key)
    (hu:0≤u∧u≤1000) (hs:0≤D.sent∧D.sent≤1000) (hb:0≤D.base∧D.base≤1000) :
    K4 s ⟨3,u,key,n,p⟩=some (if (Oz V D.tree.Files).2.Code≠0 then ((Oz V D.tree.Files).2.Code,s) else if (Oz V D.tree.Files).1.Changes=[] then (11,s) else if s.flight.length ≥ 20 then (14,s) else (0,pushS s u D key (Oz V D.tree.Files).1)):=by
  unfold K4;rw [if_neg (not_net3 u key n p)];unfold B0;simp only;rw [hD,Option.bind_some,if_neg (by simp),if_neg (by simp),if_pos (by simp)]
  unfold Gb;rw [hD,Option.bind_some,hV,Option.bind_some];have e0:D.tree=⟨D.tree.Files⟩:=rfl;have e1:Be ⟨V⟩ D.tree=some (Oz V D.tree.Files):=tdifT_f V D.tree.Files;rw [e1,Option.bind_some];generalize hd:Oz V D.tree.Files=d;have hz:d.2=⟨0,0⟩∨d.2.Code≠0:=hd ▸ difT_ok V D.tree.Files;obtain ⟨q,f⟩:=d;unfold Gb.j1;simp only at hz ⊢;rcases hz with rfl | h
  · simp only [decide_true,Bool.and_self,Bool.not_true,Bool.false_eq_true,if_false,ne_eq,not_true_eq_false];rw [len_zero_dec,Bb];by_cases hq:q.Changes=[]
    · rw [if_pos hq,if_pos hq];rfl
    rw [if_neg hq,if_neg hq,Bb];by_cases hf:s.flight.length ≥ 20
    · rw [if_pos (by omega),if_pos hf];rfl
    rw [if_neg (by omega),if_neg hf,Cd (by omega) (by omega),Option.bind_some,Option.bind_some]
    obtain ⟨m1,m2⟩:=md_f (Oj (q:=q) (key:=0) hu hs hb);have m3:El ⟨u,D.sent+1,D.base,0,q⟩=some (md ⟨u,D.sent+1,D.base,0,q⟩):=m1;have m4:(md ⟨u,D.sent+1,D.base,0,q⟩).length=32:=m2;rw [m3,Option.bind_some,(sign_f hk (by omega)).1,Option.bind_some,Gm (by rw [List.length_singleton];omega),Option.bind_some]
    rfl
  · rw [if_pos (Li.2 fun h2=>h h2.1),if_pos h];rfl
def drp (s:State_forge) (n:Nat):State_forge:=⟨s.keys,s.versions,s.developers,s.flight.take n++s.flight.drop (n+1),s.log⟩
theorem step_deliver {s:State_forge} {u k:Int} {n:Nat} {p:TreePatch} (hl:s.flight.length≤1000) :
    K4 s ⟨4,u,k,(n:Int),p⟩=if h:n < s.flight.length then (B7 (drp s n) s.flight[n]) else some (6,s):=by
  unfold K4;rw [if_pos (net4 u k (n:Int) p)];unfold Dh;simp only;rw [Bb];by_cases h:n < s.flight.length
  · rw [if_neg (by omega),dif_pos h,C3 h,Option.bind_some,if_pos (by decide),Cd (by omega) (by omega),Option.bind_some]
    rw [show (n:Int)+1=((n+1:Nat):Int) from rfl,del?_mk (by omega) h,Option.bind_some]
    show (B7 (drp s n) s.flight[n]).bind _=_;cases B7 (drp s n) s.flight[n] <;> rfl
  · rw [if_pos (by omega),dif_neg h]
noncomputable def accT (s:State_forge) (m:Message_forge) (D:Developer_forge) (N R:List File):Int×State_forge :=
  if (Ms [] N R).length > 24 then (10,s)
  else if tmFst [] N R ⟨L6 [] N⟩ m.patch++tmSec [] N R ⟨L6 [] N⟩ m.patch≠[] then (19,s)
  else if (Oz N (Ms [] N R)).2.Code≠0 then ((Oz N (Ms [] N R)).2.Code,s)
  else (0,⟨s.keys,s.versions++[⟨Ms [] N R⟩],s.developers.set m.user.toNat ⟨D.tree,D.base,D.sent,m.number⟩,s.flight,s.log++[⟨m.user,m.number,(Oz N (Ms [] N R)).1⟩]⟩)
theorem accept_f {s:State_forge} {m:Message_forge} {D:Developer_forge} {key:Int} {N:List File} {v:List FileTree} (hD:at? s.developers m.user=some D) (hk:at? s.keys m.user=some key) (hik:M9 key) (hm:MsgOk m)
    (hsd:Dig m.signature) (hs:m.signature=sg key (md m)) (hn:¬ m.number≤D.accepted) (hb:at? s.versions m.base=some ⟨[]⟩) (hv:s.versions=v++[⟨N⟩]) (hvl:v.length≤1000) (hll:s.log.length≤1000) (hN:TrOk N)
    (hp:(D6 m.patch.Changes []).2.Code=0):B7 s m=some (accT s m D N (D6 m.patch.Changes []).1):=by
  obtain ⟨m1,m2⟩:=md_f hm;unfold B7;rw [hD,Option.bind_some,hk,Option.bind_some,m1,Option.bind_some,verify_f hik (by omega) hsd,Option.bind_some]
  unfold B7.j1;simp only;rw [decide_eq_true hs.symm,if_neg (by decide),Bb,if_neg hn,hb,Option.bind_some,newest_f hv (by omega),Option.bind_some,tdifT_f,difN hN,Option.bind_some]
  unfold B7.j2;simp only [decide_true,Bool.and_self,Bool.not_true,Bool.false_eq_true,if_false];have hA:(D6 (⟨L6 [] N⟩:TreePatch).Changes []).2.Code=0:=by show (D6 (L6 [] N) []).2.Code=0;rw [apN hN]
  have hA1:(D6 (⟨L6 [] N⟩:TreePatch).Changes []).1=N:=by show (D6 (L6 [] N) []).1=N;rw [apN hN]
  rw [tmerge rfl Mk hA hp,hA1,Option.bind_some];unfold accT;generalize (D6 m.patch.Changes []).1=R;by_cases h24:(Ms [] N R).length > 24
  · rw [if_pos h24,if_pos h24];rfl
  rw [if_neg h24,if_neg h24];simp only [decide_true,Bool.and_self,Bool.not_true,Bool.false_eq_true,if_false];rw [len_pos_dec,Bb];by_cases hc:tmFst [] N R ⟨L6 [] N⟩ m.patch++tmSec [] N R ⟨L6 [] N⟩ m.patch≠[]
  · rw [if_pos hc,if_pos hc]
  rw [if_neg hc,if_neg hc,newest_f hv (by omega),Option.bind_some,tdifT_f,Option.bind_some]
  unfold B7.j3;rcases difT_ok N (Ms [] N R) with h | h
  · rw [h];simp only [decide_true,Bool.and_self,Bool.not_true,Bool.false_eq_true,if_false,ne_eq,not_true_eq_false];rw [Option.bind_some,Gm (by rw [hv,List.length_append,List.length_singleton,List.length_singleton];omega),Option.bind_some,Gm (by rw [List.length_singleton];omega),Option.bind_some]
  · rw [if_pos (Li.2 fun h2=>h h2.1),if_pos h]
theorem mg_empty {R:List File} (hR:TrOk R) (p q:TreePatch):Ms [] [] R=R∧tmFst [] [] R p q=[]∧tmSec [] [] R p q=[]:=by
  refine tm_left Mk Mk hR (fun x=>?_) p q;show mgO Option.none Option.none (lk R x)=_;unfold mgO;by_cases h:lk R x=Option.none
  · rw [if_pos (.inl h),h]
  · rw [if_neg (by rintro (h2 | h2) <;> exact h h2),if_pos rfl]
theorem accT_empty {s:State_forge} {m:Message_forge} {D:Developer_forge} {R:List File} (hR:TrOk R) :
    accT s m D [] R=(0,⟨s.keys,s.versions++[⟨R⟩],s.developers.set m.user.toNat ⟨D.tree,D.base,D.sent,m.number⟩,s.flight,s.log++[⟨m.user,m.number,⟨L6 [] R⟩⟩]⟩):=by
  unfold accT;obtain ⟨h1,h2,h3⟩:=mg_empty hR ⟨L6 [] []⟩ m.patch;have:=hR.len;rw [h1,h2,h3,if_neg (by omega),if_neg (by simp),difN hR,if_neg (by simp)]
end Go.Dc
set_option linter.unusedSimpArgs false
set_option linter.unusedVariables false
set_option maxRecDepth 4000
namespace Go.Dc
open Go
def evE (u:Int) (p:TreePatch):ForgeEvent:=⟨2,u,0,0,p⟩
def evP (u key:Int):ForgeEvent:=⟨3,u,key,0,⟨[]⟩⟩
def evL (n:Int):ForgeEvent:=⟨4,0,0,n,⟨[]⟩⟩
theorem evE_c {n u:Int} (h0:0≤u) (h1:u < n) (p:TreePatch):evC n (evE u p)=(pcF p.Changes).Code:=by
  unfold evC evE;rw [if_neg (not_net2 u 0 0 p),if_pos (by simp)]
  unfold evD;rw [if_neg (by rintro (h | h | h);exact absurd h (by show ¬ u < 0;omega);exact absurd h (by show ¬ u ≥ n;omega);exact absurd h.1 (by simp)),if_pos rfl]
theorem evP_c {n u key:Int} (h0:0≤u) (h1:u < n):evC n (evP u key)=if M9 key then 0 else 3:=by
  unfold evC evP;rw [if_neg (not_net3 u key 0 _),if_pos (by simp)]
  unfold evD;by_cases hk:M9 key
  · rw [if_neg (by rintro (h | h | h);exact absurd h (by show ¬ u < 0;omega);exact absurd h (by show ¬ u ≥ n;omega);exact h.2 hk),if_neg (by simp),if_pos hk]
  · rw [if_pos (.inr (.inr ⟨rfl,hk⟩)),if_neg hk]
theorem evL_c {n k:Int} (h0:0≤k) (h1:k≤1000000000):evC n (evL k)=0:=by
  unfold evC evL;rw [if_pos (net4 0 0 k _)];unfold evN;rw [if_neg (by rintro (h | h);exact absurd h (by show ¬ k < 0;omega);exact absurd h (by show ¬ k > 1000000000;omega))]
def s1 (key:Int) (t:List File):State_forge:=⟨[key],[⟨[]⟩],[⟨⟨t⟩,0,0,0⟩],[],[]⟩
def s3 (key:Int) (t:List File):State_forge:=⟨[key],[⟨[]⟩,⟨t⟩],[⟨⟨t⟩,0,1,1⟩],[],[⟨0,1,⟨L6 [] t⟩⟩]⟩
theorem ints_refl (l:List Int) (h:l.length≤1000):Cj l l=some true:=by
  rw [ints_eq l l (by omega),decide_eq_true rfl]
end Go.Dc
set_option linter.unusedSimpArgs false
set_option linter.unusedVariables false
set_option maxRecDepth 4000
namespace Go.Dc
open Go
theorem lk_one {path:ByteArray} {t:List ByteArray} (q:ByteArray):lk [⟨path,t⟩] q=if q=path then some t else Option.none:=by
  have hs:Gv [(⟨path,t⟩:File)]:=List.pairwise_singleton _ _;by_cases h:q=path
  · subst h;rw [if_pos rfl];exact (lk_some hs).2 (by simp)
  · rw [if_neg h];refine (Q6 hs).2 ?_;cases hh:Et [(⟨path,t⟩:File)] q
    · rfl
    · obtain ⟨f,hf,e⟩:=Mw.1 hh;rw [List.mem_singleton] at hf;subst hf;exact absurd e.symm h
def adF (a:ByteArray) (l:List ByteArray):TreeChange:=⟨1,a,ByteArray.empty,l,⟨[]⟩⟩
theorem dif_one (a:ByteArray) (l:List ByteArray):L6 [] [⟨a,l⟩]=[adF a l]:=by simp [L6,adOf,Et,adF]
theorem ad_ok {a:ByteArray} {l:List ByteArray} (h:OkCh (adF a l)):TrOk [⟨a,l⟩]:=one_ok h.path ((Ez _).2 ((Dq _).2 h.lines))
section
variable {a b : ByteArray} {l m : List ByteArray}
theorem vF_two (hne:a≠b) (p:ByteArray):vF [] [⟨a,l⟩] [⟨b,m⟩] p=(if p=a then some l else if p=b then some m else Option.none,true):=by
  show mgO Option.none (lk [⟨a,l⟩] p) (lk [⟨b,m⟩] p)=_;rw [lk_one,lk_one];unfold mgO;by_cases h1:p=a
  · subst h1;rw [if_pos rfl,if_neg hne,if_pos (.inl rfl),if_pos rfl]
  · rw [if_neg h1,if_neg h1];by_cases h2:p=b
    · rw [if_pos h2,if_neg (by rintro (h | h) <;> cases h),if_pos rfl]
    · rw [if_neg h2,if_pos (.inl rfl)]
theorem two_merge (hX:TrOk [⟨a,l⟩]) (hY:TrOk [⟨b,m⟩]) (hr:Lf a b=false) (p q:TreePatch) {T:List File} (hT:TrOk T) (hm:∀ g,g∈T↔g=⟨a,l⟩∨g=⟨b,m⟩) :
    Ms [] [⟨a,l⟩] [⟨b,m⟩]=T∧tmFst [] [⟨a,l⟩] [⟨b,m⟩] p q=[]∧tmSec [] [⟨a,l⟩] [⟨b,m⟩] p q=[]:=by
  have hne:a≠b:=fun e=>by rw [e,relB_self] at hr;cases hr
  have hown:∀ g∈N7 [] [⟨a,l⟩] [⟨b,m⟩],g.Path=a:=by
    intro g hg;have hg2:=(List.mem_filter.1 hg).1;obtain ⟨h1,h2⟩:=(mem_out Mk.srt hX.srt hY.srt).1 hg2;rw [lk_one] at h2;by_cases e:g.Path=a
    · exact e
    · rw [if_neg e] at h2;exact absurd rfl h2
  have hlate:∀ x∈Mj [] [⟨a,l⟩] [⟨b,m⟩],x.Path=b∧x.Lines=m:=by
    intro x hx;obtain ⟨h1,h2⟩:=(mem_late Mk.srt hX.srt hY.srt).1 hx;rw [lk_one] at h2;rw [vF_two hne] at h1;simp only at h1;by_cases e:x.Path=a
    · rw [if_pos e] at h2;cases h2
    · rw [if_neg e] at h1;by_cases e2:x.Path=b
      · rw [if_pos e2] at h1;cases h1;exact ⟨e2,rfl⟩
      · rw [if_neg e2] at h1;cases h1
  have hrel:∀ x∈Mj [] [⟨a,l⟩] [⟨b,m⟩],Ej (N7 [] [⟨a,l⟩] [⟨b,m⟩]) x.Path=false:=by
    intro x hx;refine Q7.2 fun g hg=>?_;rw [hown g hg,(hlate x hx).1];exact hr
  refine ⟨res_eq (fin_srt Mk.srt hX.srt hY.srt) hT.srt fun f=>?_,(fst_nil Mk.srt hX.srt hY.srt).2 fun x=>by rw [vF_two hne],sec_nil.2 hrel⟩
  rw [fin_mem,hm f,mem_out Mk.srt hX.srt hY.srt,mem_late Mk.srt hX.srt hY.srt,vF_two hne,lk_one];simp only;obtain ⟨P,L⟩:=f;simp only [File.mk.injEq];constructor
  · rintro (⟨h1,h2⟩ | ⟨⟨h1,h2⟩,_⟩)
    · by_cases e:P=a
      · rw [if_pos e] at h1;cases h1;exact .inl ⟨e,rfl⟩
      · rw [if_neg e] at h2;exact absurd rfl h2
    · by_cases e:P=a
      · rw [if_pos e] at h2;cases h2
      · rw [if_neg e] at h1;by_cases e2:P=b
        · rw [if_pos e2] at h1;cases h1;exact .inr ⟨e2,rfl⟩
        · rw [if_neg e2] at h1;cases h1
  · rintro (⟨rfl,rfl⟩ | ⟨rfl,rfl⟩)
    · left;rw [if_pos rfl];exact ⟨rfl,by simp⟩
    · right;have hn2:¬ P=a:=fun e=>hne e.symm;rw [if_neg hn2,if_pos rfl,if_neg hn2];exact ⟨⟨rfl,rfl⟩,Q7.2 fun g hg=>by rw [hown g hg];exact hr⟩
theorem two_dif (hX:TrOk [⟨a,l⟩]) {T:List File} (hT:TrOk T) (hl:T.length≤2):(Oz [⟨a,l⟩] T).2.Code=0:=by
  rw [difT_of hX hT];unfold L6;have h1:=List.length_filterMap_le (rmOf T) [⟨a,l⟩];have h2:=List.length_filterMap_le (Qf T) [⟨a,l⟩];have h3:=List.length_filterMap_le (adOf [⟨a,l⟩]) T;rw [List.length_append,List.length_append];simp only [List.length_singleton] at h1 h2;omega
theorem two_apply (hA:OkCh (adF a l)) (hB:OkCh (adF b m)) (h:(D6 [adF a l,adF b m] []).2.Code=0) :
    Lf a b=false∧TrOk (D6 [adF a l,adF b m] []).1∧(∀ g,g∈(D6 [adF a l,adF b m] []).1↔g=⟨a,l⟩∨g=⟨b,m⟩)∧(D6 [adF a l,adF b m] []).1.length≤2:=by
  have hX:=ad_ok hA;obtain ⟨_,_,_,h4,h5⟩:=Om h
  have e1:Ky 0 [adF a l] []=([⟨a,l⟩],⟨0,0⟩):=by
    have:=(dif_ok Mk hX).2;rw [dif_one] at this;exact this
  have e2:Ky 0 ([adF a l]++[adF b m]) []=Ky (0+1) [adF b m] [⟨a,l⟩]:=by
    rw [run_app _ _ _ _ (by rw [e1]),e1];rfl
  have e3:D6 [adF a l,adF b m] []=Ky (0+1) [adF b m] [⟨a,l⟩]:=by rw [h4];exact e2
  rw [e3] at h h5 ⊢
  have hmk:(Gz (adF b m) [⟨a,l⟩]).1=0:=by
    by_cases h0:(Gz (adF b m) [⟨a,l⟩]).1=0
    · exact h0
    · rw [Ky,if_pos h0] at h;exact absurd h h0
  have e4:Ky (0+1) [adF b m] [⟨a,l⟩]=((Gz (adF b m) [⟨a,l⟩]).2,⟨0,0⟩):=by
    rw [Ky,if_neg (by rw [hmk];simp)];rfl
  rw [e4] at h5 ⊢;obtain ⟨x,hc,hres⟩:=make_can hX hB hmk
  have hc1:(∀ f∈[(⟨a,l⟩:File)],Lf f.Path b=false)∧x=some ⟨b,m⟩:=by
    rcases hc with ⟨_,h1,h2⟩ | ⟨k,_⟩ | ⟨k,_⟩ | ⟨k,_⟩
    · exact ⟨h1,h2⟩
    · exact absurd k (by show ¬ (1:Int)=2;omega)
    · exact absurd k (by show ¬ (1:Int)=3;omega)
    · exact absurd k (by show ¬ (1:Int)=4;omega)
  obtain ⟨hrel,rfl⟩:=hc1;have hr:Lf a b=false:=hrel ⟨a,l⟩ (by simp)
  have hne:a≠b:=fun e=>by rw [e,relB_self] at hr;cases hr
  have hmem:∀ g,g∈(Gz (adF b m) [⟨a,l⟩]).2↔g=⟨a,l⟩∨g=⟨b,m⟩:=by
    intro g;rw [hres g];constructor
    · rintro (⟨h1,_⟩ | h1)
      · exact .inl (List.mem_singleton.1 h1)
      · exact .inr (Option.some.inj h1)
    · rintro (rfl | rfl)
      · exact .inl ⟨by simp,hne⟩
      · exact .inr rfl
  refine ⟨hr,h5,hmem,?_⟩;have hs:=h5.srt;simp only at hs ⊢;generalize (Gz (adF b m) [⟨a,l⟩]).2=T at hs hmem ⊢
  match T,hs,hmem with
  | [],_,_=>simp
  | [_],_,_=>simp
  | [_,_],_,_=>simp
  | x::y::z::r,hs,hmem =>
    exfalso;have hxy:=(List.pairwise_cons.1 hs).1 y (by simp)
    have hxz:=(List.pairwise_cons.1 hs).1 z (by simp)
    have hyz:=(List.pairwise_cons.1 (List.pairwise_cons.1 hs).2).1 z (by simp)
    rcases (hmem x).1 (by simp) with ex | ex <;> rcases (hmem y).1 (by simp) with ey | ey <;> rcases (hmem z).1 (by simp) with ez | ez <;> subst ex <;> subst ey <;> subst ez <;>
      first
        | (rw [H3] at hxy;cases hxy)
        | (rw [H3] at hxz;cases hxz)
        | (rw [H3] at hyz;cases hyz)
end
def evs2 (a b:ByteArray) (l m:List ByteArray) (first:Int):List ForgeEvent:=[evE 0 ⟨[adF a l]⟩,evP 0 3,evE 1 ⟨[adF b m]⟩,evP 1 4,evL first,evL 0]
theorem fv2 {a b:ByteArray} {l m:List ByteArray} {first:Int} (h0:0≤first) (h1:first≤1):(fvF [3,4] (evs2 a b l m first)).Code=0↔OkCh (adF a l)∧OkCh (adF b m):=by
  rw [fvF_zero];have e1:=evE_c (n:=([3,4]:List Int).length) (u:=0) (by omega) (by simp) ⟨[adF a l]⟩
  have e2:=evP_c (n:=([3,4]:List Int).length) (u:=0) (key:=3) (by omega) (by simp)
  have e3:=evE_c (n:=([3,4]:List Int).length) (u:=1) (by omega) (by simp) ⟨[adF b m]⟩
  have e4:=evP_c (n:=([3,4]:List Int).length) (u:=1) (key:=4) (by omega) (by simp)
  have e5:=evL_c (n:=([3,4]:List Int).length) (k:=first) (by omega) (by omega)
  have e6:=evL_c (n:=([3,4]:List Int).length) (k:=0) (by omega) (by omega)
  constructor
  · rintro ⟨_,_,he⟩;have q1:(pcF [adF a l]).Code=0:=by rw [← he (evE 0 ⟨[adF a l]⟩) (by simp [evs2]),e1]
    have q2:(pcF [adF b m]).Code=0:=by rw [← he (evE 1 ⟨[adF b m]⟩) (by simp [evs2]),e3]
    exact ⟨((M0 _).1 q1).2 _ (by simp),((M0 _).1 q2).2 _ (by simp)⟩
  · rintro ⟨hA,hB⟩;refine ⟨⟨by simp,by simp,fun k h=>by simp at h;rcases h with rfl | rfl <;> exact ⟨by omega,by omega⟩⟩,by simp [evs2],fun e he=>?_⟩
    unfold evs2 at he;simp only [List.mem_cons,List.not_mem_nil,or_false] at he;rcases he with rfl | rfl | rfl | rfl | rfl | rfl
    · rw [e1];exact (M0 _).2 ⟨by simp,by simpa using hA⟩
    · rw [e2,if_pos ⟨by omega,by omega⟩]
    · rw [e3];exact (M0 _).2 ⟨by simp,by simpa using hB⟩
    · rw [e4,if_pos ⟨by omega,by omega⟩]
    · exact e5
    · exact e6
theorem ap_one {a:ByteArray} {l:List ByteArray} (hX:TrOk [⟨a,l⟩]):D6 [adF a l] []=([⟨a,l⟩],⟨0,0⟩):=by
  have:=apN hX;rw [dif_one] at this;exact this
theorem accT_new {s:State_forge} {m:Message_forge} {D:Developer_forge} {N R:List File} {v:List FileTree} (hv:s.versions=v++[⟨N⟩]) (hN:TrOk N) (hl:v.length≤100) :
    ∃ w t,(accT s m D N R).2.versions=w++[⟨t⟩]∧w.length≤101∧TrOk t:=by
  unfold accT;split
  · exact ⟨v,N,hv,by omega,hN⟩
  split
  · exact ⟨v,N,hv,by omega,hN⟩
  split
  · exact ⟨v,N,hv,by omega,hN⟩
  · next h =>
    refine ⟨s.versions,Ms [] N R,rfl,by rw [hv,List.length_append,List.length_singleton];omega,?_⟩
    have h0:(Oz N (Ms [] N R)).2.Code=0:=by simpa using h
    unfold Oz at h0;rw [tf_ok hN,if_neg (by simp)] at h0
    by_cases hf:(Eq (Ms [] N R)).Code=0
    · exact (Gt _).1 hf
    · rw [if_pos hf] at h0;exact absurd h0 hf
def u0 (X Y:List File) (s0 s1 a0 a1:Int):List Developer_forge:=[⟨⟨X⟩,0,s0,a0⟩,⟨⟨Y⟩,0,s1,a1⟩]
noncomputable def m0 (a:ByteArray) (l:List ByteArray):Message_forge:=Q8 0 ⟨⟨[⟨a,l⟩]⟩,0,0,0⟩ 3 ⟨[adF a l]⟩
noncomputable def m1 (b:ByteArray) (m:List ByteArray):Message_forge:=Q8 1 ⟨⟨[⟨b,m⟩]⟩,0,0,0⟩ 4 ⟨[adF b m]⟩
section
variable {a b : ByteArray} {l m : List ByteArray}
theorem push2 (hA:OkCh (adF a l)) (hB:OkCh (adF b m)) (r:List ForgeEvent):runs (st0 [3,4]) [] (evE 0 ⟨[adF a l]⟩::evP 0 3::evE 1 ⟨[adF b m]⟩::evP 1 4::r) =
    runs ⟨[3,4],[⟨[]⟩],u0 [⟨a,l⟩] [⟨b,m⟩] 1 1 0 0,[m0 a l,m1 b m],[]⟩ [0,0,0,0] r:=by
  have hX:=ad_ok hA;have hY:=ad_ok hB
  have d1:K4 (st0 [3,4]) (evE 0 ⟨[adF a l]⟩)=some (0,⟨[3,4],[⟨[]⟩],u0 [⟨a,l⟩] [] 0 0 0 0,[],[]⟩):=by
    unfold evE;rw [step_edit (D:=⟨⟨[]⟩,0,0,0⟩) rfl];simp only;rw [ap_one hX,if_neg (by simp)];rfl
  have d2:K4 ⟨[3,4],[⟨[]⟩],u0 [⟨a,l⟩] [] 0 0 0 0,[],[]⟩ (evP 0 3)=some (0,⟨[3,4],[⟨[]⟩],u0 [⟨a,l⟩] [] 1 0 0 0,[m0 a l],[]⟩):=by
    unfold evP;rw [step_push (D:=⟨⟨[⟨a,l⟩]⟩,0,0,0⟩) (V:=[]) rfl rfl ⟨by omega,by omega⟩ (by omega) (by simp) (by simp)]
    simp only;rw [difN hX,dif_one];rw [if_neg (by simp),if_neg (by simp),if_neg (by simp)];rfl
  have d3:K4 ⟨[3,4],[⟨[]⟩],u0 [⟨a,l⟩] [] 1 0 0 0,[m0 a l],[]⟩ (evE 1 ⟨[adF b m]⟩)=some (0,⟨[3,4],[⟨[]⟩],u0 [⟨a,l⟩] [⟨b,m⟩] 1 0 0 0,[m0 a l],[]⟩):=by
    unfold evE;rw [step_edit (D:=⟨⟨[]⟩,0,0,0⟩) rfl];simp only;rw [ap_one hY,if_neg (by simp)];rfl
  have d4:K4 ⟨[3,4],[⟨[]⟩],u0 [⟨a,l⟩] [⟨b,m⟩] 1 0 0 0,[m0 a l],[]⟩ (evP 1 4)=some (0,⟨[3,4],[⟨[]⟩],u0 [⟨a,l⟩] [⟨b,m⟩] 1 1 0 0,[m0 a l,m1 b m],[]⟩):=by
    unfold evP;rw [step_push (D:=⟨⟨[⟨b,m⟩]⟩,0,0,0⟩) (V:=[]) rfl rfl ⟨by omega,by omega⟩ (by omega) (by simp) (by simp)]
    simp only;rw [difN hY,dif_one];rw [if_neg (by simp),if_neg (by simp),if_neg (by simp)];rfl
  rw [Mq d1,Mq d2,Mq d3,Mq d4];rfl
theorem step_dl {s:State_forge} {n:Int} {k:Nat} {M:Message_forge} (hn:n=(k:Int)) (hl:s.flight.length≤1000) (h:s.flight[k]? = some M):K4 s (evL n)=B7 (drp s k) M:=by
  obtain ⟨hk,e⟩:=List.getElem?_eq_some_iff.1 h;unfold evL;rw [hn,step_deliver hl,dif_pos hk,e]
theorem take01 (hA:OkCh (adF a l)) (hB:OkCh (adF b m)):∃ S D,runs (st0 [3,4]) [] (evs2 a b l m 0)=some ((accT S (m1 b m) D [⟨a,l⟩] [⟨b,m⟩]).2,[0,0,0,0,0,(accT S (m1 b m) D [⟨a,l⟩] [⟨b,m⟩]).1]) ∧
    S.versions=[⟨[]⟩]++[⟨[⟨a,l⟩]⟩]∧S.log=[⟨0,1,⟨[adF a l]⟩⟩]:=by
  have hX:=ad_ok hA;have hY:=ad_ok hB;have l0:(m0 a l).signature=sg 3 (md (m0 a l))∧Dig (m0 a l).signature:=Qu (u:=0) (D:=⟨⟨[⟨a,l⟩]⟩,0,0,0⟩) (q:=⟨[adF a l]⟩) (key:=3) ⟨by omega,by omega⟩ (by omega) (by simp) (by simp)
  have o0:MsgOk (m0 a l):=Oj (u:=0) (D:=⟨⟨[⟨a,l⟩]⟩,0,0,0⟩) (q:=⟨[adF a l]⟩) (key:=3) (by omega) (by simp) (by simp)
  have l1:(m1 b m).signature=sg 4 (md (m1 b m))∧Dig (m1 b m).signature:=Qu (u:=1) (D:=⟨⟨[⟨b,m⟩]⟩,0,0,0⟩) (q:=⟨[adF b m]⟩) (key:=4) ⟨by omega,by omega⟩ (by omega) (by simp) (by simp)
  have o1:MsgOk (m1 b m):=Oj (u:=1) (D:=⟨⟨[⟨b,m⟩]⟩,0,0,0⟩) (q:=⟨[adF b m]⟩) (key:=4) (by omega) (by simp) (by simp)
  refine ⟨⟨[3,4],[⟨[]⟩,⟨[⟨a,l⟩]⟩],u0 [⟨a,l⟩] [⟨b,m⟩] 1 1 1 0,[],[⟨0,1,⟨[adF a l]⟩⟩]⟩,⟨⟨[⟨b,m⟩]⟩,0,1,0⟩,?_,rfl,rfl⟩;unfold evs2;rw [push2 hA hB]
  have d5:K4 ⟨[3,4],[⟨[]⟩],u0 [⟨a,l⟩] [⟨b,m⟩] 1 1 0 0,[m0 a l,m1 b m],[]⟩ (evL 0)=some (0,⟨[3,4],[⟨[]⟩,⟨[⟨a,l⟩]⟩],u0 [⟨a,l⟩] [⟨b,m⟩] 1 1 1 0,[m1 b m],[⟨0,1,⟨[adF a l]⟩⟩]⟩):=by
    refine (step_dl (n:=0) (k:=0) (M:=m0 a l) rfl (by simp) rfl).trans ?_
    have hp:(D6 (m0 a l).patch.Changes [])=([⟨a,l⟩],⟨0,0⟩):=ap_one hX;rw [accept_f (m:=m0 a l) (D:=⟨⟨[⟨a,l⟩]⟩,0,1,0⟩) (key:=3) (N:=[]) (v:=[]) rfl rfl ⟨by omega,by omega⟩ o0 l0.2 l0.1 (by show ¬ (0+1:Int)≤0;omega) rfl rfl (by simp) (by show 0≤1000;omega) Mk (by rw [hp]),hp,accT_empty hX,dif_one]
    rfl
  rw [Mq d5]
  have d6:K4 ⟨[3,4],[⟨[]⟩,⟨[⟨a,l⟩]⟩],u0 [⟨a,l⟩] [⟨b,m⟩] 1 1 1 0,[m1 b m],[⟨0,1,⟨[adF a l]⟩⟩]⟩ (evL 0)=some (accT ⟨[3,4],[⟨[]⟩,⟨[⟨a,l⟩]⟩],u0 [⟨a,l⟩] [⟨b,m⟩] 1 1 1 0,[],[⟨0,1,⟨[adF a l]⟩⟩]⟩ (m1 b m) ⟨⟨[⟨b,m⟩]⟩,0,1,0⟩ [⟨a,l⟩] [⟨b,m⟩]):=by
    refine (step_dl (n:=0) (k:=0) (M:=m1 b m) rfl (by simp) rfl).trans ?_
    have hp:(D6 (m1 b m).patch.Changes [])=([⟨b,m⟩],⟨0,0⟩):=ap_one hY;rw [accept_f (m:=m1 b m) (D:=⟨⟨[⟨b,m⟩]⟩,0,1,0⟩) (key:=4) (N:=[⟨a,l⟩]) (v:=[⟨[]⟩]) rfl rfl ⟨by omega,by omega⟩ o1 l1.2 l1.1 (by show ¬ (0+1:Int)≤0;omega) rfl rfl (by simp) (by show 1≤1000;omega) hX (by rw [hp]),hp]
    rfl
  rw [Mq d6];rfl
theorem take10 (hA:OkCh (adF a l)) (hB:OkCh (adF b m)):∃ S D,runs (st0 [3,4]) [] (evs2 a b l m 1)=some ((accT S (m0 a l) D [⟨b,m⟩] [⟨a,l⟩]).2,[0,0,0,0,0,(accT S (m0 a l) D [⟨b,m⟩] [⟨a,l⟩]).1]) ∧
    S.versions=[⟨[]⟩]++[⟨[⟨b,m⟩]⟩]∧S.log=[⟨1,1,⟨[adF b m]⟩⟩]:=by
  have hX:=ad_ok hA;have hY:=ad_ok hB;have l0:(m0 a l).signature=sg 3 (md (m0 a l))∧Dig (m0 a l).signature:=Qu (u:=0) (D:=⟨⟨[⟨a,l⟩]⟩,0,0,0⟩) (q:=⟨[adF a l]⟩) (key:=3) ⟨by omega,by omega⟩ (by omega) (by simp) (by simp)
  have o0:MsgOk (m0 a l):=Oj (u:=0) (D:=⟨⟨[⟨a,l⟩]⟩,0,0,0⟩) (q:=⟨[adF a l]⟩) (key:=3) (by omega) (by simp) (by simp)
  have l1:(m1 b m).signature=sg 4 (md (m1 b m))∧Dig (m1 b m).signature:=Qu (u:=1) (D:=⟨⟨[⟨b,m⟩]⟩,0,0,0⟩) (q:=⟨[adF b m]⟩) (key:=4) ⟨by omega,by omega⟩ (by omega) (by simp) (by simp)
  have o1:MsgOk (m1 b m):=Oj (u:=1) (D:=⟨⟨[⟨b,m⟩]⟩,0,0,0⟩) (q:=⟨[adF b m]⟩) (key:=4) (by omega) (by simp) (by simp)
  refine ⟨⟨[3,4],[⟨[]⟩,⟨[⟨b,m⟩]⟩],u0 [⟨a,l⟩] [⟨b,m⟩] 1 1 0 1,[],[⟨1,1,⟨[adF b m]⟩⟩]⟩,⟨⟨[⟨a,l⟩]⟩,0,1,0⟩,?_,rfl,rfl⟩;unfold evs2;rw [push2 hA hB]
  have d5:K4 ⟨[3,4],[⟨[]⟩],u0 [⟨a,l⟩] [⟨b,m⟩] 1 1 0 0,[m0 a l,m1 b m],[]⟩ (evL 1)=some (0,⟨[3,4],[⟨[]⟩,⟨[⟨b,m⟩]⟩],u0 [⟨a,l⟩] [⟨b,m⟩] 1 1 0 1,[m0 a l],[⟨1,1,⟨[adF b m]⟩⟩]⟩):=by
    refine (step_dl (n:=1) (k:=1) (M:=m1 b m) rfl (by simp) rfl).trans ?_
    have hp:(D6 (m1 b m).patch.Changes [])=([⟨b,m⟩],⟨0,0⟩):=ap_one hY;rw [accept_f (m:=m1 b m) (D:=⟨⟨[⟨b,m⟩]⟩,0,1,0⟩) (key:=4) (N:=[]) (v:=[]) rfl rfl ⟨by omega,by omega⟩ o1 l1.2 l1.1 (by show ¬ (0+1:Int)≤0;omega) rfl rfl (by simp) (by show 0≤1000;omega) Mk (by rw [hp]),hp,accT_empty hY,dif_one]
    rfl
  rw [Mq d5]
  have d6:K4 ⟨[3,4],[⟨[]⟩,⟨[⟨b,m⟩]⟩],u0 [⟨a,l⟩] [⟨b,m⟩] 1 1 0 1,[m0 a l],[⟨1,1,⟨[adF b m]⟩⟩]⟩ (evL 0)=some (accT ⟨[3,4],[⟨[]⟩,⟨[⟨b,m⟩]⟩],u0 [⟨a,l⟩] [⟨b,m⟩] 1 1 0 1,[],[⟨1,1,⟨[adF b m]⟩⟩]⟩ (m0 a l) ⟨⟨[⟨a,l⟩]⟩,0,1,0⟩ [⟨b,m⟩] [⟨a,l⟩]):=by
    refine (step_dl (n:=0) (k:=0) (M:=m0 a l) rfl (by simp) rfl).trans ?_
    have hp:(D6 (m0 a l).patch.Changes [])=([⟨a,l⟩],⟨0,0⟩):=ap_one hX;rw [accept_f (m:=m0 a l) (D:=⟨⟨[⟨a,l⟩]⟩,0,1,0⟩) (key:=3) (N:=[⟨b,m⟩]) (v:=[⟨[]⟩]) rfl rfl ⟨by omega,by omega⟩ o0 l0.2 l0.1 (by show ¬ (0+1:Int)≤0;omega) rfl rfl (by simp) (by show 1≤1000;omega) hY (by rw [hp]),hp]
    rfl
  rw [Mq d6];rfl
theorem accT_two {S:State_forge} {M:Message_forge} {D:Developer_forge} {P Q T:List File} (hP:TrOk P) (hT:TrOk T) (hf:Ms [] P Q=T∧tmFst [] P Q ⟨L6 [] P⟩ M.patch=[]∧tmSec [] P Q ⟨L6 [] P⟩ M.patch=[]) (hd:(Oz P T).2.Code=0) :
    (accT S M D P Q).1=0∧(accT S M D P Q).2.versions=S.versions++[⟨T⟩]∧(accT S M D P Q).2.log=S.log++[⟨M.user,M.number,(Oz P T).1⟩]:=by
  obtain ⟨h1,h2,h3⟩:=hf;have:=hT.len;unfold accT;rw [h1,h2,h3,if_neg (by omega),if_neg (by simp),if_neg (by omega)]
  exact ⟨rfl,rfl,rfl⟩
theorem runTwo {first:Int} (h0:0≤first) (h1:first≤1):∃ t lg out f,Mn [3,4] (evs2 a b l m first)=some (⟨t⟩,lg,out,f) ∧
    ((D6 [adF a l,adF b m] []).2.Code=0→f.Code=0→t=(D6 [adF a l,adF b m] []).1∧TrOk t∧(∃ p q,lg=[p,q]∧p.User=first)∧out=[0,0,0,0,0,0]):=by
  by_cases hv:(fvF [3,4] (evs2 a b l m first)).Code=0
  · obtain ⟨hA,hB⟩:=(fv2 h0 h1).1 hv;have hX:=ad_ok hA;have hY:=ad_ok hB;obtain rfl | rfl:first=0∨first=1:=by omega
    · obtain ⟨S,D,hr,hs,hlg⟩:=take01 hA hB;obtain ⟨w,t,hw,hwl,ht⟩:=accT_new (m:=m1 b m) (D:=D) (R:=[⟨b,m⟩]) hs hX (by simp)
      refine ⟨t,_,_,_,Run_f hv hr hw (by omega) ht,fun h4 _=>?_⟩
      obtain ⟨hrl,hT,hmem,hlen⟩:=two_apply hA hB h4;obtain ⟨r1,r2,r3⟩:=accT_two (S:=S) (M:=m1 b m) (D:=D) hX hT (two_merge hX hY hrl _ _ hT hmem) (two_dif hX hT hlen);rw [r2] at hw;have:=(List.append_inj' hw rfl).2;cases this;exact ⟨rfl,hT,⟨_,_,by rw [r3,hlg];rfl,rfl⟩,by rw [r1]⟩
    · obtain ⟨S,D,hr,hs,hlg⟩:=take10 hA hB;obtain ⟨w,t,hw,hwl,ht⟩:=accT_new (m:=m0 a l) (D:=D) (R:=[⟨a,l⟩]) hs hY (by simp)
      refine ⟨t,_,_,_,Run_f hv hr hw (by omega) ht,fun h4 _=>?_⟩
      obtain ⟨hrl,hT,hmem,hlen⟩:=two_apply hA hB h4;obtain ⟨r1,r2,r3⟩:=accT_two (S:=S) (M:=m0 a l) (D:=D) hY hT (two_merge hY hX (by rw [relB_comm];exact hrl) _ _ hT fun g=>by rw [hmem g];exact Or.comm) (two_dif hY hT hlen)
      rw [r2] at hw;have:=(List.append_inj' hw rfl).2;cases this;exact ⟨rfl,hT,⟨_,_,by rw [r3,hlg];rfl,rfl⟩,by rw [r1]⟩
  · exact ⟨_,_,_,_,Run_bad hv,fun _ h=>absurd h hv⟩
end
theorem t_a:Gx [(⟨#[97]⟩:ByteArray)]:=(Ez _).2 ((Dq _).2 (by decide +kernel))
theorem t_b:Gx [(⟨#[98]⟩:ByteArray)]:=(Ez _).2 ((Dq _).2 (by decide +kernel))
theorem x_a:TrOk [⟨⟨#[120]⟩,[⟨#[97]⟩]⟩]:=one_ok (by decide +kernel) t_a
theorem x_b:TrOk [⟨⟨#[120]⟩,[⟨#[98]⟩]⟩]:=one_ok (by decide +kernel) t_b
def hP:Patch:=⟨[⟨0,[⟨#[97]⟩],[⟨#[98]⟩]⟩]⟩
theorem hP_f:Gk hP [⟨#[97]⟩]=([⟨#[98]⟩],⟨0,0⟩):=by
  have h1:(Gk hP [⟨#[97]⟩]).1=[⟨#[98]⟩]:=by decide +kernel
  have h2:(Gk hP [⟨#[97]⟩]).2.Code=0:=by decide +kernel
  have h3:(Gk hP [⟨#[97]⟩]).2.Index=0:=by decide +kernel
  generalize Gk hP [⟨#[97]⟩]=x at h1 h2 h3;obtain ⟨x1,x2,x3⟩:=x;simp only at h1 h2 h3;rw [h1,h2,h3]
theorem hP_ok:(Eg hP).Code=0:=by decide +kernel
theorem works_f:Em=some true:=by
  have hc:OkCh (edF ⟨#[120]⟩ hP):=okCh_ed (by decide +kernel) (by decide) hP_ok
  have hA:D6 [edF ⟨#[120]⟩ hP] [⟨⟨#[120]⟩,[⟨#[97]⟩]⟩]=([⟨⟨#[120]⟩,[⟨#[98]⟩]⟩],⟨0,0⟩):=by
    rw [applyT_of (by simp) (by simpa using hc) x_a,Ky,ed_one,hP_f];rfl
  unfold Em Hc;rw [apply_f,show Gk ({ Hunks:=([({ At:=0,Old:=([(⟨#[97]⟩:ByteArray)]:List ByteArray),New:=([(⟨#[98]⟩:ByteArray)]:List ByteArray) }:Hunk)]:List Hunk) }:Patch) [⟨#[97]⟩]=([⟨#[98]⟩],⟨0,0⟩) from hP_f,Option.bind_some,Option.bind_some,Apply_f];have e1:D6 (({ Changes:=([({ Kind:=4,Path:=(⟨#[120]⟩:ByteArray),To:=ByteArray.empty,Lines:=[],Patch:=({ Hunks:=([({ At:=0,Old:=([(⟨#[97]⟩:ByteArray)]:List ByteArray),New:=([(⟨#[98]⟩:ByteArray)]:List ByteArray) }:Hunk)]:List Hunk) }:Patch) }:TreeChange)]:List TreeChange) }:TreePatch)).Changes (({ Files:=([({ Path:=(⟨#[120]⟩:ByteArray),Lines:=([(⟨#[97]⟩:ByteArray)]:List ByteArray) }:File)]:List File) }:FileTree)).Files=([⟨⟨#[120]⟩,[⟨#[98]⟩]⟩],⟨0,0⟩):=hA;rw [e1,Option.bind_some];simp only [decide_true,if_true,Option.bind_some];rw [Ou _ _ (by simp),Option.bind_some]
  simp only [decide_true,if_true,Option.bind_some];rw [tree_ok x_b];rfl
theorem top_forge (a b:ByteArray) (l m:List ByteArray) (first:Int):B5 a b l m first=some true:=by
  unfold B5;by_cases hf:first < 0∨first > 1
  · have e:(if decide (first < 0)=true then some true else some (decide (first > 1)))=some true:=by
      rw [Bb];split
      · rfl
      · rw [decide_eq_true (by omega)]
    rw [e,Option.bind_some,if_pos rfl,works_f];rfl
  have e:(if decide (first < 0)=true then some true else some (decide (first > 1)))=some false:=by
    rw [Bb,if_neg (by omega),decide_eq_false (by omega)]
  rw [e,Option.bind_some,if_neg Bool.false_ne_true,Gm (by simp),Option.bind_some,Gm (by simp),Option.bind_some,Apply_f,Option.bind_some]
  unfold B5.j1;obtain ⟨t,lg,out,f,hr,hall⟩:=runTwo (a:=a) (b:=b) (l:=l) (m:=m) (first:=first) (by omega) (by omega)
  have hr2:=hr;unfold evs2 evE evP evL adF at hr2;rw [hr2,Option.bind_some];have e4:((([]:List TreeChange)++[({ Kind:=1,Path:=a,To:=ByteArray.empty,Lines:=l,Patch:=({ Hunks:=[] }:Patch) }:TreeChange)])++[({ Kind:=1,Path:=b,To:=ByteArray.empty,Lines:=m,Patch:=({ Hunks:=[] }:Patch) }:TreeChange)])=[adF a l,adF b m]:=rfl;rw [e4];simp only;by_cases h4:(D6 [adF a l,adF b m] []).2.Code=0
  · by_cases h5:f.Code=0
    · obtain ⟨rfl,ht,⟨p,q,rfl,hp⟩,rfl⟩:=hall h4 h5;rw [h4,h5];simp only [decide_true,Bool.not_true,Bool.false_eq_true,if_false,Option.bind_some];rw [tree_ok ht,Option.bind_some,show at? [p,q] 0=some p from rfl,ints_refl _ (by simp),works_f]
      simp [hp]
    · simp [h4,h5,works_f]
  · simp [h4,works_f]
end Go.Dc
