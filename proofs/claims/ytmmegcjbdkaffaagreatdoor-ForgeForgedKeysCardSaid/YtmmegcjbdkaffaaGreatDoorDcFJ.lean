import Derived.Test.YtmmegcjbdkaffaaGreatDoorDcF2
import Derived.Test.YtmmegcjbdkaffaaGreatDoorDcR
set_option linter.unusedSimpArgs false
set_option linter.unusedVariables false
set_option maxRecDepth 4000
namespace Go.Dc
open Go
def Lx (b:List File) (p:ByteArray):List ByteArray:=match b[E5 b p]? with
  | some g=>g.Lines
  | Option.none=>[]
def rmOf (b:List File) (f:File):Option TreeChange:=if Gc b f.Path=true then Option.none else some ⟨2,f.Path,ByteArray.empty,f.Lines,⟨[]⟩⟩
def edOf (b:List File) (f:File):Option TreeChange:=if Gc b f.Path=true∧Ht f.Lines (Lx b f.Path)≠[] then some (edF f.Path ⟨Ht f.Lines (Lx b f.Path)⟩) else Option.none
def adOf (a:List File) (f:File):Option TreeChange:=if Gc a f.Path=true then Option.none else some ⟨1,f.Path,ByteArray.empty,f.Lines,⟨[]⟩⟩
theorem text0 {l:List ByteArray} (h:G8 l):(Bq l).Code=0:=(Dh _).1 ((E0 _).1 h)
theorem diff2_iter {a b:List File} (ha:TrOk a) (hb:TrOk b):∀ (r:List File) (k:Nat) (e d:List TreeChange),a.drop k=r→e.length≤k→d.length≤k →
    Dl (fun s=>A8.l2 ⟨a⟩ ⟨b⟩ s.1 s.2.1 s.2.2) ((k:Int),e,d)=some (e++r.filterMap (edOf b),d++r.filterMap (rmOf b)):=by
  intro r
  induction r with
  | nil =>
    intro k e d hk _ _;have:=Kl hk;refine Bx ?_;show A8.l2 ⟨a⟩ ⟨b⟩ _ _ _=_;unfold A8.l2;simp only;rw [decide_eq_false (by omega),if_neg Bool.false_ne_true]
    simp
  | cons f r ih =>
    intro k e d hk he hd;obtain ⟨hlt,hx,hr⟩:=K8 hk;have hfm:f∈a:=hx ▸ List.getElem_mem hlt;have hft:=ha.text_len hfm;have hal:=ha.len;have hbl:=hb.len
    have j4:∀ (u v:List TreeChange),A8.j4 (k:Int) u v=some (Step.next (((k+1:Nat):Int),v,u)):=by
      intro u v;unfold A8.j4;rw [Bz (by omega) (by omega),Option.bind_some];rfl
    have hs:A8.l2 ⟨a⟩ ⟨b⟩ (k:Int) e d=some (Step.next (((k+1:Nat):Int),e++(edOf b f).toList,d++(rmOf b f).toList)):=by
      unfold A8.l2 edOf rmOf;simp only;rw [decide_eq_true (by omega),if_pos rfl,Cb hlt,Option.bind_some,hx,Find_f hb.srt (by omega),Option.bind_some]
      simp only;cases hh:Gc b f.Path with
      | false =>
        rw [if_pos (by rfl),clone_f _ (by omega),Option.bind_some,Ep (by simp;omega),Option.bind_some,j4]
        simp
      | true =>
        obtain ⟨hp,hpe⟩:=Uj hb.srt hh;have hgm:=List.getElem_mem hp;rw [if_neg (show ¬ ((!true)=true) by decide),Cb hp,Option.bind_some,script_f,Option.bind_some]
        have h1:=text0 (ha.text f hfm);have h2:=text0 (hb.text _ hgm);rw [if_neg (fun hn=>hn h1),if_neg (fun hn=>hn h2)]
        have hla:Lx b f.Path=b[E5 b f.Path].Lines:=by
          unfold Lx;rw [List.getElem?_eq_getElem hp]
        rw [hla];unfold A8.j5;simp only;by_cases hsc:Ht f.Lines b[E5 b f.Path].Lines=[]
        · rw [decide_eq_false (by rw [hsc];simp),if_neg Bool.false_ne_true,j4]
          simp [hsc]
        · have:0 < (Ht f.Lines b[E5 b f.Path].Lines).length:=List.length_pos_iff.2 hsc;rw [decide_eq_true (by omega),if_pos rfl,Ep (by simp;omega),Option.bind_some,j4]
          simp [hsc,edF]
    rw [B8 (s':=(((k+1:Nat):Int),e++(edOf b f).toList,d++(rmOf b f).toList)) hs];have l1:(edOf b f).toList.length≤1:=by cases edOf b f <;> simp
    have l2:(rmOf b f).toList.length≤1:=by cases rmOf b f <;> simp
    rw [ih (k+1) _ _ hr (by rw [List.length_append];omega) (by rw [List.length_append];omega)]
    rw [List.append_assoc,List.append_assoc];cases h1:edOf b f <;> cases h2:rmOf b f <;> simp [List.filterMap_cons,h1,h2]
theorem diff1_iter {a b:List File} (ha:TrOk a) (hb:TrOk b):∀ (r:List File) (k:Nat) (e:List TreeChange),b.drop k=r→e.length≤k →
    Dl (fun s=>A8.l1 ⟨a⟩ ⟨b⟩ s.1 s.2) ((k:Int),e)=some (e++r.filterMap (adOf a)):=by
  intro r
  induction r with
  | nil =>
    intro k e hk _;have:=Kl hk;refine Bx ?_;show A8.l1 ⟨a⟩ ⟨b⟩ _ _=_;unfold A8.l1;simp only;rw [decide_eq_false (by omega),if_neg Bool.false_ne_true]
    simp
  | cons f r ih =>
    intro k e hk he;obtain ⟨hlt,hx,hr⟩:=K8 hk;have hfm:f∈b:=hx ▸ List.getElem_mem hlt;have hft:=hb.text_len hfm;have hal:=ha.len;have hbl:=hb.len
    have j3:∀ (u:List TreeChange),A8.j3 (k:Int) u=some (Step.next (((k+1:Nat):Int),u)):=by
      intro u;unfold A8.j3;rw [Bz (by omega) (by omega),Option.bind_some];rfl
    have hs:A8.l1 ⟨a⟩ ⟨b⟩ (k:Int) e=some (Step.next (((k+1:Nat):Int),e++(adOf a f).toList)):=by
      unfold A8.l1 adOf;simp only;rw [decide_eq_true (by omega),if_pos rfl,Cb hlt,Option.bind_some,hx,Find_f ha.srt (by omega),Option.bind_some]
      simp only;cases hh:Gc a f.Path with
      | false =>
        rw [if_pos (by rfl),clone_f _ (by omega),Option.bind_some,Ep (by simp;omega),Option.bind_some,j3]
        simp
      | true =>
        rw [if_neg (show ¬ ((!true)=true) by decide),j3]
        simp
    rw [B8 (s':=(((k+1:Nat):Int),e++(adOf a f).toList)) hs];have l1:(adOf a f).toList.length≤1:=by cases adOf a f <;> simp
    rw [ih (k+1) _ hr (by rw [List.length_append];omega),List.append_assoc]
    cases h1:adOf a f <;> simp [List.filterMap_cons,h1]
theorem concat3 {x y z:List TreeChange} (hx:x.length≤100) (hy:y.length≤100) (hz:z.length≤100):Bs [x,y,z]=some (x++y++z):=by
  unfold Bs
  have s0:∀ (k:Nat) (v:List TreeChange) (n:Nat),[x,y,z][k]? = some v→v.length≤100→n≤1000→Bs.l2 [x,y,z] (k:Int) (n:Int)=some (Step.next (((k+1:Nat):Int),((n+v.length:Nat):Int))):=by
    intro k v n hv hl hn;have hk:k < 3:=by have:=List.getElem?_eq_some_iff.1 hv;obtain ⟨h,_⟩:=this;simpa using h
    unfold Bs.l2 Bs.j3;have:at? [x,y,z] (k:Int)=some v:=by unfold at?;rw [if_pos (by omega),Int.toNat_natCast,hv]
    rw [if_pos (by simp;omega),this,Option.bind_some,Bz (by omega) (by omega),Option.bind_some,if_neg (by simp;omega),Bz (by omega) (by omega),Option.bind_some];rfl
  have t0:∀ (k:Nat) (v w:List TreeChange),[x,y,z][k]? = some v→v.length≤100→w.length≤1000→Bs.l1 [x,y,z] (k:Int) w=some (Step.next (((k+1:Nat):Int),w++v)):=by
    intro k v w hv hl hn;have hk:k < 3:=by have:=List.getElem?_eq_some_iff.1 hv;obtain ⟨h,_⟩:=this;simpa using h
    unfold Bs.l1;have:at? [x,y,z] (k:Int)=some v:=by unfold at?;rw [if_pos (by omega),Int.toNat_natCast,hv]
    rw [if_pos (by simp;omega),this,Option.bind_some,Ep (by omega),Option.bind_some,Bz (by omega) (by omega),Option.bind_some];rfl
  have e1:Dl (fun s=>Bs.l2 [x,y,z] s.1 s.2) ((0:Int),(0:Int))=some ((0+x.length+y.length+z.length:Nat):Int):=by
    rw [B8 (s':=(((0+1:Nat):Int),((0+x.length:Nat):Int))) (s0 0 x 0 rfl hx (by omega))]
    rw [B8 (s':=(((1+1:Nat):Int),((0+x.length+y.length:Nat):Int))) (s0 1 y _ rfl hy (by omega))]
    rw [B8 (s':=(((2+1:Nat):Int),((0+x.length+y.length+z.length:Nat):Int))) (s0 2 z _ rfl hz (by omega))]
    refine Bx ?_;show Bs.l2 [x,y,z] _ _=_;unfold Bs.l2;rw [if_neg (by simp)]
  rw [e1,Option.bind_some];unfold Bs.j1 Bs.j2
  have e2:grow0 TreeChange 88 ((0+x.length+y.length+z.length:Nat):Int)=some []:=by
    unfold grow0;rw [if_pos ⟨by omega,by omega⟩]
  rw [e2,Option.bind_some]
  have e3:Dl (fun s=>Bs.l1 [x,y,z] s.1 s.2) ((0:Int),([]:List TreeChange))=some (x++y++z):=by
    rw [B8 (s':=(((0+1:Nat):Int),[]++x)) (t0 0 x [] rfl hx (by simp))]
    rw [B8 (s':=(((1+1:Nat):Int),[]++x++y)) (t0 1 y _ rfl hy (by simp;omega))]
    rw [B8 (s':=(((2+1:Nat):Int),[]++x++y++z)) (t0 2 z _ rfl hz (by simp;omega))]
    refine Bx ?_;show Bs.l1 [x,y,z] _ _=_;unfold Bs.l1;rw [if_neg (by simp)];simp
  rw [e3,Option.bind_some]
def Lp (a b:List File):List TreeChange:=a.filterMap (rmOf b)++a.filterMap (edOf b)++b.filterMap (adOf a)
theorem ch_ok {k:Int} {f:File} (hk:k=1∨k=2) (h1:Gd f.Path=true) (h2:G8 f.Lines):OkCh ⟨k,f.Path,ByteArray.empty,f.Lines,⟨[]⟩⟩ :=
  ⟨by simp only;omega,h1,fun h=>by simp only at h;omega,fun _=>rfl,fun h=>by simp only at h;omega,fun h=>by simp only at h;omega,fun _=>rfl,text0 h2,(by decide +kernel:(E1 ⟨[]⟩).Code=0)⟩
theorem Qo {b:List File} (hb:TrOk b) {p:ByteArray} (h:Gc b p=true):(⟨p,Lx b p⟩:File)∈b:=by
  obtain ⟨hp,he⟩:=Uj hb.srt h
  have e:(⟨p,Lx b p⟩:File)=b[E5 b p]:=by
    unfold Lx;rw [List.getElem?_eq_getElem hp];simp only;generalize b[E5 b p]=g at he;obtain ⟨gp,gl⟩:=g;simp only at he;rw [he]
  rw [e];exact List.getElem_mem hp
theorem has_mem {l:List File} {f:File} (h:f∈l):Gc l f.Path=true:=by
  unfold Gc;rw [List.any_eq_true];exact ⟨f,h,decide_eq_true rfl⟩
theorem has_ex {l:List File} {p:ByteArray} (h:Gc l p=true):∃ f∈l,f.Path=p:=by
  unfold Gc at h;rw [List.any_eq_true] at h;obtain ⟨f,hf,e⟩:=h;exact ⟨f,hf,of_decide_eq_true e⟩
theorem rel_ne {b:List File} (hb:TrOk b) {f g:File} (hf:f∈b) (hg:g∈b) (hne:f≠g):Nf f.Path g.Path=false:=by
  obtain ⟨i,hi,rfl⟩:=List.getElem_of_mem hf;obtain ⟨j,hj,rfl⟩:=List.getElem_of_mem hg;rcases Nat.lt_trichotomy i j with h | h | h
  · exact List.pairwise_iff_getElem.1 hb.rel i j hi hj h
  · subst h;exact absurd rfl hne
  · rw [relB_comm];exact List.pairwise_iff_getElem.1 hb.rel j i hj hi h
theorem sub_len:∀ {l b:List File},Ka l→Ka b→(∀ f∈l,f∈b)→l.length≤b.length
  | [],b,_,_,_=>by simp
  | f::l,[],_,_,h=>absurd (h f List.mem_cons_self) (by simp)
  | f::l,g::b,hl,hb,h=>by
    have hl':=List.pairwise_cons.1 hl;have hb':=List.pairwise_cons.1 hb
    have sub:∀ x∈l,x∈b:=by
      intro x hx;rcases List.mem_cons.1 (h x (List.mem_cons_of_mem _ hx)) with e | e
      · subst e;have h1:=hl'.1 x hx;rcases List.mem_cons.1 (h f List.mem_cons_self) with e2 | e2
        · subst e2;rw [N4] at h1;cases h1
        · have:=hb'.1 f e2;rw [Nm this] at h1;cases h1
      · exact e
    have:=sub_len hl'.2 hb'.2 sub;simp only [List.length_cons];omega
abbrev Dis (r:List File):Prop:=r.Pairwise fun f g=>f.Path≠g.Path
theorem rm_run {b:List File}:∀ (r:List File) (k:Nat) (l:List File),TrOk l→Dis r→(∀ f∈r,f∈l) →
    ∃ l',Nx k (r.filterMap (rmOf b)) l=(l',⟨0,0⟩)∧TrOk l'∧∀ g,g∈l'↔g∈l∧∀ f∈r,Gc b f.Path=false→g.Path≠f.Path
  | [],k,l,h,_,_=>⟨l,rfl,h,fun g=>by simp⟩
  | f::r,k,l,h,hd,hm=>by
    have hd':=List.pairwise_cons.1 hd;rw [List.filterMap_cons];unfold rmOf;cases hh:Gc b f.Path with
    | true =>
      simp only [if_true];obtain ⟨l',e1,e2,e3⟩:=rm_run (b:=b) r k l h hd'.2 fun g hg=>hm g (List.mem_cons_of_mem _ hg);refine ⟨l',e1,e2,fun g=>?_⟩;rw [e3 g];constructor
      · rintro ⟨h1,h2⟩;refine ⟨h1,fun x hx hf=>?_⟩;rcases List.mem_cons.1 hx with rfl | hx
        · rw [hh] at hf;cases hf
        · exact h2 x hx hf
      · rintro ⟨h1,h2⟩;exact ⟨h1,fun x hx hf=>h2 x (List.mem_cons_of_mem _ hx) hf⟩
    | false =>
      simp only [Bool.false_eq_true,if_false];have hf:=hm f List.mem_cons_self;have hc:OkCh ⟨2,f.Path,ByteArray.empty,f.Lines,⟨[]⟩⟩:=ch_ok (.inr rfl) (h.path f hf) (h.text f hf);rcases can_make h hc (x:=Option.none) (.inr (.inl ⟨rfl,hf,rfl⟩)) with ⟨q,_⟩ | ⟨m1,m2⟩
      · cases q
      have h1:=makeF_ok h hc m1;obtain ⟨l',e1,e2,e3⟩:=rm_run (b:=b) r (k+1) _ h1 hd'.2 fun g hg=>(m2 g).2 (.inl ⟨hm g (List.mem_cons_of_mem _ hg),(hd'.1 g hg).symm⟩);refine ⟨l',by rw [Nx,if_neg (by rw [m1];simp)];exact e1,e2,fun g=>?_⟩
      rw [e3 g,m2 g];constructor
      · rintro ⟨⟨q1,q2⟩ | q1,q3⟩
        · refine ⟨q1,fun x hx hf=>?_⟩;rcases List.mem_cons.1 hx with rfl | hx
          · exact q2
          · exact q3 x hx hf
        · cases q1
      · rintro ⟨q1,q2⟩;exact ⟨.inl ⟨q1,q2 f List.mem_cons_self hh⟩,fun x hx hf=>q2 x (List.mem_cons_of_mem _ hx) hf⟩
def Edd (b:List File) (f:File):Prop:=Gc b f.Path=true∧Ht f.Lines (Lx b f.Path)≠[]
theorem ed_run {b:List File} (hb:TrOk b):∀ (r:List File) (k:Nat) (l:List File),TrOk l→Dis r→(∀ f∈r,Gc b f.Path=true→f∈l) →
    ∃ l',Nx k (r.filterMap (edOf b)) l=(l',⟨0,0⟩)∧TrOk l'∧∀ g,g∈l'↔(g∈l∧∀ f∈r,Edd b f→g.Path≠f.Path)∨∃ f∈r,Edd b f∧g=⟨f.Path,Lx b f.Path⟩
  | [],k,l,h,_,_=>⟨l,rfl,h,fun g=>by simp⟩
  | f::r,k,l,h,hd,hm=>by
    have hd':=List.pairwise_cons.1 hd;rw [List.filterMap_cons];unfold edOf;by_cases hh:Gc b f.Path=true∧Ht f.Lines (Lx b f.Path)≠[]
    · rw [if_pos hh];simp only;have hf:=hm f List.mem_cons_self hh.1;have hbm:=Qo hb hh.1;obtain ⟨s1,s2,s3⟩:=script_ok (h.text f hf) (hb.text _ hbm);have hc:OkCh (edF f.Path ⟨Ht f.Lines (Lx b f.Path)⟩):=okCh_ed (h.path f hf) hh.2 s1
      have hcan:Can (edF f.Path ⟨Ht f.Lines (Lx b f.Path)⟩) l (some ⟨f.Path,Lx b f.Path⟩) :=
        .inr (.inr (.inr ⟨rfl,f.Lines,hf,by simp only [edF];rw [s2],by simp only [edF];rw [s2]⟩))
      rcases can_make h hc hcan with ⟨q,_⟩ | ⟨m1,m2⟩
      · cases q
      have h1:=makeF_ok h hc m1;obtain ⟨l',e1,e2,e3⟩:=ed_run hb r (k+1) _ h1 hd'.2 fun g hg hgb=>(m2 g).2 (.inl ⟨hm g (List.mem_cons_of_mem _ hg) hgb,(hd'.1 g hg).symm⟩);refine ⟨l',by rw [Nx,if_neg (by rw [m1];simp)];exact e1,e2,fun g=>?_⟩
      rw [e3 g,m2 g];simp only [edF,Option.some.injEq];constructor
      · rintro (⟨⟨q1,q2⟩ | q1,q3⟩ | ⟨x,q1,q2,q3⟩)
        · refine .inl ⟨q1,fun x hx hf=>?_⟩;rcases List.mem_cons.1 hx with rfl | hx
          · exact q2
          · exact q3 x hx hf
        · exact .inr ⟨f,List.mem_cons_self,hh,q1⟩
        · exact .inr ⟨x,List.mem_cons_of_mem _ q1,q2,q3⟩
      · rintro (⟨q1,q2⟩ | ⟨x,q1,q2,q3⟩)
        · exact .inl ⟨.inl ⟨q1,q2 f List.mem_cons_self hh⟩,fun x hx hf=>q2 x (List.mem_cons_of_mem _ hx) hf⟩
        · rcases List.mem_cons.1 q1 with rfl | q1
          · refine .inl ⟨.inr q3,fun y hy _=>?_⟩;rw [q3];exact hd'.1 y hy
          · exact .inr ⟨x,q1,q2,q3⟩
    · rw [if_neg hh];simp only;obtain ⟨l',e1,e2,e3⟩:=ed_run hb r k l h hd'.2 fun g hg=>hm g (List.mem_cons_of_mem _ hg);refine ⟨l',e1,e2,fun g=>?_⟩;rw [e3 g];constructor
      · rintro (⟨q1,q2⟩ | ⟨x,q1,q2,q3⟩)
        · refine .inl ⟨q1,fun x hx hf=>?_⟩;rcases List.mem_cons.1 hx with rfl | hx
          · exact absurd hf hh
          · exact q2 x hx hf
        · exact .inr ⟨x,List.mem_cons_of_mem _ q1,q2,q3⟩
      · rintro (⟨q1,q2⟩ | ⟨x,q1,q2,q3⟩)
        · exact .inl ⟨q1,fun x hx hf=>q2 x (List.mem_cons_of_mem _ hx) hf⟩
        · rcases List.mem_cons.1 q1 with rfl | q1
          · exact absurd q2 hh
          · exact .inr ⟨x,q1,q2,q3⟩
theorem ad_run {a b:List File} (hb:TrOk b):∀ (r:List File) (k:Nat) (l:List File),TrOk l→Dis r→(∀ f∈r,f∈b)→(∀ g∈l,g∈b)→(∀ f∈r,Gc a f.Path=false→∀ g∈l,g.Path≠f.Path) →
    ∃ l',Nx k (r.filterMap (adOf a)) l=(l',⟨0,0⟩)∧TrOk l'∧∀ g,g∈l'↔g∈l∨(g∈r∧Gc a g.Path=false)
  | [],k,l,h,_,_,_,_=>⟨l,rfl,h,fun g=>by simp⟩
  | f::r,k,l,h,hd,hm,hs,hn=>by
    have hd':=List.pairwise_cons.1 hd;rw [List.filterMap_cons];unfold adOf;cases hh:Gc a f.Path with
    | true =>
      simp only [if_true];obtain ⟨l',e1,e2,e3⟩:=ad_run (a:=a) hb r k l h hd'.2 (fun g hg=>hm g (List.mem_cons_of_mem _ hg)) hs (fun g hg=>hn g (List.mem_cons_of_mem _ hg));refine ⟨l',e1,e2,fun g=>?_⟩;rw [e3 g];constructor
      · rintro (q | ⟨q1,q2⟩)
        · exact .inl q
        · exact .inr ⟨List.mem_cons_of_mem _ q1,q2⟩
      · rintro (q | ⟨q1,q2⟩)
        · exact .inl q
        · rcases List.mem_cons.1 q1 with rfl | q1
          · rw [hh] at q2;cases q2
          · exact .inr ⟨q1,q2⟩
    | false =>
      simp only [Bool.false_eq_true,if_false];have hf:=hm f List.mem_cons_self;have hc:OkCh ⟨1,f.Path,ByteArray.empty,f.Lines,⟨[]⟩⟩:=ch_ok (.inl rfl) (hb.path f hf) (hb.text f hf);have hnf:=hn f List.mem_cons_self hh;have hrel:∀ g∈l,Nf g.Path f.Path=false:=fun g hg=>rel_ne hb (hs g hg) hf fun e=>hnf g hg (by rw [e])
      have hra:=rel_all.2 hrel
      have hlen:l.length < 24:=by
        have h1:=sub_len (ins_srt h.srt (rel_has hra)) hb.srt fun g hg=>by
          rcases Uo.1 hg with e | e
          · subst e;exact hf
          · exact hs g e
        rw [ins_len] at h1;have:=hb.len;omega
      have hcan:Can ⟨1,f.Path,ByteArray.empty,f.Lines,⟨[]⟩⟩ l (some f):=.inl ⟨rfl,hrel,rfl⟩;rcases can_make h hc hcan with ⟨_,m0⟩ | ⟨m1,m2⟩
      · exfalso;unfold Ma at m0;rw [if_pos rfl] at m0;simp only at m0;rw [hra,if_neg Bool.false_ne_true,if_neg (by omega)] at m0
        cases m0
      have h1:=makeF_ok h hc m1
      obtain ⟨l',e1,e2,e3⟩:=ad_run (a:=a) hb r (k+1) _ h1 hd'.2 (fun g hg=>hm g (List.mem_cons_of_mem _ hg)) (fun g hg=>by
        rcases (m2 g).1 hg with q | q
        · exact hs g q.1
        · cases q;exact hf) (fun x hx hxa g hg=>by
        rcases (m2 g).1 hg with q | q
        · exact hn x (List.mem_cons_of_mem _ hx) hxa g q.1
        · cases q;exact hd'.1 x hx)
      refine ⟨l',by rw [Nx,if_neg (by rw [m1];simp)];exact e1,e2,fun g=>?_⟩
      rw [e3 g,m2 g];simp only [Option.some.injEq];constructor
      · rintro ((⟨q1,_⟩ | q1) | ⟨q1,q2⟩)
        · exact .inl q1
        · subst q1;exact .inr ⟨List.mem_cons_self,hh⟩
        · exact .inr ⟨List.mem_cons_of_mem _ q1,q2⟩
      · rintro (q | ⟨q1,q2⟩)
        · exact .inl (.inl ⟨q,hnf g q⟩)
        · rcases List.mem_cons.1 q1 with rfl | q1
          · exact .inl (.inr rfl)
          · exact .inr ⟨q1,q2⟩
theorem dis_of {l:List File} (h:Ka l):Dis l:=h.imp fun h=>sLt_ne h
theorem dif_ok {a b:List File} (ha:TrOk a) (hb:TrOk b):(∀ c∈Lp a b,OkCh c)∧Nx 0 (Lp a b) a=(b,⟨0,0⟩):=by
  constructor
  · intro c hc;unfold Lp at hc;rw [List.mem_append,List.mem_append,List.mem_filterMap,List.mem_filterMap,List.mem_filterMap] at hc;rcases hc with (⟨f,hf,e⟩ | ⟨f,hf,e⟩) | ⟨f,hf,e⟩
    · unfold rmOf at e;split at e
      · cases e
      · cases e;exact ch_ok (.inr rfl) (ha.path f hf) (ha.text f hf)
    · unfold edOf at e;split at e
      · rename_i hh
        cases e;exact okCh_ed (ha.path f hf) hh.2 (script_ok (ha.text f hf) (hb.text _ (Qo hb hh.1))).1
      · cases e
    · unfold adOf at e;split at e
      · cases e
      · cases e;exact ch_ok (.inl rfl) (hb.path f hf) (hb.text f hf)
  · obtain ⟨l1,r1,o1,m1⟩:=rm_run (b:=b) a 0 a ha (dis_of ha.srt) fun f hf=>hf
    have k1:∀ g,g∈l1↔g∈a∧Gc b g.Path=true:=by
      intro g;rw [m1 g];constructor
      · rintro ⟨q1,q2⟩;refine ⟨q1,?_⟩;cases hh:Gc b g.Path
        · exact absurd rfl (q2 g q1 hh)
        · rfl
      · rintro ⟨q1,q2⟩;exact ⟨q1,fun f hf hff e=>by rw [← e,q2] at hff;cases hff⟩
    obtain ⟨l2,r2,o2,m2⟩:=ed_run hb a (0+(a.filterMap (rmOf b)).length) l1 o1 (dis_of ha.srt) fun f hf hfb=>(k1 f).2 ⟨hf,hfb⟩
    have same:∀ f∈a,Gc b f.Path=true→¬ Edd b f→f∈b:=by
      intro f hf hfb hne;have hbm:=Qo hb hfb
      have hsc:Ht f.Lines (Lx b f.Path)=[]:=by
        by_cases h0:Ht f.Lines (Lx b f.Path)=[]
        · exact h0
        · exact absurd ⟨hfb,h0⟩ hne
      have:f.Lines=Lx b f.Path:=(script_ok (ha.text f hf) (hb.text _ hbm)).2.2 hsc;rw [← this] at hbm;exact hbm
    have k2:∀ g∈l2,g∈b∧Gc a g.Path=true:=by
      intro g hg;rcases (m2 g).1 hg with ⟨q1,q2⟩ | ⟨f,q1,q2,q3⟩
      · obtain ⟨p1,p2⟩:=(k1 g).1 q1;refine ⟨same g p1 p2 fun he=>q2 g p1 he rfl,has_mem p1⟩
      · subst q3;exact ⟨Qo hb q2.1,show Gc a f.Path=true from has_mem q1⟩
    obtain ⟨l3,r3,o3,m3⟩:=ad_run (a:=a) hb b (0+(a.filterMap (rmOf b)++a.filterMap (edOf b)).length) l2 o2 (dis_of hb.srt) (fun f hf=>hf) (fun g hg=>(k2 g hg).1) (fun f hf hfa g hg e=>by
      have:=(k2 g hg).2;rw [e,hfa] at this;cases this)
    have hrun:Nx 0 (Lp a b) a=(l3,⟨0,0⟩):=by
      unfold Lp
      have e12:Nx 0 (a.filterMap (rmOf b)++a.filterMap (edOf b)) a=(l2,⟨0,0⟩):=by
        rw [run_app _ _ _ _ (by rw [r1]),r1];exact r2
      rw [run_app _ _ _ _ (by rw [e12]),e12];exact r3
    rw [hrun];congr 1;refine res_eq o3.srt hb.srt fun g=>?_;rw [m3 g];constructor
    · rintro (q | ⟨q,_⟩)
      · exact (k2 g q).1
      · exact q
    · intro hg;cases hh:Gc a g.Path with
      | false=>exact .inr ⟨hg,rfl⟩
      | true =>
        left;obtain ⟨f,hf,e⟩:=has_ex hh;have hfb:Gc b f.Path=true:=by rw [e];exact has_mem hg
        rw [m2 g];by_cases he:Edd b f
        · right;refine ⟨f,hf,he,?_⟩;exact srt_uniq hb.srt hg (Qo hb hfb) e.symm
        · left;have hfg:f=g:=srt_uniq hb.srt (same f hf hfb he) hg e;subst hfg;refine ⟨(k1 f).2 ⟨hf,hfb⟩,fun x hx hxe ex=>?_⟩;have:=srt_uniq ha.srt hf hx ex;subst this;exact he hxe
def Nq (a b:List File):TreePatch×Fault :=
  if (Ew a).Code≠0 then (⟨[]⟩,Ew a) else if (Ew b).Code≠0 then (⟨[]⟩,⟨(Ew b).Code,-2⟩) else if (Lp a b).length > 30 then (⟨[]⟩,⟨10,-1⟩) else (⟨Lp a b⟩,⟨0,0⟩)
theorem tdifT_f (a b:List File):A8 ⟨a⟩ ⟨b⟩=some (Nq a b):=by
  unfold A8 Nq;rw [Vu,Option.bind_some];simp only;rcases Tg a with h | h
  · have ha:=(G7 a).1 (by rw [h])
    rw [if_neg (by rw [h];decide),tsecond_f,Option.bind_some,if_neg (show ¬ (Ew a).Code≠0 by rw [h];decide)]
    simp only;by_cases hb0:(Ew b).Code=0
    · have hb:=(G7 b).1 hb0;have hal:=ha.len;have hbl:=hb.len;have i2:=diff2_iter ha hb a 0 [] [] rfl (Nat.le_refl _) (Nat.le_refl _);have i1:=diff1_iter ha hb b 0 [] rfl (Nat.le_refl _);rw [show ((0:Nat):Int)=0 from rfl] at i1 i2;have f1:=List.length_filterMap_le (edOf b) a;have f2:=List.length_filterMap_le (rmOf b) a;have f3:=List.length_filterMap_le (adOf a) b;rw [if_pos hb0,if_neg (by decide),i2,Option.bind_some,if_neg (fun hn=>hn hb0)]
      unfold A8.j1 A8.j2 Lp;rw [i1,Option.bind_some];simp only [List.nil_append];rw [concat3 (by omega) (by omega) (by omega),Option.bind_some]
      by_cases h30:((a.filterMap (rmOf b)++a.filterMap (edOf b)++b.filterMap (adOf a)).length:Int) > 30
      · rw [decide_eq_true h30,if_pos rfl,if_pos (by omega)]
      · rw [decide_eq_false h30,if_neg Bool.false_ne_true,if_neg (by omega)]
    · rw [if_neg hb0,if_pos (by simp [hb0]),if_pos hb0]
  · rw [if_pos (by simp [h]),if_pos h]
theorem tp_refl {l:List TreeChange} (h:∀ c∈l,OkCh c) (hl:l.length≤1000):B6 ⟨l⟩ ⟨l⟩=some true:=by
  unfold B6;simp only;rw [if_neg (by simp),scan0 l (fun _ _=>(Option.none:Option Bool)) ?_ ?_,Option.bind_some]
  · have:G0 (fun _ _=>(Option.none:Option Bool)) 0 l=Option.none:=by rw [Md];intro j hj;rfl
    rw [this];rfl
  · intro k hk _;unfold B6.l1;simp only;rw [decide_eq_true (by omega),if_pos rfl,Cb hk,Option.bind_some,Option.bind_some,refl_ok (h _ (List.getElem_mem hk)),Option.bind_some,if_neg (by decide),Bz (by omega) (by omega),Option.bind_some];rfl
  · unfold B6.l1;rw [decide_eq_false (by simp),if_neg Bool.false_ne_true]
theorem ints_eq (a b:List Int) (hb:a.length≤1000000):Cy a b=some (decide (a=b)):=by
  unfold Cy;rw [Mo];by_cases hl:(a.length:Int)=(b.length:Int)
  · rw [if_pos hl];have hl':a.length=b.length:=by omega
    obtain ⟨r,h1,h2⟩:=Nl (m:=fun s=>Cy.l1 a b s) (fun s=>∃ k:Nat,s=(k:Int)∧k≤a.length∧a.take k=b.take k) (fun s=>a.length - s.toNat)
      (fun r=>(r=.inr ()∧a=b)∨(r=.inl false∧a≠b)) (by
        rintro s ⟨k,rfl,hk,hall⟩;unfold Cy.l1;rw [Av];by_cases hlt:k < a.length
        · rw [if_pos (by omega),Cb hlt,Option.bind_some,Cb (by omega),Option.bind_some,Mo]
          by_cases he:a[k]=b[k]
          · rw [if_pos he,Bz (by omega) (by omega),Option.bind_some]
            exact .inl ⟨_,rfl,⟨k+1,by omega,hlt,by rw [List.take_succ_eq_append_getElem hlt,List.take_succ_eq_append_getElem (by omega),hall,he]⟩,by omega⟩
          · rw [if_neg he];exact .inr ⟨_,rfl,.inr ⟨rfl,fun h=>he (by subst h;rfl)⟩⟩
        · rw [if_neg (by omega)]
          refine .inr ⟨_,rfl,.inl ⟨rfl,?_⟩⟩;rw [List.take_of_length_le (by omega),List.take_of_length_le (by omega)] at hall
          exact hall) 0 ⟨0,rfl,Nat.zero_le _,by simp⟩
    rw [h1,Option.bind_some];rcases h2 with ⟨rfl,h⟩ | ⟨rfl,h⟩
    · rw [decide_eq_true h];rfl
    · rw [decide_eq_false h]
  · rw [if_neg hl,decide_eq_false (fun h=>hl (by rw [h]))]
theorem rem_nn {x m:Int} (h0:0≤x) (hm:0 < m):rem? x m=some (x % m):=by
  unfold rem?;rw [if_neg (by omega),Int.tmod_eq_emod_of_nonneg h0]
theorem shr1 {b:Int}:shr? .i64 b 1=some (b / 2):=by
  unfold shr?;rw [if_neg (by decide)]
  have:(2:Int) ^ (min (1:Int).toNat IntKind.i64.bits)=2:=by decide
  rw [this,Int.fdiv_eq_ediv_of_nonneg _ (by decide)]
def Dig (x:Int):Prop:=0≤x∧x < 2305843009213693951
theorem Vi {x:Int}:Dig (x % 2305843009213693951):=⟨Int.emod_nonneg _ (by decide),Int.emod_lt_of_pos _ (by decide)⟩
theorem mul_ok {a b:Int} (ha:Dig a) (hb:0≤b):∃ r,C9 a b=some r∧Dig r:=by
  unfold C9
  obtain ⟨r,h1,h2⟩:=Nl (m:=fun s:Int×Int×Int=>C9.l1 s.1 s.2.1 s.2.2) (fun s=>Dig s.1∧Dig s.2.1∧0≤s.2.2) (fun s=>s.2.2.toNat) Dig (by
    rintro ⟨o,x,y⟩ ⟨h1,h2,h3⟩;simp only at h1 h2 h3 ⊢;obtain ⟨p1,p2⟩:=h1;obtain ⟨q1,q2⟩:=h2;unfold C9.l1;simp only [Av];by_cases hy:y > 0
    · left;rw [if_pos hy]
      have j2:∀ o',Dig o'→∃ s',C9.j2 x y o'=some (.next s')∧(Dig s'.1∧Dig s'.2.1∧0≤s'.2.2)∧s'.2.2.toNat < y.toNat:=by
        intro o' ho;unfold C9.j2;rw [Bz (by omega) (by omega),Option.bind_some,rem_nn (by omega) (by decide),Option.bind_some,shr1,Option.bind_some]
        exact ⟨_,rfl,⟨ho,Vi,by simp only;omega⟩,by simp only;omega⟩
      by_cases hc:andI .i64 y 1=1
      · rw [if_pos hc,Bz (by omega) (by omega),Option.bind_some,rem_nn (by omega) (by decide),Option.bind_some]
        exact j2 _ Vi
      · rw [if_neg hc];exact j2 _ ⟨p1,p2⟩
    · right;rw [if_neg hy];exact ⟨_,rfl,p1,p2⟩) (0,a,b) ⟨⟨Int.le_refl 0,(by decide:(0:Int) < 2305843009213693951)⟩,ha,hb⟩
  rw [h1,Option.bind_some];exact ⟨r,rfl,h2⟩
theorem dnext_ok {s:Step_digest} {f:Int} (h0:Dig s.e0) (h1:Dig s.e1) (hf:0≤f):∃ r,L9 s f=some r∧Dig r:=by
  obtain ⟨r,h2,h3,h4⟩:=mul_ok h0 hf;unfold L9;obtain ⟨p1,p2⟩:=h1;rw [h2,Option.bind_some,Bz (by omega) (by omega),Option.bind_some,rem_nn (by omega) (by decide),Option.bind_some]
  exact ⟨_,rfl,Vi⟩
theorem of_ok {l:List UInt8} (hl:l.length≤4096):∃ r,G4 l=some (r,⟨0,0⟩)∧Dig r:=by
  unfold G4;rw [Av,if_neg (by omega)]
  obtain ⟨r,h1,h2⟩:=Nl (m:=fun s:Int×Int=>G4.l1 l s.1 s.2) (fun s=>∃ k:Nat,s.1=(k:Int)∧k≤l.length∧Dig s.2) (fun s=>l.length - s.1.toNat) Dig (by
    rintro ⟨x,h⟩ ⟨k,hx,hk,hd⟩;simp only at hx hd ⊢;subst hx;unfold G4.l1;rw [Av];by_cases hlt:k < l.length
    · left;have hb:(l[k]).toNat < 256:=(l[k]).toNat_lt;rw [if_pos (by omega),Cb hlt,Option.bind_some,Bz (by omega) (by omega),Option.bind_some,Bz (by omega) (by omega),Option.bind_some]
      obtain ⟨r,e1,e2⟩:=dnext_ok (s:={ e0:=h,e1:=((l[k]).toNat:Int)+1 }) (f:=257) hd ⟨by simp only;omega,by simp only;omega⟩ (by decide)
      rw [e1,Option.bind_some,Bz (by omega) (by omega),Option.bind_some]
      exact ⟨_,rfl,⟨k+1,by simp,hlt,e2⟩,by simp only;omega⟩
    · right;rw [if_neg (by omega)]
      exact ⟨_,rfl,hd⟩) (0,1) ⟨0,rfl,Nat.zero_le _,by decide,by decide⟩
  rw [h1,Option.bind_some];exact ⟨r,rfl,h2⟩
theorem pair_ok {a b:Int} (ha:Dig a) (hb:Dig b):∃ r,Lq a b=some r∧Dig r:=by
  unfold Lq;obtain ⟨r,h1,h2⟩:=dnext_ok (s:={ e0:=b,e1:=7 }) (f:=31) hb ⟨(by decide:(0:Int)≤7),(by decide:(7:Int) < 2305843009213693951)⟩ (by decide)
  rw [h1,Option.bind_some];obtain ⟨r',h3,h4⟩:=dnext_ok (s:={ e0:=a,e1:=r }) (f:=1000003) ha h2 (by decide)
  rw [h3];exact ⟨r',rfl,h4⟩
theorem is_eq {a:Int} (h:Dig a):Uz a=some true:=by
  obtain ⟨h1,h2⟩:=h;unfold Uz;rw [Av,if_pos h1,Option.bind_some,decide_eq_true h2]
theorem Pair_ok {a b:Int} (ha:Dig a) (hb:Dig b):∃ r,Dj a b=some (r,⟨0,0⟩)∧Dig r:=by
  unfold Dj
  have:Dl (fun s=>Dj.l1 a b s) 0=some (.inr ()):=by
    refine iter_eq_of (fun s=>s=0∨s=1∨s=2) (fun s=>2 - s.toNat) _ ?_ _ (.inl rfl);rintro s (rfl | rfl | rfl)
    · left;unfold Dj.l1;rw [Av,if_pos (by decide),show at? [a,b] 0=some a from rfl,Option.bind_some,is_eq ha,Option.bind_some,if_neg (by decide),Bz (by decide) (by decide),Option.bind_some]
      exact ⟨_,rfl,.inr (.inl rfl),by decide⟩
    · left;unfold Dj.l1;rw [Av,if_pos (by decide),show at? [a,b] 1=some b from rfl,Option.bind_some,is_eq hb,Option.bind_some,if_neg (by decide),Bz (by decide) (by decide),Option.bind_some]
      exact ⟨_,rfl,.inr (.inr rfl),by decide⟩
    · right;unfold Dj.l1;rw [Av,if_neg (by decide)]
  rw [this,Option.bind_some];simp only;unfold Dj.j1;obtain ⟨r,h1,h2⟩:=pair_ok ha hb;rw [h1,Option.bind_some];exact ⟨r,rfl,h2⟩
theorem and1 {y:Int} (h0:0≤y) (h1:y≤9223372036854775807):andI .i64 y 1=y % 2:=by
  obtain ⟨n,rfl⟩:=Int.eq_ofNat_of_zero_le h0;unfold andI;rw [BitVec.toNat_and]
  have e1:(BitVec.ofInt IntKind.i64.bits (n:Int)).toNat=n:=by
    rw [BitVec.toNat_ofInt];show ((n:Int) % ((2 ^ 64:Nat):Int)).toNat=n;omega
  have e2:(BitVec.ofInt IntKind.i64.bits 1).toNat=1:=by decide
  rw [e1,e2,Nat.and_one_is_mod,i64_wrap (by omega) (by omega)]
  omega
theorem Pair_pair {a b:Int} (ha:Dig a) (hb:Dig b):Dj a b=(Lq a b).bind fun y=>some (y,⟨0,0⟩):=by
  unfold Dj
  have s0:Dj.l1 a b 0=some (.next 1):=by
    unfold Dj.l1;rw [Av,if_pos (by decide),show at? [a,b] 0=some a from rfl,Option.bind_some,is_eq ha,Option.bind_some,if_neg (by decide),Bz (by decide) (by decide),Option.bind_some];rfl
  have s1:Dj.l1 a b 1=some (.next 2):=by
    unfold Dj.l1;rw [Av,if_pos (by decide),show at? [a,b] 1=some b from rfl,Option.bind_some,is_eq hb,Option.bind_some,if_neg (by decide),Bz (by decide) (by decide),Option.bind_some];rfl
  have s2:Dj.l1 a b 2=some (.done (.inr ())):=by
    unfold Dj.l1;rw [Av,if_neg (by decide)]
  rw [B8 s0,B8 s1,Bx s2,Option.bind_some];rfl
end Go.Dc
set_option linter.unusedSimpArgs false
set_option linter.unusedVariables false
set_option maxRecDepth 4000
noncomputable section
namespace Go.Dc
open Go
def dg (l:List UInt8):Int:=((G4 l).map (·.1)).getD 0
def pr (a b:Int):Int:=((Dj a b).map (·.1)).getD 0
theorem dg_ok {l:List UInt8} (hl:l.length≤4096):G4 l=some (dg l,⟨0,0⟩)∧Dig (dg l)∧True:=by
  obtain ⟨r,h1,h2⟩:=of_ok hl;have e:dg l=r:=by unfold dg;rw [h1];rfl
  rw [e];exact ⟨h1,h2,trivial⟩
theorem pr_ok {a b:Int} (ha:Dig a) (hb:Dig b):Dj a b=some (pr a b,⟨0,0⟩)∧Lq a b=some (pr a b)∧Dig (pr a b)∧True:=by
  obtain ⟨r,h1,h2⟩:=Pair_ok ha hb;have e:pr a b=r:=by unfold pr;rw [h1];rfl
  rw [e];refine ⟨h1,?_,h2,trivial⟩;rw [Pair_pair ha hb] at h1;obtain ⟨r',h3,_⟩:=pair_ok ha hb;rw [h3,Option.bind_some] at h1;cases h1;exact h3
theorem Gg {x:Int} (h0:0≤x) (h1:x≤1000000000000):Dig x:=⟨h0,by omega⟩
def ds (l:List ByteArray):Int:=l.foldl (fun h s=>pr h (dg s.data.toList)) 2
theorem line_len {s:ByteArray} (h:s.size≤4096):s.data.toList.length≤4096:=by rw [Array.length_toList];exact h
theorem dfold_dig:∀ (l:List ByteArray) (x:Int),Dig x→(∀ s∈l,s.size≤4096)→Dig (l.foldl (fun h s=>pr h (dg s.data.toList)) x)
  | [],_,h,_=>h
  | s::l,x,h,hl=>dfold_dig l _ (pr_ok h (dg_ok (line_len (hl s (by simp)))).2.1).2.2.1 fun t ht=>hl t (by simp [ht])
theorem ds_ok {m:List ByteArray} (h:G8 m):Ec m=some (ds m,⟨0,0⟩)∧Dig (ds m)∧True∧Gk m=some (ds m):=by
  have hl:=h.1;have hs:∀ s∈m,s.size≤4096:=fun s hs=>Nat.le_trans (h.2 s hs).1 (by decide)
  have hd:Dig (ds m):=dfold_dig m 2 (Gg (by decide) (by decide)) hs
  have k1:Ec m=some (ds m,⟨0,0⟩):=by
    unfold Ec;rw [Av,if_neg (by omega)]
    obtain ⟨r,hr,rfl⟩:=Mu (f:=fun s:Int×Int=>Ec.l1 m s.1 s.2) m.length (fun k x=>x=(m.take k).foldl (fun h s=>pr h (dg s.data.toList)) 2) (fun r=>r=.inr (ds m))
      (by
        rintro k x hk rfl;have hx:Dig ((m.take k).foldl (fun h s=>pr h (dg s.data.toList)) 2):=dfold_dig _ 2 (Gg (by decide) (by decide)) fun s hs'=>hs s (List.mem_of_mem_take hs')
        refine ⟨_,?_,rfl⟩;rw [List.take_succ_eq_append_getElem hk,List.foldl_append];generalize (m.take k).foldl (fun h s=>pr h (dg s.data.toList)) 2=x at hx ⊢;obtain ⟨d1,d2,_⟩:=dg_ok (line_len (hs _ (List.getElem_mem hk)));unfold Ec.l1;rw [Av,if_pos (by omega),Cb hk,Option.bind_some,d1,Option.bind_some]
        simp only [decide_true,Bool.and_self,Bool.not_true,Bool.false_eq_true,if_false];rw [(pr_ok hx d2).2.1,Option.bind_some,Bz (by omega) (by omega),Option.bind_some];rfl)
      (by
        rintro x rfl;unfold Ec.l1;rw [Av,if_neg (by omega),List.take_length]
        exact ⟨_,rfl,rfl⟩) 2 rfl
    rw [hr,Option.bind_some];rfl
  exact ⟨k1,hd,trivial,by unfold Gk;rw [k1,Option.bind_some]⟩
theorem U4:∀ (l:List Int) (x:Int),Dig x→(∀ s∈l,Dig s)→Dig (l.foldl pr x)
  | [],_,h,_=>h
  | s::l,x,h,hl=>U4 l _ (pr_ok h (hl s (by simp))).2.2.1 fun t ht=>hl t (by simp [ht])
theorem combine_f {h:Int} {l:List Int} (hh:Dig h) (hl:∀ s∈l,Dig s) (hn:l.length≤1000):Eo h l=some (l.foldl pr h):=by
  unfold Eo
  obtain ⟨r,hr,rfl⟩:=Mu (f:=fun s:Int×Int=>Eo.l1 l s.1 s.2) l.length (fun k x=>x=(l.take k).foldl pr h) (fun r=>r=l.foldl pr h)
    (by
      rintro k x hk rfl;have hx:=U4 (l.take k) h hh fun s hs=>hl s (List.mem_of_mem_take hs);refine ⟨_,?_,rfl⟩;rw [List.take_succ_eq_append_getElem hk,List.foldl_append];generalize (l.take k).foldl pr h=x at hx ⊢;unfold Eo.l1;rw [Av,if_pos (by omega),Cb hk,Option.bind_some,(pr_ok hx (hl _ (List.getElem_mem hk))).1,Option.bind_some,Bz (by omega) (by omega),Option.bind_some];rfl)
    (by
      rintro x rfl;unfold Eo.l1;rw [Av,if_neg (by omega),List.take_length]
      exact ⟨_,rfl,rfl⟩) h rfl
  rw [hr,Option.bind_some];rfl
def hd (x:Int) (h:Hunk):Int:=[h.At,ds h.Old,ds h.New].foldl pr x
def cd0 (x:Int) (c:TreeChange):Int:=[c.Kind,dg c.Path.data.toList,dg c.To.data.toList,ds c.Lines].foldl pr x
def cd (x:Int) (c:TreeChange):Int:=c.Patch.Hunks.foldl hd (cd0 x c)
def pd (p:List TreeChange):Int:=p.foldl cd 3
structure HOk (h:Hunk):Prop where
  at0:Dig h.At
  old:G8 h.Old
  new:G8 h.New
theorem hunks_ok {c:TreeChange} (hc:OkCh c):c.Patch.Hunks.length≤130∧∀ h∈c.Patch.Hunks,HOk h:=by
  obtain ⟨h1,h2⟩:=(Mn _).1 hc.patch;refine ⟨h1,fun x hx=>?_⟩;obtain ⟨a1,a2,a3,a4,_⟩:=good_at h2 (by omega) x hx
  exact ⟨Gg (by omega) (by omega),(E0 _).2 ((Dh _).2 a3),(E0 _).2 ((Dh _).2 a4)⟩
theorem hd_list {h:Hunk} (hh:HOk h):∀ s∈[h.At,ds h.Old,ds h.New],Dig s:=by
  intro s hs;simp only [List.mem_cons,List.not_mem_nil,or_false] at hs;rcases hs with rfl | rfl | rfl
  · exact hh.at0
  · exact (ds_ok hh.old).2.1
  · exact (ds_ok hh.new).2.1
theorem hd_dig {x:Int} {h:Hunk} (hx:Dig x) (hh:HOk h):Dig (hd x h):=U4 _ _ hx (hd_list hh)
theorem hds_dig:∀ (l:List Hunk) (x:Int),Dig x→(∀ h∈l,HOk h)→Dig (l.foldl hd x)
  | [],_,h,_=>h
  | s::l,x,h,hl=>hds_dig l _ (hd_dig h (hl s (by simp))) fun t ht=>hl t (by simp [ht])
theorem path_sz {p:ByteArray} (h:Gd p=true):p.size≤60:=by
  unfold Gd at h;rw [Bool.and_eq_true] at h;exact of_decide_eq_true h.1
theorem ch_len {c:TreeChange} (hc:OkCh c):c.Path.data.toList.length≤4096∧c.To.data.toList.length≤4096:=by
  refine ⟨line_len (Nat.le_trans (path_sz hc.path) (by decide)),?_⟩
  by_cases h3:c.Kind=3
  · exact line_len (Nat.le_trans (path_sz (hc.to h3).1) (by decide))
  · rw [hc.noTo h3];decide
theorem cd0_list {c:TreeChange} (hc:OkCh c):∀ s∈[c.Kind,dg c.Path.data.toList,dg c.To.data.toList,ds c.Lines],Dig s:=by
  intro s hs;have hk:=hc.kind;simp only [List.mem_cons,List.not_mem_nil,or_false] at hs;rcases hs with rfl | rfl | rfl | rfl
  · exact Gg (by omega) (by omega)
  · exact (dg_ok (ch_len hc).1).2.1
  · exact (dg_ok (ch_len hc).2).2.1
  · exact (ds_ok ((E0 _).2 ((Dh _).2 hc.lines))).2.1
theorem cd0_dig {x:Int} {c:TreeChange} (hx:Dig x) (hc:OkCh c):Dig (cd0 x c):=U4 _ _ hx (cd0_list hc)
theorem cd_dig {x:Int} {c:TreeChange} (hx:Dig x) (hc:OkCh c):Dig (cd x c):=hds_dig _ _ (cd0_dig hx hc) (hunks_ok hc).2
theorem cds_dig:∀ (l:List TreeChange) (x:Int),Dig x→(∀ h∈l,OkCh h)→Dig (l.foldl cd x)
  | [],_,h,_=>h
  | s::l,x,h,hl=>cds_dig l _ (cd_dig h (hl s (by simp))) fun t ht=>hl t (by simp [ht])
theorem dig3:Dig 3:=Gg (by decide) (by decide)
theorem pd_dig {p:List TreeChange} (hp:∀ c∈p,OkCh c):Dig (pd p):=cds_dig p 3 dig3 hp
theorem hloop_f {c:TreeChange} (hc:OkCh c) {x:Int} (hx:Dig x):Dl (fun s=>Bp.l2 c s.1 s.2) (0,x)=some (c.Patch.Hunks.foldl hd x):=by
  obtain ⟨hn,hh⟩:=hunks_ok hc
  obtain ⟨r,hr,rfl⟩:=Mu (f:=fun s:Int×Int=>Bp.l2 c s.1 s.2) c.Patch.Hunks.length (fun k y=>y=(c.Patch.Hunks.take k).foldl hd x) (fun r=>r=c.Patch.Hunks.foldl hd x)
    (by
      rintro k y hk rfl;have hy:=hds_dig (c.Patch.Hunks.take k) x hx fun s hs=>hh s (List.mem_of_mem_take hs);refine ⟨_,?_,rfl⟩;rw [List.take_succ_eq_append_getElem hk,List.foldl_append];generalize (c.Patch.Hunks.take k).foldl hd x=y at hy ⊢;have ho:=hh _ (List.getElem_mem hk);unfold Bp.l2;rw [Av,if_pos (by omega),Cb hk,Option.bind_some,(ds_ok ho.old).2.2.2,Option.bind_some,(ds_ok ho.new).2.2.2,Option.bind_some,combine_f hy (hd_list ho) (by simp),Option.bind_some,Bz (by omega) (by omega),Option.bind_some];rfl)
    (by
      rintro y rfl;unfold Bp.l2;rw [Av,if_neg (by omega),List.take_length]
      exact ⟨_,rfl,rfl⟩) x rfl
  exact hr
theorem s1_f {s:ByteArray} (h:s.data.toList.length≤4096):Hb s=some (dg s.data.toList):=by
  unfold Hb;rw [(dg_ok h).1,Option.bind_some]
def pdT (p:List TreeChange):Int×Fault:=if (pcF p).Code≠0 then (0,pcF p) else (pd p,⟨0,0⟩)
theorem PatchDigest_f (p:TreePatch):Bp p=some (pdT p.Changes):=by
  obtain ⟨p⟩:=p;unfold Bp pdT;rw [VPatch_f,Option.bind_some];simp only;rcases pcF_ok p with h | h
  · obtain ⟨hl,hp⟩:=(U3 p).1 (by rw [h])
    rw [h];simp only [decide_true,Bool.and_self,Bool.not_true,Bool.false_eq_true,if_false,ne_eq,not_true_eq_false]
    obtain ⟨r,hr,rfl⟩:=Mu (f:=fun s:Int×Int=>Bp.l1 ⟨p⟩ s.1 s.2) p.length (fun k y=>y=(p.take k).foldl cd 3) (fun r=>r=pd p)
      (by
        rintro k y hk rfl;have hy:=cds_dig (p.take k) 3 dig3 fun s hs=>hp s (List.mem_of_mem_take hs);refine ⟨_,?_,rfl⟩;rw [List.take_succ_eq_append_getElem hk,List.foldl_append];generalize (p.take k).foldl cd 3=y at hy ⊢;have hc:=hp _ (List.getElem_mem hk);have hcl:=(E0 _).2 ((Dh _).2 hc.lines);unfold Bp.l1;simp only;rw [Av,if_pos (by omega),Cb hk,Option.bind_some,s1_f (ch_len hc).1,Option.bind_some,s1_f (ch_len hc).2,Option.bind_some,(ds_ok hcl).2.2.2,Option.bind_some,combine_f hy (cd0_list hc) (by simp),Option.bind_some]
        rw [hloop_f hc (U4 _ _ hy (cd0_list hc)),Option.bind_some];unfold Bp.j3 Bp.j2;rw [Bz (by omega) (by omega),Option.bind_some];rfl)
      (by
        rintro y rfl;unfold Bp.l1;simp only;rw [Av,if_neg (by omega),List.take_length]
        exact ⟨_,rfl,rfl⟩) 3 rfl
    rw [hr,Option.bind_some];rfl
  · rw [if_pos h,if_pos (L7.2 fun h2=>h h2.1)]
def Gz (k:Int):Prop:=1≤k∧k≤1000000000
instance (k:Int):Decidable (Gz k):=inferInstanceAs (Decidable (_∧_))
theorem isKey_f (k:Int):Lt k=some (decide (Gz k)):=by
  unfold Lt Gz;rw [Av];by_cases h:k ≥ 1
  · rw [if_pos h,Option.bind_some];exact congrArg some (decide_eq_decide.2 ⟨fun h2=>⟨h,h2⟩,fun h2=>h2.2⟩)
  · rw [if_neg h,Option.bind_some];exact congrArg some (decide_eq_false fun h2=>h h2.1).symm
theorem isDig_f {a:Int} (h:Dig a):Kx a=some true:=by
  obtain ⟨h1,h2⟩:=h;unfold Kx;rw [Av,if_pos h1,Option.bind_some,decide_eq_true h2]
def sg (key:Int) (d:List UInt8):Int:=pr key (dg d)
theorem sign_f {key:Int} {d:List UInt8} (hk:Gz key) (hd:d.length≤4096):Ng key d=some (sg key d,⟨0,0⟩)∧Dig (sg key d):=by
  obtain ⟨d1,d2,_⟩:=dg_ok hd;have p:=pr_ok (Gg (x:=key) (by have:=hk.1;omega) (by have:=hk.2;omega)) d2
  refine ⟨?_,p.2.2.1⟩;unfold Ng;rw [isKey_f,Option.bind_some,decide_eq_true hk,if_neg (by decide),d1,Option.bind_some]
  simp only [decide_true,Bool.and_self,Bool.not_true,Bool.false_eq_true,if_false];rw [p.1,Option.bind_some];rfl
theorem verify_f {key s:Int} {d:List UInt8} (hk:Gz key) (hd:d.length≤4096) (hs:Dig s):Na key d s=some (decide (sg key d=s),⟨0,0⟩):=by
  unfold Na;rw [(sign_f hk hd).1,Option.bind_some];simp only [decide_true,Bool.and_self,Bool.not_true,Bool.false_eq_true,if_false];rw [isDig_f hs,Option.bind_some,if_neg (by decide)]
theorem big_f {n:Int} (h:Dig n):∃ b,G1 n=some b∧b.length=8:=by
  obtain ⟨h0,h1⟩:=h;unfold G1
  have hz:∀ k:Int,0≤k→k≤56→∃ z,shr? .i64 n k=some z:=by
    intro k hk hk2;unfold shr?;rw [if_neg (by omega)]
    exact ⟨_,rfl⟩
  obtain ⟨r,hr,hq⟩:=Nl (m:=fun s:Int×List UInt8=>G1.l1 n s.1 s.2) (fun s=>∃ j:Nat,j≤8∧s.1=56 - 8 * (j:Int)∧s.2.length=j) (fun s=>(s.1+8).toNat) (fun r=>r.length=8) (by
    rintro ⟨x,l⟩ ⟨j,hj,hx,hl⟩;simp only at hx hl ⊢;subst hx;unfold G1.l1;rw [Av];by_cases h8:j=8
    · right;rw [if_neg (by omega)]
      exact ⟨_,rfl,by omega⟩
    · left;obtain ⟨z,hz⟩:=hz (56 - 8 * (j:Int)) (by omega) (by omega)
      rw [if_pos (by omega),hz,Option.bind_some,Option.bind_some,Ep (by rw [List.length_singleton];omega),Option.bind_some,Bz (by omega) (by omega),Option.bind_some]
      exact ⟨_,rfl,⟨j+1,by omega,by simp only;omega,by simp [hl]⟩,by simp only;omega⟩) (56,[]) ⟨0,by omega,by simp,rfl⟩
  rw [hr,Option.bind_some];exact ⟨r,rfl,hq⟩
theorem message_f {l:List Int} (hl:l.length≤64) (hd:∀ x∈l,Dig x):∃ d,D3 l=some (d,⟨0,0⟩)∧d.length=8 * l.length:=by
  unfold D3;rw [Av,if_neg (by omega)]
  obtain ⟨r,hr,d,rfl,hq⟩:=Mu (f:=fun s:Int×List UInt8=>D3.l1 l s.1 s.2) l.length (fun k y=>y.length=8 * k) (fun r=>∃ d,r=.inr d∧d.length=8 * l.length)
    (by
      intro k y hk hy;obtain ⟨b,hb,hb8⟩:=big_f (hd _ (List.getElem_mem hk));show ∃ s',D3.l1 l (k:Int) y=some (.next (((k+1:Nat):Int),s'))∧s'.length=8 * (k+1)
      unfold D3.l1;rw [Av,if_pos (by omega),Cb hk,Option.bind_some,isDig_f (hd _ (List.getElem_mem hk)),Option.bind_some,if_neg (by decide),hb,Option.bind_some,Ep (by omega),Option.bind_some,Bz (by omega) (by omega),Option.bind_some]
      exact ⟨_,rfl,by rw [List.length_append,hy,hb8];omega⟩)
    (by
      intro y hy;unfold D3.l1;rw [Av,if_neg (by omega)]
      exact ⟨_,rfl,_,rfl,hy⟩) [] rfl
  rw [hr,Option.bind_some];exact ⟨d,rfl,hq⟩
def md (m:Message_forge):List UInt8:=(Ez m).getD []
structure MsgOk (m:Message_forge):Prop where
  user:Dig m.user
  number:Dig m.number
  base:Dig m.base
theorem pdT_dig (p:List TreeChange):Dig (pdT p).1:=by
  unfold pdT;split
  · exact (Gg (by decide) (by decide):Dig 0)
  · next h=>exact pd_dig ((U3 p).1 (by simpa using h)).2
theorem md_f {m:Message_forge} (h:MsgOk m):Ez m=some (md m)∧(md m).length=32:=by
  have e:∃ d,Ez m=some d∧d.length=32:=by
    unfold Ez;rw [PatchDigest_f,Option.bind_some]
    obtain ⟨d,h1,h2⟩:=message_f (l:=[m.user,m.number,m.base,(pdT m.patch.Changes).1]) (by simp) (by
      intro x hx;simp only [List.mem_cons,List.not_mem_nil,or_false] at hx;rcases hx with rfl | rfl | rfl | rfl
      · exact h.user
      · exact h.number
      · exact h.base
      · exact pdT_dig _)
    rw [h1,Option.bind_some];exact ⟨d,rfl,h2⟩
  obtain ⟨d,h1,h2⟩:=e;have:md m=d:=by unfold md;rw [h1];rfl
  rw [this];exact ⟨h1,h2⟩
end Go.Dc
set_option linter.unusedSimpArgs false
set_option linter.unusedVariables false
set_option maxRecDepth 4000
namespace Go.Dc
open Go
def Net (e:ForgeEvent):Prop:=e.Kind=4∨e.Kind=5∨e.Kind=6∨e.Kind=7
instance (e:ForgeEvent):Decidable (Net e):=inferInstanceAs (Decidable (_∨_))
def evD (n:Int) (e:ForgeEvent):Int:=if e.User < 0∨e.User ≥ n∨(e.Kind=3∧¬ Gz e.Key) then 3 else if e.Kind=2 then (pcF e.Patch.Changes).Code else 0
def evN (e:ForgeEvent):Int:=if e.N < 0∨e.N > 1000000000 then 3 else 0
def evC (n:Int) (e:ForgeEvent):Int :=
  if Net e then evN e
  else if e.Kind=1∨e.Kind=2∨e.Kind=3∨e.Kind=8 then
    evD n e
  else 4
theorem ce2 (e:ForgeEvent) (n:Int) (b:Bool):Cl.j2 e n b=some (if b=true then evD n e else 4):=by
  unfold Cl.j2 evD;cases b
  · rw [if_neg Bool.false_ne_true,if_neg Bool.false_ne_true]
  rw [if_pos rfl,if_pos rfl];simp only [Av,isKey_f,VPatch_f,Option.bind_some];by_cases h1:e.User < 0
  · rw [if_pos h1,Option.bind_some,if_pos rfl,Option.bind_some,if_pos rfl,if_pos (.inl h1)]
  rw [if_neg h1,Option.bind_some];simp only [Av];by_cases h2:e.User ≥ n
  · rw [if_pos h2,Option.bind_some,if_pos rfl,if_pos (.inr (.inl h2))]
  rw [if_neg h2];by_cases h3:e.Kind=3
  · rw [if_pos h3,Option.bind_some,Option.bind_some];by_cases h4:Gz e.Key
    · have hP:¬ (e.User < 0∨e.User ≥ n∨(e.Kind=3∧¬ Gz e.Key)):=by rintro (h | h | h);exact h1 h;exact h2 h;exact h.2 h4
      rw [decide_eq_true h4,if_neg (by decide),if_neg hP]
      split <;> rfl
    · rw [decide_eq_false h4,if_pos (by decide),if_pos (.inr (.inr ⟨h3,h4⟩))]
  · have hP:¬ (e.User < 0∨e.User ≥ n∨(e.Kind=3∧¬ Gz e.Key)):=by rintro (h | h | h);exact h1 h;exact h2 h;exact h3 h.1
    rw [if_neg h3,Option.bind_some,Option.bind_some,if_neg Bool.false_ne_true,if_neg hP];split <;> rfl
theorem checkEvent_f (e:ForgeEvent) (n:Int):Cl e n=some (evC n e):=by
  have j1t:Cl.j1 e n true=some (evN e):=by
    unfold Cl.j1 evN;rw [if_pos rfl];by_cases h1:e.N < 0
    · rw [decide_eq_true h1,if_pos rfl,Option.bind_some,if_pos rfl,if_pos (.inl h1)]
    · rw [decide_eq_false h1,if_neg Bool.false_ne_true,Option.bind_some,Av];by_cases h2:e.N > 1000000000
      · rw [if_pos h2,if_pos (.inr h2)]
      · rw [if_neg h2,if_neg (by omega)]
  have j1f:Cl.j1 e n false=some (if e.Kind=1∨e.Kind=2∨e.Kind=3∨e.Kind=8 then
    evD n e
  else 4):=by
    unfold Cl.j1;rw [if_neg Bool.false_ne_true];simp only [ce2,Av];by_cases h1:e.Kind=1
    · rw [if_pos h1,if_pos h1,if_pos (.inl h1)]
    rw [if_neg h1];by_cases h2:e.Kind=2
    · rw [if_pos h2,if_pos h2,if_pos (.inr (.inl h2))]
    rw [if_neg h2];by_cases h3:e.Kind=3
    · rw [if_pos h3,if_pos h3,if_pos (.inr (.inr (.inl h3)))]
    rw [if_neg h3];by_cases h8:e.Kind=8
    · rw [if_pos h8,if_pos (.inr (.inr (.inr h8)))]
    · rw [if_neg h8,if_neg (by omega)]
  unfold Cl evC;simp only [Av];by_cases h4:e.Kind=4
  · rw [if_pos h4,decide_eq_true h4,j1t,if_pos (show Net e from .inl h4)]
  rw [if_neg h4];by_cases h5:e.Kind=5
  · rw [if_pos h5,decide_eq_true h5,j1t,if_pos (show Net e from .inr (.inl h5))]
  rw [if_neg h5];by_cases h6:e.Kind=6
  · rw [if_pos h6,decide_eq_true h6,j1t,if_pos (show Net e from .inr (.inr (.inl h6)))]
  rw [if_neg h6];by_cases h7:e.Kind=7
  · rw [decide_eq_true h7,j1t,if_pos (show Net e from .inr (.inr (.inr h7)))]
  · rw [decide_eq_false h7,j1f,if_neg (show ¬ Net e by rintro (h | h | h | h) <;> contradiction)]
def evG (n:Int) (k:Nat) (e:ForgeEvent):Option Fault:=if evC n e≠0 then some ⟨evC n e,k⟩ else Option.none
def kyG (k:Nat) (x:Int):Option Fault:=if Gz x then Option.none else some ⟨3,-3 - (k:Int)⟩
def fvF (keys:List Int) (events:List ForgeEvent):Fault :=
  if keys.length=0∨keys.length > 4 then ⟨9,-2⟩ else match G0 kyG 0 keys with
  | some f=>f
  | Option.none=>if events.length > 40 then ⟨2,-1⟩ else (G0 (evG keys.length) 0 events).getD ⟨0,0⟩
theorem FValidate_f (keys:List Int) (events:List ForgeEvent):Cv keys events=some (fvF keys events):=by
  unfold Cv fvF
  have e1:(if decide ((keys.length:Int)=0)=true then some true else some (decide ((keys.length:Int) > 4)))=some (decide (keys.length=0∨keys.length > 4)):=by
    rw [Av];split
    · rw [decide_eq_true (by omega)]
    · exact congrArg some (decide_eq_decide.2 (by omega))
  rw [e1,Option.bind_some,Av];by_cases hk:keys.length=0∨keys.length > 4
  · rw [if_pos hk,if_pos hk]
  rw [if_neg hk,if_neg hk,scan0 keys kyG ?_ ?_,Option.bind_some]
  · cases hs:G0 kyG 0 keys with
    | some f=>rfl
    | none =>
      show Cv.j1 keys events=_;unfold Cv.j1;simp only;rw [Av];by_cases h40:events.length > 40
      · rw [if_pos (by omega),if_pos h40]
      rw [if_neg (by omega),if_neg h40,scan0 events (evG keys.length) ?_ ?_,Option.bind_some]
      · cases G0 (evG keys.length) 0 events <;> rfl
      · intro k hk _;unfold Cv.l1 evG;rw [Av,if_pos (by omega),Cb hk,Option.bind_some,checkEvent_f,Option.bind_some]
        by_cases hc:evC keys.length events[k]=0
        · rw [decide_eq_true hc,if_neg (by decide),if_neg (fun hn=>hn hc),Bz (by omega) (by omega)];rfl
        · rw [decide_eq_false hc,if_pos (show (!false)=true from rfl),if_pos hc]
      · unfold Cv.l1;rw [Av,if_neg (by omega)]
  · intro k hk2 _;unfold Cv.l2 kyG;rw [Av,if_pos (by omega),Cb hk2,Option.bind_some,isKey_f,Option.bind_some]
    by_cases hc:Gz keys[k]
    · rw [decide_eq_true hc,if_neg (by decide),if_pos hc,Bz (by omega) (by omega)];rfl
    · rw [decide_eq_false hc,if_pos (show (!false)=true from rfl),if_neg hc,Bz (by omega) (by omega)];rfl
  · unfold Cv.l2;rw [Av,if_neg (by omega)]
theorem fvF_ok (keys:List Int) (events:List ForgeEvent):fvF keys events=⟨0,0⟩∨(fvF keys events).Code≠0:=by
  unfold fvF;split
  · right;decide
  · cases hs:G0 kyG 0 keys with
    | some f =>
      right;obtain ⟨j,hj,e⟩:=H3 hs;unfold kyG at e;split at e
      · cases e
      · cases e;simp
    | none =>
      simp only;split
      · right;decide
      · cases h:G0 (evG keys.length) 0 events with
        | none=>left;rfl
        | some y =>
          right;obtain ⟨j,hj,e⟩:=H3 h;unfold evG at e;split at e
          · rename_i hc;cases e;exact hc
          · cases e
theorem N0 (keys:List Int) (events:List ForgeEvent):(fvF keys events).Code=0↔(1≤keys.length∧keys.length≤4∧∀ k∈keys,Gz k)∧events.length≤40∧∀ e∈events,evC keys.length e=0:=by
  unfold fvF;by_cases hk:keys.length=0∨keys.length > 4
  · rw [if_pos hk];exact ⟨fun h=>by simp at h,fun h=>by omega⟩
  rw [if_neg hk];cases hs:G0 kyG 0 keys with
  | some f =>
    obtain ⟨j,hj,e⟩:=H3 hs;unfold kyG at e;split at e
    · cases e
    · rename_i hc
      cases e;exact ⟨fun h=>by simp at h,fun h=>absurd (h.1.2.2 _ (List.getElem_mem hj)) hc⟩
  | none =>
    have hall:∀ k∈keys,Gz k:=by
      intro x hx;obtain ⟨j,hj,rfl⟩:=List.getElem_of_mem hx;have:=Md.1 hs j hj;unfold kyG at this;split at this
      · assumption
      · cases this
    simp only;by_cases h40:events.length > 40
    · rw [if_pos h40];exact ⟨fun h=>by simp at h,fun h=>by omega⟩
    rw [if_neg h40];cases h:G0 (evG keys.length) 0 events with
    | some y =>
      obtain ⟨j,hj,e⟩:=H3 h;unfold evG at e;split at e
      · rename_i hc
        cases e;exact ⟨fun h=>absurd h hc,fun h=>absurd (h.2.2 _ (List.getElem_mem hj)) hc⟩
      · cases e
    | none =>
      refine ⟨fun _=>⟨⟨by omega,by omega,hall⟩,by omega,fun e he=>?_⟩,fun _=>rfl⟩
      obtain ⟨j,hj,rfl⟩:=List.getElem_of_mem he;have:=Md.1 h j hj;unfold evG at this;split at this
      · cases this
      · rename_i hc;exact Classical.not_not.1 hc
noncomputable def Gp (s:State_forge) (e:ForgeEvent):Option (Int×State_forge):=if Net e then Co s e else Br s e
noncomputable def Ov:State_forge→List Int→List ForgeEvent→Option (State_forge×List Int)
  | s,out,[]=>some (s,out)
  | s,out,e::r=>(Gp s e).bind fun y=>Ov y.2 (out++[y.1]) r
theorem He {s s':State_forge} {out:List Int} {e:ForgeEvent} {r:List ForgeEvent} {c:Int} (h:Gp s e=some (c,s')):Ov s out (e::r)=Ov s' (out++[c]) r:=by
  rw [Ov,h,Option.bind_some]
theorem play_loop (keys:List Int) (events:List ForgeEvent) (hl:events.length≤1000):∀ (rest:List ForgeEvent) (k:Nat) (out:List Int) (s s':State_forge) (out':List Int),events.drop k=rest→k≤events.length→out.length=k →
    Ov s out rest=some (s',out') →
    Dl (fun s=>D0.l1 keys events s.1 s.2.1 s.2.2.1 s.2.2.2.1 s.2.2.2.2.1 s.2.2.2.2.2.1 s.2.2.2.2.2.2) ((k:Int),out,s.keys,s.versions,s.developers,s.flight,s.log)=some (out',s'.keys,s'.versions,s'.developers,s'.flight,s'.log):=by
  intro rest
  induction rest with
  | nil =>
    intro k out s s' out' hk hkl ho hr;have:=Kl hk;rw [Ov] at hr;cases hr;refine Bx ?_;unfold D0.l1;simp only;rw [Av,if_neg (by omega)]
  | cons e r ih =>
    intro k out s s' out' hk hkl ho hr;obtain ⟨hlt,hx,hr'⟩:=K8 hk;rw [Ov] at hr;cases he:Gp s e with
    | none=>rw [he] at hr;cases hr
    | some y =>
      obtain ⟨c,t⟩:=y;rw [he,Option.bind_some] at hr;simp only at hr
      have key:D0.l1 keys events (k:Int) out s.keys s.versions s.developers s.flight s.log=some (.next (((k+1:Nat):Int),out++[c],t.keys,t.versions,t.developers,t.flight,t.log)):=by
        have j2:∀ b:Bool,b=decide (Net e)→D0.j2 keys (k:Int) out s.keys s.versions s.developers s.flight s.log e b=some (.next (((k+1:Nat):Int),out++[c],t.keys,t.versions,t.developers,t.flight,t.log)):=by
          rintro b rfl;unfold D0.j2;unfold Gp at he;rw [Av];by_cases hn:Net e
          · rw [if_pos hn] at he ⊢;rw [show ({ keys:=s.keys,versions:=s.versions,developers:=s.developers,flight:=s.flight,log:=s.log }:State_forge)=s from rfl,he,Option.bind_some,Ep (by rw [List.length_singleton];omega),Option.bind_some,Bz (by omega) (by omega),Option.bind_some];rfl
          · rw [if_neg hn] at he ⊢;rw [show ({ keys:=s.keys,versions:=s.versions,developers:=s.developers,flight:=s.flight,log:=s.log }:State_forge)=s from rfl,he,Option.bind_some,Ep (by rw [List.length_singleton];omega),Option.bind_some,Bz (by omega) (by omega),Option.bind_some];rfl
        unfold D0.l1;rw [Av,if_pos (by omega),Cb hlt,Option.bind_some,hx]
        simp only [Av];by_cases h4:e.Kind=4
        · rw [if_pos h4];exact j2 _ (decide_eq_decide.2 ⟨fun h=>.inl h,fun _=>h4⟩)
        rw [if_neg h4];by_cases h5:e.Kind=5
        · rw [if_pos h5];exact j2 _ (decide_eq_decide.2 ⟨fun h=>.inr (.inl h),fun _=>h5⟩)
        rw [if_neg h5];by_cases h6:e.Kind=6
        · rw [if_pos h6];exact j2 _ (decide_eq_decide.2 ⟨fun h=>.inr (.inr (.inl h)),fun _=>h6⟩)
        rw [if_neg h6];exact j2 _ (decide_eq_decide.2 ⟨fun h=>.inr (.inr (.inr h)),fun h=>by rcases h with h | h | h | h;exact absurd h h4;exact absurd h h5;exact absurd h h6;exact h⟩)
      rw [B8 (m:=fun s:Int×List Int×List Int×List FileTree×List Developer_forge×List Message_forge×List ForgeEntry=>D0.l1 keys events s.1 s.2.1 s.2.2.1 s.2.2.2.1 s.2.2.2.2.1 s.2.2.2.2.2.1 s.2.2.2.2.2.2) key];exact ih (k+1) _ t s' out' hr' (by omega) (by rw [List.length_append,ho];rfl) hr
def st0 (keys:List Int):State_forge:=⟨keys,[⟨[]⟩],List.replicate keys.length ⟨⟨[]⟩,0,0,0⟩,[],[]⟩
theorem play_f {keys:List Int} {events:List ForgeEvent} {s:State_forge} {out:List Int} (hv:(fvF keys events).Code=0) (hr:Ov (st0 keys) [] events=some (s,out)):D0 keys events=some (.inr (s,out)):=by
  have hz:=(N0 keys events).1 hv;unfold D0;rw [FValidate_f,Option.bind_some];rcases fvF_ok keys events with h | h
  · rw [h];simp only [decide_true,Bool.and_self,Bool.not_true,Bool.false_eq_true,if_false];rw [mk_eq (by omega) (by omega),Option.bind_some,Int.toNat_natCast]
    have:=play_loop keys events (by omega) events 0 [] (st0 keys) s out rfl (Nat.zero_le _) rfl hr
    rw [show ((0:Nat):Int)=0 from rfl] at this;unfold st0 at this;simp only at this;rw [this,Option.bind_some];rfl
  · exact absurd hv h
theorem play_bad {keys:List Int} {events:List ForgeEvent} (hv:(fvF keys events).Code≠0):D0 keys events=some (.inl (fvF keys events)):=by
  unfold D0;rw [FValidate_f,Option.bind_some,if_pos (L7.2 fun h2=>hv h2.1)]
theorem Run_bad {keys:List Int} {events:List ForgeEvent} (hv:(fvF keys events).Code≠0):Ej keys events=some (⟨[]⟩,[],[],fvF keys events):=by
  unfold Ej;rw [play_bad hv,Option.bind_some]
theorem newest_f {s:State_forge} {v:List FileTree} {t:FileTree} (h:s.versions=v++[t]) (hl:v.length≤100000):Ga s=some t:=by
  unfold Ga;rw [h,List.length_append,List.length_singleton,Bz (by omega) (by omega),Option.bind_some]
  rw [show ((v.length+1:Nat):Int) - 1=(v.length:Int) by omega,Cb (by simp),Option.bind_some]
  simp
theorem Run_f {keys:List Int} {events:List ForgeEvent} {s:State_forge} {out:List Int} {v:List FileTree} {t:List File} (hv:(fvF keys events).Code=0) (hr:Ov (st0 keys) [] events=some (s,out))
    (h:s.versions=v++[⟨t⟩]) (hl:v.length≤100000) (ht:TrOk t):Ej keys events=some (⟨t⟩,s.log,out,⟨0,0⟩):=by
  unfold Ej;rw [play_f hv hr,Option.bind_some];simp only;rw [newest_f h hl,Option.bind_some,copyT_f (fun f hf=>by have:=ht.text_len hf;omega) (by have:=ht.len;omega),Option.bind_some]
end Go.Dc
set_option linter.unusedSimpArgs false
set_option linter.unusedVariables false
set_option maxRecDepth 4000
namespace Go.Dc
open Go
structure Side (t:List ByteArray) (hs:List Hunk):Prop where
  chn:Chn (-1) hs
  ins:∀ h∈hs,0≤h.At∧h.At+h.Old.length≤t.length∧h.New.length≤120∧∀ s∈h.New,OkLine s
  len:hs.length≤130
theorem script_side {a b:List ByteArray} (ha:G8 a) (hb:G8 b):Side a (Ht a b):=by
  have h0:ScI a b ([],0,false) 0 0:=⟨rfl,Nat.le_refl _,by simp [preS,endS],fun h=>by simp at h,fun _=>.inl rfl,trivial,fun h hh=>by cases hh⟩
  have h:=scr_ok _ 0 0 _ rfl (Nat.zero_le _) (Nat.zero_le _) h0;rw [List.drop_zero,List.drop_zero] at h;obtain ⟨_,g2⟩:=good_of ha hb (Ht a b) (-1) h.chn h.each;have hlen:=g2 (by omega) (by omega)
  refine ⟨h.chn,fun x hx=>?_,by omega⟩
  obtain ⟨p,q,h1,h2,h3,h4,h5,_⟩:=h.each x hx;have:=hb.1;refine ⟨by omega,by omega,by omega,fun s hs=>?_⟩
  rw [h5] at hs;exact hb.2 s (List.mem_of_mem_drop (List.mem_of_mem_take hs))
theorem Side.sm {t:List ByteArray} (ht:t.length≤120) {hs:List Hunk} (h:Side t hs):Sm 120 hs:=⟨h.len,fun x hx=>by
  obtain ⟨h1,h2,h3,_⟩:=h.ins x hx;exact ⟨by omega,by omega,by omega,h3⟩⟩
abbrev RX:=RangeX_commute
def rx (h:Hunk):RX:=⟨h.At,h.At+h.Old.length,[]⟩
def L2 (x y:RX):Prop:=x.Low < y.Low∨(x.Low=y.Low∧x.High < y.High)
def RB (n:Nat) (r:RX):Prop:=0≤r.Low∧r.Low≤r.High∧r.High≤n∧r.Growth=[]
theorem s2_f {n:Nat} (hn:n≤120) {x y:RX} (hx:RB n x) (hy:RB n y):∃ r,D8 x y=some r∧(r < 0↔L2 x y):=by
  obtain ⟨x1,x2,x3,_⟩:=hx;obtain ⟨y1,y2,y3,_⟩:=hy;unfold D8 L2;rw [Mo];by_cases h:x.Low=y.Low
  · rw [if_pos h,Bz (by omega) (by omega),Option.bind_some]
    exact ⟨_,rfl,by omega⟩
  · rw [if_neg h,Bz (by omega) (by omega),Option.bind_some]
    exact ⟨_,rfl,by omega⟩
theorem s2_lt {n:Nat} (hn:n≤120) {x y:RX} (hx:RB n x) (hy:RB n y):ltM D8 x y=true↔L2 x y:=by
  obtain ⟨r,e,h⟩:=s2_f hn hx hy;unfold ltM;rw [e,Option.getD_some,decide_eq_true_eq];exact h
theorem s2_ge {n:Nat} (hn:n≤120) {x y:RX} (hx:RB n x) (hy:RB n y):ltM D8 x y=false↔¬ L2 x y:=by
  rw [← s2_lt hn hx hy];simp
theorem fitX {n:Nat} (hn:n≤120) {l:List RX} (h:∀ x∈l,RB n x):CmpFit D8 l where
  some_:=fun x hx y hy=>by obtain ⟨r,e,_⟩:=s2_f hn (h x hx) (h y hy);exact ⟨r,e⟩
  irrefl:=fun x hx=>(s2_ge hn (h x hx) (h x hx)).2 (by unfold L2;omega)
  trans:=fun x hx y hy z hz h1 h2=>(s2_lt hn (h x hx) (h z hz)).2 (by
    have h1:=(s2_lt hn (h x hx) (h y hy)).1 h1;have h2:=(s2_lt hn (h y hy) (h z hz)).1 h2;unfold L2 at *;omega)
  ntrans:=fun x hx y hy z hz h1 h2=>(s2_ge hn (h x hx) (h z hz)).2 (by
    have h1:=(s2_ge hn (h x hx) (h y hy)).1 h1;have h2:=(s2_ge hn (h y hy) (h z hz)).1 h2;unfold L2 at *;omega)
  anti:=fun x hx y hy h1 h2=>by
    have h1:=(s2_ge hn (h x hx) (h y hy)).1 h1;have h2:=(s2_ge hn (h y hy) (h x hx)).1 h2;have e1:=(h x hx).2.2.2;have e2:=(h y hy).2.2.2;obtain ⟨a,b,c⟩:=x;obtain ⟨a',b',c'⟩:=y;simp only at e1 e2;unfold L2 at h1 h2;simp only at h1 h2;have:a=a'∧b=b':=by omega
    rw [this.1,this.2,e1,e2]
def touchB (a b:RX):Bool:=decide (a.High ≥ b.Low) && decide (b.High ≥ a.Low)
def Qu (out:List RX) (r:RX):List RX:=match out.getLast? with
  | Option.none=>[r]
  | some l=>if touchB l r=true then out.dropLast++[⟨l.Low,max l.High r.High,l.Growth⟩] else out++[r]
theorem touch_x (a b:RX):Mk a b=some (touchB a b):=by
  unfold Mk touchB;by_cases h:a.High ≥ b.Low <;> simp [h]
theorem rstep_len (out:List RX) (r:RX):(Qu out r).length≤out.length+1:=by
  unfold Qu;split
  · simp
  · split <;> simp
theorem fold_len:∀ (l out:List RX),(l.foldl Qu out).length≤out.length+l.length
  | [],out=>by simp
  | r::l,out=>by
    have:=fold_len l (Qu out r);have:=rstep_len out r;rw [List.foldl_cons,List.length_cons];omega
theorem rg_loop {ys:List RX} (hl:ys.length≤1000):Dl (fun s=>Da.l1 ys s.1 s.2) (0,[])=some (ys.foldl Qu []):=by
  obtain ⟨r,e,rfl⟩:=Mu (f:=fun s=>Da.l1 ys s.1 s.2) ys.length (fun k s=>s=(ys.take k).foldl Qu []) (fun r=>r=ys.foldl Qu []) (by
    rintro k s hk hs;have hlen:=fold_len (ys.take k) [];rw [← hs,List.length_take,List.length_nil] at hlen
    have hj:∀ w,Da.j2 (k:Int) w=some (.next (((k+1:Nat):Int),w)):=by
      intro w;unfold Da.j2;rw [Bz (by omega) (by omega),Option.bind_some];rfl
    refine ⟨Qu s ys[k],?_,by rw [List.take_succ_eq_append_getElem hk,List.foldl_append,← hs];rfl⟩
    unfold Da.l1;simp only;rw [Av,if_pos (by omega),Cb hk,Option.bind_some]
    unfold Qu;rcases List.eq_nil_or_concat s with rfl | ⟨o,l,rfl⟩
    · rw [Av,if_neg (by simp),Option.bind_some,if_neg Bool.false_ne_true,Ep (by simp),Option.bind_some,hj];rfl
    · rw [List.concat_eq_append] at *;rw [List.length_append,List.length_singleton] at *;have e1:((o.length+1:Nat):Int) - 1=(o.length:Int):=by omega
      have e2:at? (o++[l]) (o.length:Int)=some l:=by rw [Cb (by simp)];simp
      rw [Av,if_pos (by omega),Bz (by omega) (by omega),Option.bind_some,e1,e2,Option.bind_some,touch_x,Option.bind_some,Option.bind_some]
      simp only [List.getLast?_append,List.getLast?_singleton,Option.some_or,List.dropLast_concat];cases ht:touchB l ys[k]
      · rw [if_neg Bool.false_ne_true,if_neg Bool.false_ne_true,Ep (by simp;omega),Option.bind_some,hj]
      · rw [if_pos rfl,if_pos rfl];simp only [e2,Option.bind_some];rw [hj,Int.toNat_natCast]
        simp) (by
    rintro s rfl;unfold Da.l1;simp only;rw [Av,if_neg (by omega),List.take_length]
    exact ⟨_,rfl,rfl⟩) [] rfl
  exact e
noncomputable def regF (P Q:List Hunk):List RX:=((P.map rx++Q.map rx).mergeSort fun x y=>!ltM D8 y x).foldl Qu []
theorem rb_of {t:List ByteArray} {hs:List Hunk} (h:Side t hs):∀ r∈hs.map rx,RB t.length r:=by
  intro r hr;obtain ⟨x,hx,rfl⟩:=List.mem_map.1 hr;obtain ⟨h1,h2,_⟩:=h.ins x hx;exact ⟨h1,by unfold rx;simp only;omega,h2,rfl⟩
theorem rb_both {t:List ByteArray} {P Q:List Hunk} (hP:Side t P) (hQ:Side t Q):∀ r∈P.map rx++Q.map rx,RB t.length r:=by
  intro r hr;rcases List.mem_append.1 hr with hr | hr
  · exact rb_of hP r hr
  · exact rb_of hQ r hr
theorem regions_f {t:List ByteArray} (ht:t.length≤120) {P Q:List Hunk} (hP:Side t P) (hQ:Side t Q):Da ⟨P⟩ ⟨Q⟩=some (regF P Q):=by
  have h1:=hP.len;have h2:=hQ.len;have hm:∀ l:List Hunk,(l.map rng).map Kh=l.map rx:=fun l=>by rw [List.map_map];rfl
  unfold Da;rw [oldRanges_f (by omega) ⟨P⟩ (hP.sm ht),Option.bind_some,oldRanges_f (by omega) ⟨Q⟩ (hQ.sm ht),Option.bind_some]
  simp only;rw [hm,hm,Ep (by simp;omega),Option.bind_some,sortM_eq (fitX ht (rb_both hP hQ)) (by simp;omega),Option.bind_some,rg_loop (Nat.le_trans (Nat.le_of_eq (List.mergeSort_perm _ _).length_eq) (by rw [List.length_append,List.length_map,List.length_map];omega)),Option.bind_some]
  rfl
structure Rgs (n:Nat) (all out:List RX):Prop where
  sep:out.Pairwise fun a b=>a.High < b.Low
  bd:∀ r∈out,0≤r.Low∧r.Low≤r.High∧r.High≤n
  cov:∀ a∈all,∃ r∈out,r.Low≤a.Low∧a.High≤r.High
  len:out.length≤all.length
theorem rgs_fold {n:Nat}:∀ (rest pre out:List RX),Rgs n pre out→(∀ b∈rest,RB n b)→(∀ l,out.getLast? = some l→∀ b∈rest,l.Low≤b.Low)→rest.Pairwise (fun x y=>x.Low≤y.Low)→Rgs n (pre++rest) (rest.foldl Qu out)
  | [],pre,out,h,_,_,_=>by simpa using h
  | r::rest,pre,out,h,hb,hL,hp=>by
    rw [List.pairwise_cons] at hp;obtain ⟨r1,r2,r3,_⟩:=hb r List.mem_cons_self;have hb':∀ b∈rest,RB n b:=fun b hb2=>hb b (List.mem_cons_of_mem _ hb2);have hlen:=h.len;rw [List.foldl_cons,show pre++r::rest=(pre++[r])++rest from by simp]
    rcases List.eq_nil_or_concat out with rfl | ⟨o,l,rfl⟩
    · refine rgs_fold rest _ _ ⟨List.pairwise_singleton _ _,?_,?_,by have:(Qu [] r).length=1:=rfl;rw [List.length_append,List.length_singleton];omega⟩ hb' ?_ hp.2
      · intro x hx;rw [show Qu [] r=[r] from rfl,List.mem_singleton] at hx;subst hx;exact ⟨r1,r2,r3⟩
      · intro a ha;rcases List.mem_append.1 ha with ha | ha
        · obtain ⟨x,hx,_⟩:=h.cov a ha;cases hx
        · rw [List.mem_singleton] at ha;subst ha;exact ⟨a,by rw [show Qu [] a=[a] from rfl];simp,Int.le_refl _,Int.le_refl _⟩
      · intro l hl b hb2;rw [show Qu [] r=[r] from rfl,List.getLast?_singleton] at hl;cases hl;exact hp.1 b hb2
    · rw [List.concat_eq_append] at *;have hgl:(o++[l]).getLast? = some l:=by simp
      have hlr:=hL l hgl r List.mem_cons_self;obtain ⟨l1,l2,l3⟩:=h.bd l (by simp)
      have hsep:=h.sep;rw [List.pairwise_append] at hsep
      have est:Qu (o++[l]) r=if touchB l r=true then o++[⟨l.Low,max l.High r.High,l.Growth⟩] else o++[l]++[r]:=by
        unfold Qu;rw [hgl];simp only [List.dropLast_concat]
      rw [List.length_append,List.length_singleton] at hlen;rw [est];by_cases ht:touchB l r=true
      · rw [if_pos ht];refine rgs_fold rest _ _ ⟨?_,?_,?_,by simp;omega⟩ hb' ?_ hp.2
        · rw [List.pairwise_append];refine ⟨hsep.1,List.pairwise_singleton _ _,fun x hx y hy=>?_⟩;rw [List.mem_singleton] at hy;subst hy;exact hsep.2.2 x hx l (by simp)
        · intro x hx;rcases List.mem_append.1 hx with hx | hx
          · exact h.bd x (List.mem_append_left _ hx)
          · rw [List.mem_singleton] at hx;subst hx;simp only;omega
        · intro a ha;rcases List.mem_append.1 ha with ha | ha
          · obtain ⟨x,hx,c1,c2⟩:=h.cov a ha;rcases List.mem_append.1 hx with hx | hx
            · exact ⟨x,List.mem_append_left _ hx,c1,c2⟩
            · rw [List.mem_singleton] at hx;subst hx;exact ⟨_,List.mem_append_right _ (List.mem_singleton.2 rfl),c1,by simp only;omega⟩
          · rw [List.mem_singleton] at ha;subst ha;exact ⟨_,List.mem_append_right _ (List.mem_singleton.2 rfl),hlr,by simp only;omega⟩
        · intro q hq b hb2;simp only [List.getLast?_append,List.getLast?_singleton,Option.some_or] at hq;cases hq;have:=hp.1 b hb2;simp only;omega
      · rw [if_neg ht]
        have hgap:l.High < r.Low:=by
          unfold touchB at ht;simp only [Bool.and_eq_true,decide_eq_true_eq,not_and] at ht;by_cases h1:l.High ≥ r.Low
          · exact absurd (show r.High ≥ l.Low by omega) (ht h1)
          · omega
        refine rgs_fold rest _ _ ⟨?_,?_,?_,by simp;omega⟩ hb' ?_ hp.2
        · rw [List.pairwise_append];refine ⟨h.sep,List.pairwise_singleton _ _,fun x hx y hy=>?_⟩;rw [List.mem_singleton] at hy;subst hy;rcases List.mem_append.1 hx with hx | hx
          · have:=hsep.2.2 x hx l (by simp);omega
          · rw [List.mem_singleton] at hx;subst hx;exact hgap
        · intro x hx;rcases List.mem_append.1 hx with hx | hx
          · exact h.bd x hx
          · rw [List.mem_singleton] at hx;subst hx;exact ⟨r1,r2,r3⟩
        · intro a ha;rcases List.mem_append.1 ha with ha | ha
          · obtain ⟨x,hx,c⟩:=h.cov a ha;exact ⟨x,List.mem_append_left _ hx,c⟩
          · rw [List.mem_singleton] at ha;subst ha;exact ⟨a,List.mem_append_right _ (List.mem_singleton.2 rfl),Int.le_refl _,Int.le_refl _⟩
        · intro q hq b hb2;simp only [List.getLast?_append,List.getLast?_singleton,Option.some_or] at hq;cases hq;exact hp.1 b hb2
theorem regF_ok {t:List ByteArray} (ht:t.length≤120) {P Q:List Hunk} (hP:Side t P) (hQ:Side t Q):Rgs t.length ((P.map rx++Q.map rx).mergeSort fun x y=>!ltM D8 y x) (regF P Q):=by
  have hperm:=List.mergeSort_perm (P.map rx++Q.map rx) fun x y=>!ltM D8 y x;have hpw:=sortM_pw (fitX ht (rb_both hP hQ));have hrb:=rb_both hP hQ;unfold regF;generalize (P.map rx++Q.map rx).mergeSort (fun x y=>!ltM D8 y x)=ys at hperm hpw;have hb:∀ b∈ys,RB t.length b:=fun b hb=>hrb b (hperm.mem_iff.1 hb)
  have:=rgs_fold (n:=t.length) ys [] [] ⟨List.Pairwise.nil,by simp,by simp,by simp⟩ hb (by simp) (by
    rw [List.pairwise_iff_getElem] at hpw ⊢;intro i j hi hj hij;have h:=(s2_ge ht (hb _ (List.getElem_mem hj)) (hb _ (List.getElem_mem hi))).1 (hpw i j hi hj hij);unfold L2 at h;omega)
  simpa using this
theorem reg_len {t:List ByteArray} (ht:t.length≤120) {P Q:List Hunk} (hP:Side t P) (hQ:Side t Q):(regF P Q).length≤260:=by
  have h1:=(regF_ok ht hP hQ).len;have h2:=(List.mergeSort_perm (P.map rx++Q.map rx) fun x y=>!ltM D8 y x).length_eq;have:=hP.len;have:=hQ.len;rw [List.length_append,List.length_map,List.length_map] at h2;omega
def inB (r:RX) (h:Hunk):Bool:=decide (r.Low≤h.At) && decide (h.At+h.Old.length≤r.High)
def wi (P:List Hunk) (r:RX):List Hunk:=P.filter (inB r)
theorem within_f {t:List ByteArray} (ht:t.length≤120) {P:List Hunk} (hP:Side t P) (r:RX):Dm ⟨P⟩ r=some (wi P r):=by
  have hl:=hP.len;unfold Dm
  obtain ⟨q,e,rfl⟩:=Mu (f:=fun s=>Dm.l1 ⟨P⟩ r s.1 s.2) P.length (fun k s=>s=wi (P.take k) r) (fun q=>q=wi P r) (by
    rintro k s hk rfl;have hlen:(wi (P.take k) r).length≤k:=Nat.le_trans (List.length_filter_le _ _) (by rw [List.length_take];omega)
    have hj:∀ w,Dm.j2 (k:Int) w=some (.next (((k+1:Nat):Int),w)):=by
      intro w;unfold Dm.j2;rw [Bz (by omega) (by omega),Option.bind_some];rfl
    obtain ⟨h1,h2,_⟩:=hP.ins _ (List.getElem_mem hk);refine ⟨_,?_,rfl⟩
    have e:wi (P.take (k+1)) r=wi (P.take k) r++if inB r P[k]=true then [P[k]] else []:=by
      unfold wi;rw [List.take_succ_eq_append_getElem hk,List.filter_append];cases h:inB r P[k] <;> simp [h]
    unfold Dm.l1;simp only;rw [Av,if_pos (by omega),Cb hk,Option.bind_some,end_f _ (by omega) (by omega) (by omega),Option.bind_some]
    have ec:(if decide (P[k].At ≥ r.Low)=true then some (decide (P[k].At+(P[k].Old.length:Int)≤r.High)) else some false)=some (inB r P[k]):=by
      unfold inB;by_cases h:r.Low≤P[k].At <;> simp [h]
    rw [ec,Option.bind_some,e];cases h:inB r P[k]
    · rw [if_neg Bool.false_ne_true,if_neg Bool.false_ne_true,hj,List.append_nil]
    · rw [if_pos rfl,if_pos rfl,Ep (by rw [List.length_singleton];omega),Option.bind_some,hj]) (by
    rintro s rfl;unfold Dm.l1;simp only;rw [Av,if_neg (by omega),List.take_length]
    exact ⟨_,rfl,rfl⟩) [] rfl
  rw [e,Option.bind_some];rfl
def rawIn (t:List ByteArray):List Hunk→Nat→Nat→List ByteArray
  | [],lo,hi=>(t.drop lo).take (hi - lo)
  | h::r,lo,hi=>(t.drop lo).take (h.At.toNat - lo)++(h.New++rawIn t r (h.At.toNat+h.Old.length) hi)
def InR:List Hunk→Nat→Nat→Prop
  | [],lo,hi=>lo≤hi
  | h::r,lo,hi=>(lo:Int)≤h.At∧InR r (h.At.toNat+h.Old.length) hi
theorem InR.le:∀ {hs:List Hunk} {lo hi:Nat},InR hs lo hi→lo≤hi
  | [],_,_,h=>h
  | _::_,_,_,h=>by have:=InR.le h.2;have:=h.1;omega
theorem raw_in {t:List ByteArray} (ht:t.length≤120) {hi:Nat} (hhi:hi≤t.length) (hs:List Hunk) (hn:hs.length≤130) (hnew:∀ h∈hs,h.New.length≤120):∀ (rest:List Hunk) (k lo:Nat) (out:List ByteArray),hs.drop k=rest→InR rest lo hi→out.length≤k * 240→k≤130 →
    ∃ fin:Nat,fin≤hi∧∃ o,Dl (fun s=>Cr.l1 hs t s.1 s.2.1 s.2.2) ((k:Int),out,(lo:Int))=some (o,(fin:Int))∧o++(t.drop fin).take (hi - fin)=out++rawIn t rest lo hi∧o.length≤131 * 240
  | [],k,lo,out,hk,hin,hout,hk2=>by
    have:=Kl hk;refine ⟨lo,hin,out,Bx ?_,rfl,by omega⟩
    unfold Cr.l1;simp only;rw [Av,if_neg (by omega)]
  | h::rest,k,lo,out,hk,hin,hout,hk2=>by
    obtain ⟨hlt,hh,hr⟩:=K8 hk;have hmem:h∈hs:=by rw [← hh];exact List.getElem_mem hlt
    have h1:=hnew h hmem;obtain ⟨c1,c2⟩:=hin;have c3:=c2.le
    have e0:Cr.l1 hs t (k:Int) out (lo:Int)=some (.next (((k+1:Nat):Int),out++(t.drop lo).take (h.At.toNat - lo)++h.New,((h.At.toNat+h.Old.length:Nat):Int))):=by
      unfold Cr.l1;have hc:(((t.take h.At.toNat).drop lo):List ByteArray)=(t.drop lo).take (h.At.toNat - lo):=by rw [List.take_drop];congr 2;omega
      rw [Av,if_pos (by omega),Cb hlt,Option.bind_some,hh,Uv (by omega) (by omega) (by omega),Option.bind_some,Int.toNat_natCast,hc]
      have l1:((t.drop lo).take (h.At.toNat - lo)).length≤120:=by simp;omega
      rw [Ep (by omega),Option.bind_some,Ep (by rw [List.length_append];omega),Option.bind_some,end_f h (by omega) (by omega) (by omega),Option.bind_some,Bz (by omega) (by omega),Option.bind_some]
      have e7:h.At+(h.Old.length:Int)=((h.At.toNat+h.Old.length:Nat):Int):=by omega
      rw [e7];rfl
    obtain ⟨fin,f1,o,f2,f3,f4⟩:=raw_in ht hhi hs hn hnew rest (k+1) (h.At.toNat+h.Old.length) (out++(t.drop lo).take (h.At.toNat - lo)++h.New) hr c2 (by simp only [List.length_append,List.length_take,List.length_drop];omega) (by omega)
    refine ⟨fin,f1,o,by rw [B8 (m:=fun s:Int×List ByteArray×Int=>Cr.l1 hs t s.1 s.2.1 s.2.2) e0];exact f2,?_,f4⟩
    rw [f3,rawIn];simp only [List.append_assoc]
theorem RawIn_f {t:List ByteArray} (ht:t.length≤120) {hs:List Hunk} (hn:hs.length≤130) (hnew:∀ h∈hs,h.New.length≤120) {lo hi:Nat} (hhi:hi≤t.length) (hin:InR hs lo hi):Cr hs t (lo:Int) (hi:Int)=some (rawIn t hs lo hi):=by
  obtain ⟨fin,f1,o,f2,f3,f4⟩:=raw_in ht hhi hs hn hnew hs 0 lo [] rfl hin (by simp) (by omega)
  unfold Cr;rw [show ((0:Nat):Int)=0 from rfl] at f2;rw [f2,Option.bind_some];unfold Cr.j1;have hc:(((t.take hi).drop fin):List ByteArray)=(t.drop fin).take (hi - fin):=by rw [List.take_drop];congr 2;omega
  rw [Uv (by omega) (by omega) (by omega),Option.bind_some,Int.toNat_natCast,Int.toNat_natCast,hc,Ep (by simp;omega),Option.bind_some,f3]
  rfl
theorem wi_in {r:RX} (h0:0≤r.Low):∀ (P:List Hunk) (e:Int) (lo:Nat),Chn e P→(∀ h∈P,0≤h.At)→((lo:Int)≤e+1∨(lo:Int)≤r.Low)→(lo:Int)≤r.High→InR (wi P r) lo r.High.toNat
  | [],e,lo,_,_,_,hr=>by
    show lo≤_;omega
  | h::P,e,lo,hc,hp,hlo,hr=>by
    obtain ⟨c1,c2⟩:=hc;have hp0:=hp h List.mem_cons_self;have hp':∀ x∈P,0≤x.At:=fun x hx=>hp x (List.mem_cons_of_mem _ hx);unfold wi;rw [List.filter_cons];cases hb:inB r h
    · rw [if_neg Bool.false_ne_true];exact wi_in h0 P _ lo c2 hp' (by omega) hr
    · rw [if_pos rfl];unfold inB at hb;simp only [Bool.and_eq_true,decide_eq_true_eq] at hb;exact ⟨by omega,wi_in h0 P _ _ c2 hp' (by omega) (by omega)⟩
theorem rawIn_len (t:List ByteArray):∀ (hs:List Hunk) (lo hi:Nat),(∀ h∈hs,h.New.length≤120)→(rawIn t hs lo hi).length≤(hs.length+1) * (120+t.length)
  | [],lo,hi,_=>by rw [rawIn];simp;omega
  | h::hs,lo,hi,hn=>by
    have:=rawIn_len t hs (h.At.toNat+h.Old.length) hi fun x hx=>hn x (List.mem_cons_of_mem _ hx);have:=hn h List.mem_cons_self;rw [rawIn,List.length_append,List.length_append,List.length_cons,Nat.add_mul];have:((t.drop lo).take (h.At.toNat - lo)).length≤t.length:=by simp;omega
    omega
end Go.Dc
set_option linter.unusedSimpArgs false
set_option linter.unusedVariables false
set_option maxRecDepth 4000
namespace Go.Dc
open Go
def linC (l:List ByteArray):Chunk:=⟨false,l,[],[],[]⟩
def Nb (out:List Chunk) (l:List ByteArray):List Chunk :=
  if l=[] then out else match out.getLast? with
  | Option.none=>[linC l]
  | some c=>if c.Conflict=true then out++[linC l] else out.dropLast++[{ c with Lines:=c.Lines++l }]
structure Csm (k B:Nat) (out:List Chunk):Prop where
  len:out.length≤k
  lin:∀ c∈out,c.Lines.length≤B
  oth:∀ c∈out,c.Base.length≤40000∧c.Left.length≤40000∧c.Right.length≤40000
theorem Csm.le {k B k' B':Nat} {o:List Chunk} (h:Csm k B o) (hk:k≤k') (hB:B≤B'):Csm k' B' o :=
  ⟨Nat.le_trans h.len hk,fun c hc=>Nat.le_trans (h.lin c hc) hB,h.oth⟩
theorem plain_f {k B:Nat} {out:List Chunk} (h:Csm k B out) (hk:k≤100000) (hB:B≤100000000) {l:List ByteArray} (hl:l.length≤40000):Df ⟨out⟩ l=some ⟨Nb out l⟩∧Csm (k+1) (B+l.length) (Nb out l):=by
  have hlen:=h.len;unfold Df Nb;by_cases h0:l=[]
  · subst h0;rw [if_pos (by simp),if_pos rfl]
    exact ⟨rfl,by omega,fun c hc=>by have:=h.lin c hc;omega,h.oth⟩
  rw [if_neg (by simpa using h0),if_neg h0]
  have hj:∀ (o:List Chunk) (c:Chunk),o.length≤100000→c.Lines.length≤100000000→Df.j1 l (o++[c])=some ⟨o++[{ c with Lines:=c.Lines++l }]⟩:=by
    intro o c ho hc;unfold Df.j1;have e1:(((o++[c]).length:Nat):Int) - 1=(o.length:Int):=by rw [List.length_append,List.length_singleton];omega
    have e2:at? (o++[c]) (o.length:Int)=some c:=by rw [Cb (by simp)];simp
    rw [e1,Bz (by omega) (by omega),Option.bind_some,e2,Option.bind_some,Ep (by omega),Option.bind_some,Option.bind_some,Int.toNat_natCast]
    simp
  rcases List.eq_nil_or_concat out with rfl | ⟨o,c,rfl⟩
  · rw [if_pos (by simp),Option.bind_some,if_pos rfl,Ep (by simp),Option.bind_some,hj [] _ (by simp) (by simp)]
    refine ⟨rfl,by simp,fun c hc=>?_,fun c hc=>?_⟩
    · rw [show (([]:List Chunk).getLast?)=Option.none from rfl] at hc;rw [List.mem_singleton] at hc;subst hc;simp only [linC];omega
    · rw [show (([]:List Chunk).getLast?)=Option.none from rfl] at hc;rw [List.mem_singleton] at hc;subst hc;simp [linC]
  · rw [List.concat_eq_append] at *;rw [List.length_append,List.length_singleton] at *;have e1:((o.length+1:Nat):Int) - 1=(o.length:Int):=by omega
    have e2:at? (o++[c]) (o.length:Int)=some c:=by rw [Cb (by simp)];simp
    have hc:=h.lin c (by simp)
    have hco:=h.oth c (by simp)
    have hgl:(o++[c]).getLast? = some c:=by simp
    have ho:∀ x∈o,x.Lines.length≤B:=fun x hx=>h.lin x (List.mem_append_left _ hx);have hoo:∀ x∈o,x.Base.length≤40000∧x.Left.length≤40000∧x.Right.length≤40000:=fun x hx=>h.oth x (List.mem_append_left _ hx);rw [Av,if_neg (by omega),Bz (by omega) (by omega),Option.bind_some,e1,e2,Option.bind_some,Option.bind_some,hgl]
    simp only [List.dropLast_concat];cases hcc:c.Conflict
    · rw [if_neg Bool.false_ne_true,if_neg Bool.false_ne_true,hj o c (by omega) (by omega)]
      refine ⟨by rw [hcc],by rw [List.length_append,List.length_singleton];omega,fun x hx=>?_,fun x hx=>?_⟩
      · rcases List.mem_append.1 hx with hx | hx
        · have:=ho x hx;omega
        · rw [List.mem_singleton] at hx;subst hx;simp only [List.length_append];omega
      · rcases List.mem_append.1 hx with hx | hx
        · exact hoo x hx
        · rw [List.mem_singleton] at hx;subst hx;exact hco
    · rw [if_pos rfl,if_pos rfl,Ep (by rw [List.length_append,List.length_singleton,List.length_singleton];omega),Option.bind_some,hj (o++[c]) _ (by rw [List.length_append,List.length_singleton];omega) (by simp)]
      refine ⟨rfl,by rw [List.length_append,List.length_append,List.length_singleton,List.length_singleton];omega,fun x hx=>?_,fun x hx=>?_⟩
      · rcases List.mem_append.1 hx with hx | hx
        · have:=h.lin x hx;omega
        · rw [List.mem_singleton] at hx;subst hx;simp only [linC];omega
      · rcases List.mem_append.1 hx with hx | hx
        · exact h.oth x hx
        · rw [List.mem_singleton] at hx;subst hx;simp [linC]
def AA (t:List ByteArray) (P:List Hunk) (r:RX):List ByteArray:=rawIn t (wi P r) r.Low.toNat r.High.toNat
def mchk (t:List ByteArray) (P Q:List Hunk):List RX→Nat→List Chunk→List Chunk
  | [],at_,o=>Nb o (t.drop at_)
  | r::R,at_,o =>
    if wi Q r=[]∨AA t P r=AA t Q r then mchk t P Q R r.High.toNat (Nb (Nb o ((t.drop at_).take (r.Low.toNat - at_))) (AA t P r))
    else if wi P r=[] then mchk t P Q R r.High.toNat (Nb (Nb o ((t.drop at_).take (r.Low.toNat - at_))) (AA t Q r))
    else mchk t P Q R r.High.toNat (Nb o ((t.drop at_).take (r.Low.toNat - at_))++[⟨true,[],(t.drop r.Low.toNat).take (r.High.toNat - r.Low.toNat),AA t P r,AA t Q r⟩])
theorem AA_len {t:List ByteArray} (ht:t.length≤120) {P:List Hunk} (hP:Side t P) (r:RX):(AA t P r).length≤40000:=by
  have h1:(wi P r).length≤130:=Nat.le_trans (List.length_filter_le _ _) hP.len;have:=rawIn_len t (wi P r) r.Low.toNat r.High.toNat fun h hh=>(hP.ins h (List.mem_filter.1 hh).1).2.2.1;have:((wi P r).length+1) * (120+t.length)≤131 * 240:=Nat.mul_le_mul (by omega) (by omega)
  unfold AA;omega
theorem AA_f {t:List ByteArray} (ht:t.length≤120) {P:List Hunk} (hP:Side t P) {r:RX} (hr:0≤r.Low∧r.Low≤r.High∧r.High≤t.length):Cr (wi P r) t r.Low r.High=some (AA t P r):=by
  have h1:(wi P r).length≤130:=Nat.le_trans (List.length_filter_le _ _) hP.len;have h2:=wi_in (r:=r) hr.1 P (-1) r.Low.toNat hP.chn (fun h hh=>(hP.ins h hh).1) (by omega) (by omega)
  have:=RawIn_f ht h1 (fun h hh=>(hP.ins h (List.mem_filter.1 hh).1).2.2.1) (lo:=r.Low.toNat) (hi:=r.High.toNat) (by omega) h2
  rw [show ((r.Low.toNat:Nat):Int)=r.Low from by omega,show ((r.High.toNat:Nat):Int)=r.High from by omega] at this
  exact this
theorem len0 {α:Type} (l:List α):decide ((l.length:Int)=0)=decide (l=[]):=decide_eq_decide.2 (by cases l <;> simp <;> omega)
theorem b9 (k n:Nat) (hn:n≤40000):k * 90000+120+n≤(k+1) * 90000:=by omega
theorem merge_loop {t:List ByteArray} (ht:t.length≤120) {P Q:List Hunk} (hP:Side t P) (hQ:Side t Q) {f1 f2:Fault} {R:List RX} (hsep:R.Pairwise fun a b=>a.High < b.Low) (hbd:∀ r∈R,0≤r.Low∧r.Low≤r.High∧r.High≤t.length) (hRl:R.length≤260) :
    ∀ (rest:List RX) (k at_:Nat) (o:List Chunk),R.drop k=rest→(∀ r∈rest,(at_:Int)≤r.Low)→at_≤t.length→Csm (3 * k) (k * 90000) o→k≤260 →
      ∃ (a2:Nat) (o2:List Chunk),Dl (fun s=>C2.l1 t (⟨P⟩,f1) (⟨Q⟩,f2) R s.1 s.2.1 s.2.2) ((k:Int),(at_:Int),o)=some ((a2:Int),o2)∧a2≤t.length∧Csm 1000 30000000 o2∧Nb o2 (t.drop a2)=mchk t P Q rest at_ o
  | [],k,at_,o,hk,_,hat,hc,hk2=>by
    have:=Kl hk;refine ⟨at_,o,Bx ?_,hat,⟨by have:=hc.len;omega,fun c hh=>by have:=hc.lin c hh;have:k * 90000≤260 * 90000:=Nat.mul_le_mul_right _ hk2;omega,hc.oth⟩,rfl⟩
    unfold C2.l1;simp only;rw [Av,if_neg (by omega)]
  | r::rest,k,at_,o,hk,hle,hat,hc,hk2=>by
    obtain ⟨hlt,hh,hr⟩:=K8 hk;have hb:=hbd r (by rw [← hh];exact List.getElem_mem hlt)
    have hlo:=hle r List.mem_cons_self;have hcl:=hc.len;have hkB:k * 90000≤260 * 90000:=Nat.mul_le_mul_right _ hk2
    have hnext:∀ x∈rest,((r.High.toNat:Nat):Int)≤x.Low:=by
      intro x hx;have hd:(R.drop k).Pairwise fun a b=>a.High < b.Low:=hsep.sublist (List.drop_sublist _ _);rw [hk,List.pairwise_cons] at hd;have:=hd.1 x hx;omega
    have hpre:((t.take r.Low.toNat).drop at_)=(t.drop at_).take (r.Low.toNat - at_):=by rw [List.take_drop];congr 2;omega
    have hbase:((t.take r.High.toNat).drop r.Low.toNat)=(t.drop r.Low.toNat).take (r.High.toNat - r.Low.toNat):=by rw [List.take_drop];congr 2;omega
    have l1:((t.drop at_).take (r.Low.toNat - at_)).length≤120:=by simp;omega
    obtain ⟨p1,p20⟩:=plain_f hc (by omega) (by omega) (l:=(t.drop at_).take (r.Low.toNat - at_)) (by omega)
    have p3:Csm (3 * k+1) (k * 90000+120) (Nb o ((t.drop at_).take (r.Low.toNat - at_))):=Csm.le p20 (Nat.le_refl _) (Nat.add_le_add_left l1 _);clear p20;have hk9:k * 90000+120≤100000000:=Nat.le_trans (Nat.add_le_add_right hkB 120) (by decide)
    have h3k:3 * k+1≤100000:=by omega
    generalize hO:Nb o ((t.drop at_).take (r.Low.toNat - at_))=o1 at p1 p3;have lA:=AA_len ht hP r;have lB:=AA_len ht hQ r;have hB9:∀ n,n≤40000→k * 90000+120+n≤(k+1) * 90000:=fun n hn=>b9 k n hn;obtain ⟨q1,q2⟩:=plain_f p3 h3k hk9 lA;obtain ⟨q3,q4⟩:=plain_f p3 h3k hk9 lB
    have hj:∀ w,C2.j2 (k:Int) r.High w=some (.next (((k+1:Nat):Int),((r.High.toNat:Nat):Int),w)):=by
      intro w;unfold C2.j2;rw [Bz (by omega) (by omega),Option.bind_some,show ((r.High.toNat:Nat):Int)=r.High from by omega];rfl
    have key:∀ w,Csm (3 * (k+1)) ((k+1) * 90000) w→C2.l1 t (⟨P⟩,f1) (⟨Q⟩,f2) R (k:Int) (at_:Int) o=some (.next (((k+1:Nat):Int),((r.High.toNat:Nat):Int),w))→mchk t P Q (r::rest) at_ o=mchk t P Q rest r.High.toNat w →
        ∃ (a2:Nat) (o2:List Chunk),Dl (fun s=>C2.l1 t (⟨P⟩,f1) (⟨Q⟩,f2) R s.1 s.2.1 s.2.2) ((k:Int),(at_:Int),o)=some ((a2:Int),o2)∧a2≤t.length∧Csm 1000 30000000 o2∧Nb o2 (t.drop a2)=mchk t P Q (r::rest) at_ o:=by
      intro w hw e1 e2;obtain ⟨a2,o2,g1,g2,g3,g4⟩:=merge_loop ht hP hQ hsep hbd hRl rest (k+1) r.High.toNat w hr hnext (by omega) hw (by omega)
      exact ⟨a2,o2,by rw [B8 (m:=fun s:Int×Int×List Chunk=>C2.l1 t (⟨P⟩,f1) (⟨Q⟩,f2) R s.1 s.2.1 s.2.2) e1];exact g1,g2,g3,by rw [e2];exact g4⟩
    have ho1:=p3.len
    have hstep:C2.l1 t (⟨P⟩,f1) (⟨Q⟩,f2) R (k:Int) (at_:Int) o=if wi Q r=[]∨AA t P r=AA t Q r then some (.next (((k+1:Nat):Int),((r.High.toNat:Nat):Int),Nb o1 (AA t P r)))
        else if wi P r=[] then some (.next (((k+1:Nat):Int),((r.High.toNat:Nat):Int),Nb o1 (AA t Q r)))
        else some (.next (((k+1:Nat):Int),((r.High.toNat:Nat):Int),o1++[⟨true,[],(t.drop r.Low.toNat).take (r.High.toNat - r.Low.toNat),AA t P r,AA t Q r⟩])):=by
      unfold C2.l1;simp only
      rw [Av,if_pos (by omega),Cb hlt,Option.bind_some,hh,Uv (by omega) (by omega) (by omega),Option.bind_some,Int.toNat_natCast,hpre,p1,Option.bind_some,within_f ht hP,Option.bind_some,within_f ht hQ,Option.bind_some,AA_f ht hP hb,Option.bind_some,AA_f ht hQ hb,Option.bind_some,
        U7 _ _ (by omega),Option.bind_some,len0,len0]
      have ec:(if decide (wi Q r=[])=true then some true else some (decide (AA t P r=AA t Q r)))=some (decide (wi Q r=[]∨AA t P r=AA t Q r)):=by
        by_cases h:wi Q r=[] <;> simp [h]
      rw [ec,Option.bind_some,Av,Av,q1,Option.bind_some,q3,Option.bind_some];simp only;rw [hj,hj,Uv (by omega) (by omega) (by omega),Option.bind_some,hbase,clone_f _ (by simp;omega),Option.bind_some,Ep (by rw [List.length_singleton];omega),Option.bind_some,hj]
    by_cases c1:wi Q r=[]∨AA t P r=AA t Q r
    · exact key (Nb o1 (AA t P r)) (Csm.le q2 (by omega) (hB9 _ lA)) (by rw [hstep,if_pos c1]) (by rw [mchk,if_pos c1,hO])
    · by_cases c2:wi P r=[]
      · exact key (Nb o1 (AA t Q r)) (Csm.le q4 (by omega) (hB9 _ lB)) (by rw [hstep,if_neg c1,if_pos c2]) (by rw [mchk,if_neg c1,if_pos c2,hO])
      · refine key (o1++[⟨true,[],(t.drop r.Low.toNat).take (r.High.toNat - r.Low.toNat),AA t P r,AA t Q r⟩]) ⟨by rw [List.length_append,List.length_singleton];omega,fun c hh=>?_,fun c hh=>?_⟩ (by rw [hstep,if_neg c1,if_neg c2]) (by rw [mchk,if_neg c1,if_neg c2,hO])
        · rcases List.mem_append.1 hh with hh | hh
          · exact Nat.le_trans (p3.lin c hh) (Nat.le_trans (Nat.le_add_right _ 0) (hB9 0 (by decide)))
          · rw [List.mem_singleton] at hh;subst hh;simp
        · rcases List.mem_append.1 hh with hh | hh
          · exact p3.oth c hh
          · rw [List.mem_singleton] at hh;subst hh;exact ⟨by simp;omega,lA,lB⟩
noncomputable def chunksF (b l r:List ByteArray):List Chunk:=mchk b (Ht b l) (Ht b r) (regF (Ht b l) (Ht b r)) 0 []
theorem Merge_f {b l r:List ByteArray} (hb:G8 b) (hl:G8 l) (hr:G8 r):C2 b l r=some (chunksF b l r,⟨0,0⟩)∧Csm 1001 40000000 (chunksF b l r):=by
  have ht:=hb.1;have hP:=script_side hb hl;have hQ:=script_side hb hr;have tb:=(Dh b).1 ((E0 b).1 hb);have tl:=(Dh l).1 ((E0 l).1 hl);have tr:=(Dh r).1 ((E0 r).1 hr);have h1:=regF_ok ht hP hQ;obtain ⟨a2,o2,g1,g2,g3,g4⟩:=merge_loop ht hP hQ (f1:=⟨0,0⟩) (f2:=⟨0,0⟩) h1.sep h1.bd (reg_len ht hP hQ) _ 0 0 [] rfl (fun r hr=>(h1.bd r hr).1) (Nat.zero_le _) ⟨by simp,by simp,by simp⟩ (by omega)
  obtain ⟨p1,p2⟩:=plain_f g3 (by omega) (by omega) (l:=b.drop a2) (by simp;omega)
  have e1:Ob b l=some ⟨0,0⟩:=by rw [both_f,if_neg (fun h=>h tb),if_pos tl]
  have e2:H9 r (-3)=some ⟨0,0⟩:=by rw [second_f,if_pos tr]
  have e3:C6 b l=some (⟨Ht b l⟩,⟨0,0⟩):=by rw [script_f,if_neg (fun h=>h tb),if_neg (fun h=>h tl)]
  have e4:C6 b r=some (⟨Ht b r⟩,⟨0,0⟩):=by rw [script_f,if_neg (fun h=>h tb),if_neg (fun h=>h tr)]
  unfold C2;rw [e1,Option.bind_some,if_neg (by simp),e2,Option.bind_some,if_neg (by simp),e3,Option.bind_some,e4,Option.bind_some]
  simp only;rw [regions_f ht hP hQ,Option.bind_some];rw [show ((0:Nat):Int)=0 from rfl] at g1;rw [g1,Option.bind_some];unfold C2.j1;simp only;rw [Uv (by omega) (by omega) (by omega),Option.bind_some,Int.toNat_natCast,Int.toNat_natCast,List.take_length,p1,Option.bind_some,g4]
  rw [g4] at p2;have:(b.drop a2).length≤120:=by simp;omega
  exact ⟨rfl,Csm.le p2 (by omega) (by omega)⟩
theorem check_l2 (k:Int) (c:Chunk):∃ r,Dl (fun s=>B1.l2 k c s) 0=some r∧((r=.inr ()∧(Bq c.Lines).Code=0)∨(∃ f,r=.inl f∧f.Code≠0))∧((Bq c.Lines).Code=0→(Bq c.Base).Code=0→(Bq c.Left).Code=0→(Bq c.Right).Code=0→r=.inr ()):=by
  have st:∀ (j:Nat) (l:List ByteArray),j < 4→[c.Lines,c.Base,c.Left,c.Right][j]? = some l→B1.l2 k c (j:Int)=if (Bq l).Code=0 then some (.next ((j:Int)+1)) else some (.done (.inl ⟨(Bq l).Code,k⟩)):=by
    intro j l hj hl;unfold B1.l2;rw [Av,if_pos (by omega),show at? [c.Lines,c.Base,c.Left,c.Right] (j:Int)=some l from by unfold at?;rw [if_pos (by omega)];simpa using hl,Option.bind_some,second_f,Option.bind_some]
    by_cases h:(Bq l).Code=0
    · rw [if_pos h,if_pos h,if_neg (by simp),Bz (by omega) (by omega),Option.bind_some]
    · rw [if_neg h,if_neg h,if_pos (by simp [h])]
  have s0:=st 0 c.Lines (by omega) rfl
  have s1:=st 1 c.Base (by omega) rfl
  have s2:=st 2 c.Left (by omega) rfl
  have s3:=st 3 c.Right (by omega) rfl
  have s4:B1.l2 k c 4=some (.done (.inr ())):=by unfold B1.l2;rw [Av,if_neg (by decide)]
  rw [show ((0:Nat):Int)=0 from rfl,show (0:Int)+1=1 from rfl] at s0;rw [show ((1:Nat):Int)=1 from rfl,show (1:Int)+1=2 from rfl] at s1;rw [show ((2:Nat):Int)=2 from rfl,show (2:Int)+1=3 from rfl] at s2;rw [show ((3:Nat):Int)=3 from rfl,show (3:Int)+1=4 from rfl] at s3;by_cases h0:(Bq c.Lines).Code=0
  case neg=>rw [if_neg h0] at s0;exact ⟨_,Bx s0,.inr ⟨_,rfl,h0⟩,fun h=>absurd h h0⟩
  rw [if_pos h0] at s0;rw [B8 s0];by_cases h1:(Bq c.Base).Code=0
  case neg=>rw [if_neg h1] at s1;exact ⟨_,Bx s1,.inr ⟨_,rfl,h1⟩,fun _ h=>absurd h h1⟩
  rw [if_pos h1] at s1;rw [B8 s1];by_cases h2:(Bq c.Left).Code=0
  case neg=>rw [if_neg h2] at s2;exact ⟨_,Bx s2,.inr ⟨_,rfl,h2⟩,fun _ _ h=>absurd h h2⟩
  rw [if_pos h2] at s2;rw [B8 s2];by_cases h3:(Bq c.Right).Code=0
  case neg=>rw [if_neg h3] at s3;exact ⟨_,Bx s3,.inr ⟨_,rfl,h3⟩,fun _ _ _ h=>absurd h h3⟩
  rw [if_pos h3] at s3;rw [B8 s3];exact ⟨_,Bx s4,.inl ⟨rfl,h0⟩,fun _ _ _ _=>rfl⟩
theorem check_tot {k B:Nat} {o:List Chunk} (h:Csm k B o) (hk:k≤100000) (hB:B≤100000000):∃ f,B1 o=some f∧(f=⟨0,0⟩∨f.Code≠0)∧(f=⟨0,0⟩→∀ c∈o,(Bq c.Lines).Code=0):=by
  have hl:=h.len;unfold B1;rw [Av];by_cases h1:(o.length:Int) > 240
  · rw [if_pos h1];exact ⟨_,rfl,.inr (by decide),fun h=>by cases h⟩
  rw [if_neg h1]
  have key:∀ (d k:Nat),k+d=o.length→(∀ j (hj:j < o.length),j < k→(Bq o[j].Lines).Code=0)→∃ r,Dl (fun s=>B1.l1 o s) (k:Int)=some r∧((r=.inr ()∧∀ c∈o,(Bq c.Lines).Code=0)∨∃ f,r=.inl f∧f.Code≠0):=by
    intro d
    induction d with
    | zero =>
      intro k hk hpre;refine ⟨_,Bx (r:=.inr ()) ?_,.inl ⟨rfl,fun c hc=>?_⟩⟩
      · unfold B1.l1;rw [Av,if_neg (by omega)]
      · obtain ⟨j,hj,rfl⟩:=List.getElem_of_mem hc;exact hpre j hj (by omega)
    | succ d ih =>
      intro k hk hpre;have hlt:k < o.length:=by omega
      obtain ⟨r,e,hr,_⟩:=check_l2 (k:Int) o[k];have hc:=h.lin _ (List.getElem_mem hlt);have ho:=h.oth _ (List.getElem_mem hlt);rcases hr with ⟨rfl,h0⟩ | ⟨f,rfl,hf⟩
      · have hs:B1.l1 o (k:Int)=some (.next (((k+1:Nat):Int)))∨∃ f,B1.l1 o (k:Int)=some (.done (.inl f))∧f.Code≠0:=by
          unfold B1.l1;rw [Av,if_pos (by omega),Cb hlt,Option.bind_some,e,Option.bind_some]
          simp only;unfold B1.j3;rw [Bz (by omega) (by omega),Option.bind_some,Bz (by omega) (by omega),Option.bind_some]
          have hb:∃ z:Bool,((if o[k].Conflict=true then some (decide ((o[k].Lines.length:Int) > 0)) else some false).bind fun x3=>(if x3=true then some true else (if (!o[k].Conflict)=true then (if decide ((o[k].Lines.length:Int)=0)=true then some true else some (decide ((o[k].Base.length:Int)+(o[k].Left.length:Int)+(o[k].Right.length:Int) > 0))).bind fun x6=>some x6 else some false).bind fun x5=>some x5))=some z:=by
            generalize decide ((o[k].Lines.length:Int) > 0)=z1;generalize decide ((o[k].Lines.length:Int)=0)=z2;generalize decide ((o[k].Base.length:Int)+(o[k].Left.length:Int)+(o[k].Right.length:Int) > 0)=z3;cases o[k].Conflict <;> cases z1 <;> cases z2 <;> cases z3 <;> exact ⟨_,rfl⟩
          obtain ⟨z,hz⟩:=hb;rw [← Option.bind_assoc,hz,Option.bind_some];cases z
          · rw [if_neg Bool.false_ne_true];unfold B1.j2;rw [Bz (by omega) (by omega),Option.bind_some]
            exact .inl rfl
          · rw [if_pos rfl];exact .inr ⟨_,rfl,by simp⟩
        rcases hs with hs | ⟨f,hs,hf⟩
        · rw [B8 hs];refine ih (k+1) (by omega) fun j hj hjk=>?_
          rcases Nat.lt_or_eq_of_le (Nat.le_of_lt_succ hjk) with h2 | h2
          · exact hpre j hj h2
          · subst h2;exact h0
        · exact ⟨_,Bx hs,.inr ⟨f,rfl,hf⟩⟩
      · refine ⟨_,Bx (r:=.inl f) ?_,.inr ⟨f,rfl,hf⟩⟩;unfold B1.l1;rw [Av,if_pos (by omega),Cb hlt,Option.bind_some,e,Option.bind_some]
  obtain ⟨r,e,hr⟩:=key o.length 0 (by omega) (fun _ _ h=>absurd h (by omega))
  rw [show ((0:Nat):Int)=0 from rfl] at e;rw [e,Option.bind_some];rcases hr with ⟨rfl,h2⟩ | ⟨f,rfl,hf⟩
  · exact ⟨_,rfl,.inl rfl,fun _=>h2⟩
  · exact ⟨f,rfl,.inr hf,fun hh=>by rw [hh] at hf;exact absurd rfl hf⟩
theorem clean_tot {k B:Nat} {o:List Chunk} (h:Csm k B o) (hk:k≤1100) (hB:B≤100000000):∃ s ok f,Ey o=some (s,ok,f)∧(ok=true→G8 s):=by
  have hl:=h.len;obtain ⟨f,e,hf,hok⟩:=check_tot h (by omega) hB
  unfold Ey;rw [e,Option.bind_some];rcases hf with rfl | hf
  · rw [if_neg (by simp)]
    have hlines:∀ c∈o,∀ s∈c.Lines,OkLine s:=fun c hc=>((E0 _).2 ((Dh _).2 (hok rfl c hc))).2
    obtain ⟨r,e2,hr⟩:=inv_loopE (f:=fun s=>Ey.l1 o s.1 s.2) 0 o.length (Nat.zero_le _) (fun i s=>s.length≤i * 100000000∧∀ x∈s,OkLine x) (fun r=>r=.inl ([],false,⟨0,0⟩)∨∃ s,r=.inr s∧∀ x∈s,OkLine x) (by
      rintro i s _ hi ⟨g1,g2⟩;have hlin:=h.lin _ (List.getElem_mem hi);unfold Ey.l1;simp only;rw [Av,if_pos (by omega),Cb hi,Option.bind_some]
      cases hcc:o[i].Conflict
      · left;have:i * 100000000≤1100 * 100000000:=Nat.mul_le_mul_right _ (by omega)
        rw [if_neg Bool.false_ne_true,Ep (by omega),Option.bind_some,Bz (by omega) (by omega),Option.bind_some]
        refine ⟨_,rfl,by rw [List.length_append];omega,fun x hx=>?_⟩
        rcases List.mem_append.1 hx with hx | hx
        · exact g2 x hx
        · exact hlines _ (List.getElem_mem hi) x hx
      · right;rw [if_pos rfl];exact ⟨_,rfl,.inl rfl⟩) (by
      rintro s ⟨_,g2⟩;unfold Ey.l1;simp only;rw [Av,if_neg (by omega)]
      exact ⟨_,rfl,.inr ⟨s,rfl,g2⟩⟩) [] ⟨by simp,by simp⟩
    rw [show ((0:Nat):Int)=0 from rfl] at e2;rw [e2,Option.bind_some];rcases hr with rfl | ⟨s,rfl,hs⟩
    · exact ⟨_,_,_,rfl,fun hh=>by cases hh⟩
    · simp only;unfold Ey.j1 Tm;rw [Av];by_cases h120:s.length > 120
      · rw [if_pos (by omega),Option.bind_some]
        exact ⟨_,_,_,rfl,fun hh=>by simp at hh⟩
      · rw [if_neg (by omega),Option.bind_some]
        exact ⟨_,_,_,rfl,fun _=>⟨(by omega:s.length≤120),hs⟩⟩
  · rw [if_pos (by simp [hf])]
    exact ⟨_,_,_,rfl,fun hh=>by cases hh⟩
end Go.Dc
set_option linter.unusedSimpArgs false
set_option linter.unusedVariables false
set_option maxRecDepth 4000
noncomputable section
namespace Go.Dc
open Go
abbrev OT:=Option (List ByteArray)
def ver:OT→Version_treecommute
  | Option.none=>⟨false,[]⟩
  | some l=>⟨true,l⟩
def OkO (o:OT):Prop:=∀ l,o=some l→G8 l
def lk (l:List File) (p:ByteArray):OT:=if Gc l p=true then (l[E5 l p]?).map (·.Lines) else Option.none
theorem lk_some {l:List File} (h:Ka l) {p:ByteArray} {L:List ByteArray}:lk l p=some L↔(⟨p,L⟩:File)∈l:=by
  unfold lk;constructor
  · intro e;by_cases hh:Gc l p=true
    · rw [if_pos hh] at e;obtain ⟨hp,e2⟩:=Uj h hh;rw [List.getElem?_eq_getElem hp,Option.map_some] at e;have e3:=Option.some.inj e;have hm:=List.getElem_mem hp
      have:l[E5 l p]=⟨p,L⟩:=by
        generalize l[E5 l p]=f at e2 e3;obtain ⟨a,b⟩:=f;simp only at e2 e3;rw [e2,e3]
      rw [this] at hm;exact hm
    · rw [if_neg hh] at e;cases e
  · intro hm;obtain ⟨hp,h1,h2⟩:=mem_has h hm;rw [if_pos h1,List.getElem?_eq_getElem hp,h2];rfl
theorem lk_none {l:List File} (h:Ka l) {p:ByteArray}:lk l p=Option.none↔Gc l p=false:=by
  unfold lk;cases hh:Gc l p
  · simp
  · rw [if_pos rfl];obtain ⟨hp,_⟩:=Uj h hh;rw [List.getElem?_eq_getElem hp];simp
theorem Qm {l:List File} {p:ByteArray}:Gc l p=true↔∃ f∈l,f.Path=p:=by
  unfold Gc;rw [List.any_eq_true];exact ⟨fun ⟨f,h1,h2⟩=>⟨f,h1,by simpa using h2⟩,fun ⟨f,h1,h2⟩=>⟨f,h1,by simpa using h2⟩⟩
theorem lk_ok {l:List File} (h:TrOk l) (p:ByteArray):OkO (lk l p):=fun L e=>h.text _ ((lk_some h.srt).1 e)
theorem tcfind_f {l:List File} (h:TrOk l) (p:ByteArray):Hd ⟨l⟩ p=some (ver (lk l p)):=by
  have hl:=h.len;unfold Hd lk;rw [Find_f h.srt (by omega),Option.bind_some]
  simp only;cases hh:Gc l p
  · rfl
  · obtain ⟨hp,_⟩:=Uj h.srt hh;rw [if_neg (by decide),Cb hp,Option.bind_some,if_pos rfl,List.getElem?_eq_getElem hp];rfl
theorem same_f {a b:OT} (ha:OkO a) (hb:OkO b):H0 (ver a) (ver b)=some (decide (a=b)):=by
  unfold H0;cases a with
  | none =>
    cases b with
    | none =>
      have e:=U7 [] [] (by simp)
      simp [ver,e]
    | some y=>simp [ver]
  | some x =>
    cases b with
    | none=>simp [ver]
    | some y =>
      have:=(ha x rfl).1;have e:=U7 x y (by omega)
      simp [ver,e]
def unv (v:Version_treecommute):OT:=if v.is=true then some v.lines else Option.none
def mgO (b l r:OT):OT×Bool:=((D2 (ver b) (ver l) (ver r)).map fun y=>(unv y.1,y.2)).getD (Option.none,false)
theorem unv_ver (o:OT):unv (ver o)=o:=by cases o <;> rfl
theorem merged_x {b l r:OT} (hb:OkO b) (hl:OkO l) (hr:OkO r):∃ o k,D2 (ver b) (ver l) (ver r)=some (ver o,k)∧OkO o∧((r=b∨r=l)→o=l∧k=true)∧(¬ (r=b∨r=l)→l=b→o=r∧k=true):=by
  unfold D2;rw [same_f hr hb,Option.bind_some,same_f hr hl,Option.bind_some];have e1:(if decide (r=b)=true then some true else some (decide (r=l)))=some (decide (r=b∨r=l)):=by by_cases h:r=b <;> simp [h]
  rw [e1,Option.bind_some,Av];by_cases h1:r=b∨r=l
  · rw [if_pos h1];exact ⟨l,true,rfl,hl,fun _=>⟨rfl,rfl⟩,fun h=>absurd h1 h⟩
  rw [if_neg h1,same_f hl hb,Option.bind_some,Av];by_cases h2:l=b
  · rw [if_pos h2];exact ⟨r,true,rfl,hr,fun h=>absurd h h1,fun _ _=>⟨rfl,rfl⟩⟩
  rw [if_neg h2];have fin:∃ o k,D2.j1 (ver l)=some (ver o,k)∧OkO o∧((r=b∨r=l)→o=l∧k=true)∧(¬ (r=b∨r=l)→l=b→o=r∧k=true):=⟨l,false,rfl,hl,fun h=>absurd h h1,fun _ h=>absurd h h2⟩;cases b with
  | none=>exact fin
  | some x =>
    cases l with
    | none=>exact fin
    | some y =>
      cases r with
      | none=>exact fin
      | some z =>
        have ox:=hb x rfl;have oy:=hl y rfl;have oz:=hr z rfl;obtain ⟨m1,m2⟩:=Merge_f ox oy oz;obtain ⟨s,ok,f,e,hc⟩:=clean_tot m2 (by omega) (by omega)
        simp only [ver,if_true,Option.bind_some];rw [m1,Option.bind_some];simp only [decide_true,Bool.and_self,if_true];rw [e,Option.bind_some];simp only;by_cases hk:ok=true
        · subst hk;simp only [if_true,Option.bind_some];by_cases hz:(decide (f.Code=0) && decide (f.Index=0))=true
          · rw [if_pos hz];exact ⟨some s,true,rfl,fun L h=>by cases h;exact hc rfl,fun h=>absurd h h1,fun _ h=>absurd h h2⟩
          · rw [if_neg hz];exact fin
        · rw [if_neg hk,Option.bind_some,if_neg Bool.false_ne_true];exact fin
theorem merged_f {b l r:OT} (hb:OkO b) (hl:OkO l) (hr:OkO r):D2 (ver b) (ver l) (ver r)=some (ver (mgO b l r).1,(mgO b l r).2)∧OkO (mgO b l r).1:=by
  obtain ⟨o,k,e,h,_⟩:=merged_x hb hl hr;have:mgO b l r=(o,k):=by unfold mgO;rw [e];simp [unv_ver]
  rw [this];exact ⟨e,h⟩
theorem mgO_l {b l r:OT} (hb:OkO b) (hl:OkO l) (hr:OkO r) (h:r=b∨r=l):mgO b l r=(l,true):=by
  obtain ⟨o,k,e,_,h1,_⟩:=merged_x hb hl hr;obtain ⟨rfl,rfl⟩:=h1 h;unfold mgO;rw [e];simp [unv_ver]
theorem mgO_r {b l r:OT} (hb:OkO b) (hl:OkO l) (hr:OkO r) (h:¬ (r=b∨r=l)) (h2:l=b):mgO b l r=(r,true):=by
  obtain ⟨o,k,e,_,_,h1⟩:=merged_x hb hl hr;obtain ⟨rfl,rfl⟩:=h1 h h2;unfold mgO;rw [e];simp [unv_ver]
def lastF (p:TreePatch) (path:ByteArray):Int:=(Ck p path).getD (-1)
theorem last_f {p:TreePatch} (hp:∀ c∈p.Changes,OkCh c) (hl:p.Changes.length≤30) {path:ByteArray} (hs:path.size≤1000000) :
    Ck p path=some (lastF p path)∧((lastF p path = -1∧∀ c∈p.Changes,touB path c=false)∨∃ k,∃ h:k < p.Changes.length,lastF p path=(k:Int)∧touB path p.Changes[k]=true):=by
  have key:∀ k,k≤p.Changes.length→(∀ j (h:j < p.Changes.length),k≤j→touB path p.Changes[j]=false) →
      ∃ r,Dl (fun s=>Ck.l1 p path s) ((k:Int) - 1)=some r∧((r=.inr ()∧∀ c∈p.Changes,touB path c=false)∨∃ j,∃ h:j < p.Changes.length,r=.inl (j:Int)∧touB path p.Changes[j]=true):=by
    intro k
    induction k with
    | zero =>
      intro _ h;refine ⟨.inr (),Bx ?_,.inl ⟨rfl,fun c hc=>?_⟩⟩
      · unfold Ck.l1;rw [Av,if_neg (by omega)]
      · obtain ⟨j,hj,rfl⟩:=List.getElem_of_mem hc;exact h j hj (Nat.zero_le _)
    | succ k ih =>
      intro hk h;have hlt:k < p.Changes.length:=by omega
      have e1:((k+1:Nat):Int) - 1=(k:Int):=by omega
      rw [e1]
      have hs1:Ck.l1 p path (k:Int)=if touB path p.Changes[k]=true then some (.done (.inl (k:Int))) else some (.next ((k:Int) - 1)):=by
        unfold Ck.l1;rw [Av,if_pos (by omega),Cb hlt,Option.bind_some,touches_f hs (hp _ (List.getElem_mem hlt)).size,Option.bind_some]
        split
        · rfl
        · rw [Bz (by omega) (by omega),Option.bind_some]
      by_cases ht:touB path p.Changes[k]=true
      · rw [if_pos ht] at hs1;exact ⟨_,Bx hs1,.inr ⟨k,hlt,rfl,ht⟩⟩
      · rw [if_neg ht] at hs1;rw [B8 hs1];refine ih (by omega) fun j hj hkj=>?_
        rcases Nat.lt_or_eq_of_le hkj with h2 | h2
        · exact h j hj h2
        · subst h2;simpa using ht
  obtain ⟨r,e,hr⟩:=key p.Changes.length (Nat.le_refl _) fun j hj h=>by omega
  have e0:∃ x,Ck p path=some x∧((x = -1∧∀ c∈p.Changes,touB path c=false)∨∃ j,∃ h:j < p.Changes.length,x=(j:Int)∧touB path p.Changes[j]=true):=by
    unfold Ck;rw [Bz (by omega) (by omega),Option.bind_some,e,Option.bind_some]
    rcases hr with ⟨rfl,h2⟩ | ⟨j,hj,rfl,h2⟩
    · exact ⟨_,rfl,.inl ⟨rfl,h2⟩⟩
    · exact ⟨_,rfl,.inr ⟨j,hj,rfl,h2⟩⟩
  obtain ⟨x,e1,h1⟩:=e0;have ex:lastF p path=x:=by unfold lastF;rw [e1];rfl
  rw [ex];exact ⟨e1,h1⟩
def E2 (l:List File):List ByteArray:=l.map (·.Path)
theorem prow_f (t:FileTree) (hl:t.Files.length≤1000) (acc:List ByteArray) (ha:acc.length≤10000) :
    Dl (fun s=>Bo.l2 t s.1 s.2) (0,acc)=some (acc++E2 t.Files):=by
  obtain ⟨r,e,rfl⟩:=Mu (f:=fun s=>Bo.l2 t s.1 s.2) t.Files.length (fun k x=>x=acc++E2 (t.Files.take k)) (fun x=>x=acc++E2 t.Files) (by
    rintro k x hk rfl;unfold Bo.l2;simp only;have hlen:(E2 (t.Files.take k)).length=k:=by unfold E2;rw [List.length_map,List.length_take];omega
    refine ⟨_,?_,rfl⟩;rw [Av,if_pos (by omega),Cb hk,Option.bind_some,Ep (by simp only [List.length_append,hlen,List.length_singleton];omega),Option.bind_some,Bz (by omega) (by omega),Option.bind_some]
    unfold E2;rw [List.take_succ_eq_append_getElem hk,List.map_append,List.append_assoc];rfl) (by
    rintro x rfl;unfold Bo.l2;simp only;rw [Av,if_neg (by omega),List.take_length]
    exact ⟨_,rfl,rfl⟩) acc (by simp [E2])
  exact e
theorem all_f3 {a b c:FileTree} (ha:a.Files.length≤24) (hb:b.Files.length≤24) (hc:c.Files.length≤24):Bo [a,b,c]=some (ksort (E2 a.Files++E2 b.Files++E2 c.Files)):=by
  have la:(E2 a.Files).length≤24:=by unfold E2;rw [List.length_map];exact ha
  have lb:(E2 b.Files).length≤24:=by unfold E2;rw [List.length_map];exact hb
  have lc:(E2 c.Files).length≤24:=by unfold E2;rw [List.length_map];exact hc
  have st:∀ (j:Nat) (t:FileTree) (acc:List ByteArray),j < 3→[a,b,c][j]? = some t→t.Files.length≤24→acc.length≤100→Bo.l1 [a,b,c] (j:Int) acc=some (.next ((j:Int)+1,acc++E2 t.Files)):=by
    intro j t acc hj ht hl hacc;unfold Bo.l1;rw [Av,if_pos (by simp;omega),show at? [a,b,c] (j:Int)=some t from by unfold at?;rw [if_pos (by omega)];simpa using ht,Option.bind_some,prow_f _ (by omega) _ (by omega),Option.bind_some]
    unfold Bo.j3 Bo.j2;rw [Bz (by omega) (by omega),Option.bind_some]
  have s0:=st 0 a [] (by omega) rfl ha (by simp)
  have s1:=st 1 b (E2 a.Files) (by omega) rfl hb (by omega)
  have s2:=st 2 c (E2 a.Files++E2 b.Files) (by omega) rfl hc (by rw [List.length_append];omega)
  rw [show ((0:Nat):Int)=0 from rfl,show (0:Int)+1=1 from rfl,List.nil_append] at s0;rw [show ((1:Nat):Int)=1 from rfl,show (1:Int)+1=2 from rfl] at s1;rw [show ((2:Nat):Int)=2 from rfl,show (2:Int)+1=3 from rfl] at s2;have s3:∀ x,Bo.l1 [a,b,c] 3 x=some (.done x):=by intro x;unfold Bo.l1;rw [Av,if_neg (by simp)]
  unfold Bo
  rw [B8 (m:=fun s:Int×List ByteArray=>Bo.l1 [a,b,c] s.1 s.2) s0,B8 (m:=fun s:Int×List ByteArray=>Bo.l1 [a,b,c] s.1 s.2) s1,B8 (m:=fun s:Int×List ByteArray=>Bo.l1 [a,b,c] s.1 s.2) s2,
    Bx (m:=fun s:Int×List ByteArray=>Bo.l1 [a,b,c] s.1 s.2) (s3 _),Option.bind_some]
  unfold Bo.j1;have hl3:(E2 a.Files++E2 b.Files++E2 c.Files).length≤72:=by rw [List.length_append,List.length_append];omega
  have hs:sortS? (E2 a.Files++E2 b.Files++E2 c.Files)=some (Tb (E2 a.Files++E2 b.Files++E2 c.Files)):=by
    unfold sortS?;rw [if_pos (by omega)]
  rw [hs,Option.bind_some,scompact_f (by rw [(sortS_perm _).length_eq];omega),Option.bind_some];rfl
theorem pathsL_mem {l:List File} {p:ByteArray}:p∈E2 l↔Gc l p=true:=by
  rw [Qm];unfold E2;rw [List.mem_map]
section
variable (B L R : List File)
def vF (p:ByteArray):OT×Bool:=mgO (lk B p) (lk L p) (lk R p)
def outO (p:ByteArray):Option File:=match (vF B L R p).1,lk L p with
  | some v,some _=>some ⟨p,v⟩
  | _,_=>Option.none
def Uf (p:ByteArray):Option File:=match (vF B L R p).1,lk L p with
  | some v,Option.none=>some ⟨p,v⟩
  | _,_=>Option.none
def fstO (left right:TreePatch) (p:ByteArray):Option Arr2_Int:=if (vF B L R p).2=true then Option.none else some ⟨lastF left p,lastF right p⟩
end
theorem fm_snoc {α β:Type} (f:α→Option β) (l:List α) (x:α):(l++[x]).filterMap f=l.filterMap f++(f x).toList:=by
  rw [List.filterMap_append];cases h:f x <;> simp [List.filterMap,h]
theorem fm_path {f:ByteArray→Option File} (hf:∀ p x,f p=some x→x.Path=p):∀ {l:List ByteArray},SAsc l→Ka (l.filterMap f)
  | [],_=>List.Pairwise.nil
  | p::l,h=>by
    have h1:l.Pairwise fun x y=>sLt x y=true:=(List.pairwise_cons.1 h).2;have ih:=fm_path hf (l:=l) h1;cases e:f p with
    | none=>rw [List.filterMap_cons_none e];exact ih
    | some x =>
      rw [List.filterMap_cons_some e];refine List.pairwise_cons.2 ⟨fun y hy=>?_,ih⟩;obtain ⟨q,hq,hqy⟩:=List.mem_filterMap.1 hy;rw [hf p x e,hf q y hqy];exact (List.pairwise_cons.1 h).1 q hq
theorem outO_path (B L R:List File):∀ p x,outO B L R p=some x→x.Path=p:=by
  intro p x h;unfold outO at h;split at h
  · cases h;rfl
  · cases h
theorem Vf (B L R:List File):∀ p x,Uf B L R p=some x→x.Path=p:=by
  intro p x h;unfold Uf at h;split at h
  · cases h;rfl
  · cases h
theorem put_end {l:List File} (h:Ka l) (hl:l.length≤1000) {p:ByteArray} (hp:∀ f∈l,sLt f.Path p=true) {t:List ByteArray} (ht:t.length≤1000000):Eu ⟨l⟩ p t=some ⟨l++[⟨p,t⟩]⟩:=by
  have hn:Gc l p=false:=by
    cases hh:Gc l p
    · rfl
    · obtain ⟨f,hf,e⟩:=Qm.1 hh;have:=hp f hf;rw [e,N4] at this;cases this
  rw [Put_f h hl hn ht,ins_end hp]
theorem walk_f {B L R:List File} (hB:TrOk B) (hL:TrOk L) (hR:TrOk R) {left right:TreePatch} (hcl:∀ c∈left.Changes,OkCh c) (hll:left.Changes.length≤30) (hcr:∀ c∈right.Changes,OkCh c) (hrl:right.Changes.length≤30) {fl fr:Fault}
    {K:List ByteArray} (hK:SAsc K) (hKl:K.length≤100) (hKs:∀ p∈K,p.size≤60) :
    Dl (fun s=>Ap.l3 ⟨B⟩ left right (⟨L⟩,fl) (⟨R⟩,fr) K s.1 s.2.1 s.2.2.1 s.2.2.2) (0,[],[],[])=some (K.filterMap (fstO B L R left right),K.filterMap (Uf B L R),K.filterMap (outO B L R),R):=by
  obtain ⟨r,e,rfl⟩:=Mu (f:=fun s=>Ap.l3 ⟨B⟩ left right (⟨L⟩,fl) (⟨R⟩,fr) K s.1 s.2.1 s.2.2.1 s.2.2.2) K.length
    (fun k s=>s=((K.take k).filterMap (fstO B L R left right),(K.take k).filterMap (Uf B L R),(K.take k).filterMap (outO B L R)))
    (fun r=>r=(K.filterMap (fstO B L R left right),K.filterMap (Uf B L R),K.filterMap (outO B L R),R)) (by
    rintro k s hk rfl;have hsz:=hKs _ (List.getElem_mem hk);have hKt:SAsc (K.take k):=List.Pairwise.sublist (List.take_sublist _ _) hK
    have hlt:∀ q∈K.take k,sLt q K[k]=true:=by
      intro q hq;obtain ⟨j,hj,rfl⟩:=List.getElem_of_mem hq;rw [List.length_take] at hj;rw [List.getElem_take];exact (List.pairwise_iff_getElem.1 hK) j k (by omega) hk (by omega)
    have so:=fm_path (outO_path B L R) hKt;have sl:=fm_path (Vf B L R) hKt;have lo:((K.take k).filterMap (outO B L R)).length≤k:=Nat.le_trans (List.length_filterMap_le _ _) (by rw [List.length_take];omega)
    have ll:((K.take k).filterMap (Uf B L R)).length≤k:=Nat.le_trans (List.length_filterMap_le _ _) (by rw [List.length_take];omega)
    have lf:((K.take k).filterMap (fstO B L R left right)).length≤k:=Nat.le_trans (List.length_filterMap_le _ _) (by rw [List.length_take];omega)
    have po:∀ f∈(K.take k).filterMap (outO B L R),sLt f.Path K[k]=true:=by
      intro f hf;obtain ⟨q,hq,e⟩:=List.mem_filterMap.1 hf;rw [outO_path B L R q f e];exact hlt q hq
    have pl:∀ f∈(K.take k).filterMap (Uf B L R),sLt f.Path K[k]=true:=by
      intro f hf;obtain ⟨q,hq,e⟩:=List.mem_filterMap.1 hf;rw [Vf B L R q f e];exact hlt q hq
    refine ⟨_,?_,rfl⟩;rw [List.take_succ_eq_append_getElem hk,fm_snoc,fm_snoc,fm_snoc];generalize (K.take k).filterMap (outO B L R)=o at so lo po;generalize (K.take k).filterMap (Uf B L R)=lt at sl ll pl;generalize (K.take k).filterMap (fstO B L R left right)=fs at lf;obtain ⟨m1,m2⟩:=merged_f (lk_ok hB K[k]) (lk_ok hL K[k]) (lk_ok hR K[k]);obtain ⟨t1,_⟩:=last_f hcl hll (path:=K[k]) (by omega)
    obtain ⟨t2,_⟩:=last_f hcr hrl (path:=K[k]) (by omega)
    unfold Ap.l3;simp only;rw [Av,if_pos (by omega),Cb hk,Option.bind_some,tcfind_f hL,Option.bind_some,tcfind_f hB,Option.bind_some,tcfind_f hR,Option.bind_some,m1,Option.bind_some]
    have hj6:∀ a b c,Ap.j6 (k:Int) a b c=some (.next (((k+1:Nat):Int),a,b,c)):=by
      intro a b c;unfold Ap.j6;rw [Bz (by omega) (by omega),Option.bind_some];rfl
    have hv:vF B L R K[k]=mgO (lk B K[k]) (lk L K[k]) (lk R K[k]):=rfl
    have hj8:∀ a,Ap.j8 (k:Int) lt o K[k] (ver (lk L K[k])) (ver (mgO (lk B K[k]) (lk L K[k]) (lk R K[k])).1,(mgO (lk B K[k]) (lk L K[k]) (lk R K[k])).2) a=some (.next (((k+1:Nat):Int),a,lt++(Uf B L R K[k]).toList,o++(outO B L R K[k]).toList)):=by
      intro a;unfold Ap.j8 Uf outO;rw [hv];cases hm:(mgO (lk B K[k]) (lk L K[k]) (lk R K[k])).1 with
      | none =>
        simp [ver,hj6]
      | some v =>
        have hv2:=(m2 v hm).1;cases hlk:lk L K[k] with
        | none =>
          have e:=put_end sl (by omega) pl (t:=v) (by omega)
          simp [ver,e,hj6]
        | some w =>
          have e:=put_end so (by omega) po (t:=v) (by omega)
          simp [ver,e,hj6]
    unfold Ap.j7 fstO;simp only;rw [hv,t1,Option.bind_some,t2,Option.bind_some];cases hc:(mgO (lk B K[k]) (lk L K[k]) (lk R K[k])).2
    · rw [hc] at hj8;rw [if_pos (show (!false)=true from rfl),Ep (by rw [List.length_singleton];omega),Option.bind_some,hj8]
      simp
    · rw [hc] at hj8;rw [if_neg (show ¬ (!true)=true by decide),hj8]
      simp) (by
    rintro s rfl;unfold Ap.l3;simp only;rw [Av,if_neg (by omega),List.take_length]
    exact ⟨_,rfl,rfl⟩) ([],[],[]) rfl
  exact e
def ownF (R out:List File):List File:=out.filter fun x=>!Gc R x.Path
theorem own_f {R out:List File} (hR:TrOk R) (hl:out.length≤1000):Dl (fun s=>Ap.l2 out R s.1 s.2) (0,[])=some (ownF R out):=by
  obtain ⟨r,e,rfl⟩:=Mu (f:=fun s=>Ap.l2 out R s.1 s.2) out.length (fun k s=>s=ownF R (out.take k)) (fun r=>r=ownF R out) (by
    rintro k s hk rfl;have hlen:(ownF R (out.take k)).length≤k:=Nat.le_trans (List.length_filter_le _ _) (by rw [List.length_take];omega)
    have hj:∀ w,Ap.j5 (k:Int) w=some (.next (((k+1:Nat):Int),w)):=by
      intro w;unfold Ap.j5;rw [Bz (by omega) (by omega),Option.bind_some];rfl
    refine ⟨_,?_,rfl⟩
    have e:ownF R (out.take (k+1))=ownF R (out.take k)++if Gc R out[k].Path=true then [] else [out[k]]:=by
      unfold ownF;rw [List.take_succ_eq_append_getElem hk,List.filter_append];cases h:Gc R out[k].Path <;> simp [h]
    have hi:(ver (lk R out[k].Path)).is=Gc R out[k].Path:=by
      cases h:Gc R out[k].Path
      · rw [(lk_none hR.srt).2 h];rfl
      · cases h2:lk R out[k].Path with
        | none=>rw [(lk_none hR.srt).1 h2] at h;cases h
        | some v=>rfl
    unfold Ap.l2;simp only;rw [Av,if_pos (by omega),Cb hk,Option.bind_some,tcfind_f hR,Option.bind_some,hi,e]
    cases h:Gc R out[k].Path
    · rw [if_pos (show (!false)=true from rfl),Ep (by rw [List.length_singleton];omega),Option.bind_some,hj,if_neg Bool.false_ne_true]
    · rw [if_neg (show ¬ (!true)=true by decide),hj,if_pos rfl,List.append_nil]) (by
    rintro s rfl;unfold Ap.l2;simp only;rw [Av,if_neg (by omega),List.take_length]
    exact ⟨_,rfl,rfl⟩) [] rfl
  exact e
theorem clash_any {l:List File} {p:ByteArray} (hl:∀ f∈l,f.Path.size≤1000000) (hn:l.length≤1000000) (hp:p.size≤1000000):Ct l p (-1)=some (E6 l p):=by
  rw [clash_f hl hn hp];congr 1
  have key:∀ (l:List File) (k:Nat),(G0 (clG p (-1)) k l).isSome=E6 l p:=by
    intro l
    induction l with
    | nil=>intro k;rfl
    | cons f l ih =>
      intro k
      have hcl:clG p (-1) k f=if Nf f.Path p=true then some true else Option.none:=by
        unfold clG;have hk:(k:Int) ≠ -1:=by omega
        by_cases h:Nf f.Path p=true
        · rw [if_pos ⟨hk,h⟩,if_pos h]
        · rw [if_neg (fun hh=>h hh.2),if_neg h]
      rw [G0,hcl];have:=ih (k+1);unfold E6 at this ⊢;rw [List.any_cons,← this];cases h:Nf f.Path p
      · rfl
      · rfl
  exact key l 0
def Nw (own:List File) (o:List File) (x:File):List File:=if E6 own x.Path=true then o else Vl o x
def secO (left right:TreePatch) (own:List File) (x:File):Option Arr2_Int:=if E6 own x.Path=true then some ⟨lastF left x.Path,lastF right x.Path⟩ else Option.none
theorem late_mem {own:List File}:∀ (late o:List File) (f:File),f∈late.foldl (Nw own) o↔f∈o∨(f∈late∧E6 own f.Path=false)
  | [],o,f=>by simp
  | x::late,o,f=>by
    rw [List.foldl_cons,late_mem late];unfold Nw;cases h:E6 own x.Path
    · rw [if_neg Bool.false_ne_true,Uo];constructor
      · rintro ((rfl | h1) | ⟨h1,h2⟩)
        · exact .inr ⟨List.mem_cons_self,h⟩
        · exact .inl h1
        · exact .inr ⟨List.mem_cons_of_mem _ h1,h2⟩
      · rintro (h1 | ⟨h1,h2⟩)
        · exact .inl (.inr h1)
        · rcases List.mem_cons.1 h1 with rfl | h1
          · exact .inl (.inl rfl)
          · exact .inr ⟨h1,h2⟩
    · rw [if_pos rfl];constructor
      · rintro (h1 | ⟨h1,h2⟩)
        · exact .inl h1
        · exact .inr ⟨List.mem_cons_of_mem _ h1,h2⟩
      · rintro (h1 | ⟨h1,h2⟩)
        · exact .inl h1
        · rcases List.mem_cons.1 h1 with rfl | h1
          · rw [h] at h2;cases h2
          · exact .inr ⟨h1,h2⟩
theorem late_srt {own:List File}:∀ (late o:List File),Ka o→Ka late→(∀ f∈late,Gc o f.Path=false)→Ka (late.foldl (Nw own) o)∧(late.foldl (Nw own) o).length≤o.length+late.length
  | [],o,h,_,_=>⟨h,by simp⟩
  | x::late,o,h,hl,hn=>by
    have hl1:=List.pairwise_cons.1 hl;rw [List.foldl_cons];have hx:=hn x List.mem_cons_self
    have hS:Ka (Nw own o x)∧(Nw own o x).length≤o.length+1:=by
      unfold Nw;split
      · exact ⟨h,by omega⟩
      · exact ⟨ins_srt h hx,Nat.le_of_eq (ins_len _ _)⟩
    have hn':∀ f∈late,Gc (Nw own o x) f.Path=false:=by
      intro f hf;have h1:=hn f (List.mem_cons_of_mem _ hf);unfold Nw;split
      · exact h1
      · cases hh:Gc (Vl o x) f.Path
        · rfl
        · obtain ⟨g,hg,e⟩:=Qm.1 hh;rcases Uo.1 hg with rfl | hg
          · have:=hl1.1 f hf;rw [e,N4] at this;cases this
          · rw [Qm.2 ⟨g,hg,e⟩] at h1;cases h1
    obtain ⟨i1,i2⟩:=late_srt (own:=own) late _ hS.1 hl1.2 hn';exact ⟨i1,by rw [List.length_cons];omega⟩
theorem late_f {left right:TreePatch} (hcl:∀ c∈left.Changes,OkCh c) (hll:left.Changes.length≤30) (hcr:∀ c∈right.Changes,OkCh c) (hrl:right.Changes.length≤30) {own late out:List File}
    (ho:Ka out) (hol:out.length≤100) (hlt:Ka late) (hll2:late.length≤100) (hn:∀ f∈late,Gc out f.Path=false) (hsz:∀ f∈late,f.Path.size≤60) (htx:∀ f∈late,f.Lines.length≤1000) (hown:∀ f∈own,f.Path.size≤60) (hownl:own.length≤1000) :
    Dl (fun s=>Ap.l1 left right late own s.1 s.2.1 s.2.2) (0,[],out)=some (late.filterMap (secO left right own),late.foldl (Nw own) out):=by
  obtain ⟨r,e,rfl⟩:=Mu (f:=fun s=>Ap.l1 left right late own s.1 s.2.1 s.2.2) late.length
    (fun k s=>s=((late.take k).filterMap (secO left right own),(late.take k).foldl (Nw own) out)) (fun r=>r=(late.filterMap (secO left right own),late.foldl (Nw own) out)) (by
    rintro k s hk rfl;have hx:=List.getElem_mem hk;have hs:=hsz _ hx;obtain ⟨q1,q2⟩:=late_srt (own:=own) (late.take k) out ho (List.Pairwise.sublist (List.take_sublist _ _) hlt) fun f hf=>hn f (List.mem_of_mem_take hf);rw [List.length_take] at q2;have q3:((late.take k).foldl (Nw own) out).length≤1000:=by omega
    have hno:Gc ((late.take k).foldl (Nw own) out) late[k].Path=false:=by
      cases hh:Gc ((late.take k).foldl (Nw own) out) late[k].Path
      · rfl
      · obtain ⟨g,hg,e⟩:=Qm.1 hh;rcases (late_mem _ _ _).1 hg with h1 | ⟨h1,_⟩
        · have:=hn _ hx;rw [Qm.2 ⟨g,h1,e⟩] at this;cases this
        · obtain ⟨j,hj,rfl⟩:=List.getElem_of_mem h1;rw [List.length_take] at hj;rw [List.getElem_take] at e;have:=(List.pairwise_iff_getElem.1 hlt) j k (by omega) hk (by omega)
          rw [e,N4] at this;cases this
    have ls:((late.take k).filterMap (secO left right own)).length≤k:=Nat.le_trans (List.length_filterMap_le _ _) (by rw [List.length_take];omega)
    have hj:∀ a b,Ap.j4 (k:Int) a b=some (.next (((k+1:Nat):Int),a,b)):=by
      intro a b;unfold Ap.j4;rw [Bz (by omega) (by omega),Option.bind_some];rfl
    obtain ⟨t1,_⟩:=last_f hcl hll (path:=late[k].Path) (by omega)
    obtain ⟨t2,_⟩:=last_f hcr hrl (path:=late[k].Path) (by omega)
    refine ⟨_,?_,rfl⟩;rw [List.take_succ_eq_append_getElem hk,fm_snoc,List.foldl_append];unfold Ap.l1;simp only [List.foldl_cons,List.foldl_nil];rw [Av,if_pos (by omega),Cb hk,Option.bind_some,clash_any (fun f hf=>by have:=hown f hf;omega) (by omega) (by omega),Option.bind_some]
    cases h:E6 own late[k].Path
    · have e1:secO left right own late[k]=Option.none:=by unfold secO;rw [h];rfl
      have e2:∀ o,Nw own o late[k]=Vl o late[k]:=fun o=>by unfold Nw;rw [h];rfl
      rw [if_neg Bool.false_ne_true,Put_f q1 q3 hno (Nat.le_trans (htx _ hx) (by decide)),Option.bind_some,hj,e1,e2]
      simp
    · have e1:secO left right own late[k]=some ⟨lastF left late[k].Path,lastF right late[k].Path⟩:=by unfold secO;rw [h];rfl
      have e2:∀ o,Nw own o late[k]=o:=fun o=>by unfold Nw;rw [h];rfl
      rw [if_pos rfl,t1,Option.bind_some,t2,Option.bind_some,Ep (by rw [List.length_singleton];omega),Option.bind_some,hj,e1,e2]
      rfl) (by
    rintro s rfl;unfold Ap.l1;simp only;rw [Av,if_neg (by omega),List.take_length]
    exact ⟨_,rfl,rfl⟩) ([],out) rfl
  exact e
end Go.Dc
set_option linter.unusedSimpArgs false
set_option linter.unusedVariables false
set_option maxRecDepth 4000
noncomputable section
namespace Go.Dc
open Go
section
variable (B L R : List File)
def tmK:List ByteArray:=ksort (E2 B++E2 L++E2 R)
def U9:List File:=(tmK B L R).filterMap (outO B L R)
def Qb:List File:=(tmK B L R).filterMap (Uf B L R)
def tmFst (left right:TreePatch):List Arr2_Int:=(tmK B L R).filterMap (fstO B L R left right)
def Um:List File:=ownF R (U9 B L R)
def Ox:List File:=(Qb B L R).foldl (Nw (Um B L R)) (U9 B L R)
def tmSec (left right:TreePatch):List Arr2_Int:=(Qb B L R).filterMap (secO left right (Um B L R))
end
theorem mem_K {B L R:List File} {p:ByteArray}:p∈tmK B L R↔Gc B p=true∨Gc L p=true∨Gc R p=true:=by
  unfold tmK;rw [ksort_mem,List.mem_append,List.mem_append,pathsL_mem,pathsL_mem,pathsL_mem];exact or_assoc
theorem not_K {B L R:List File} (hB:Ka B) (hL:Ka L) (hR:Ka R) {p:ByteArray} (h:p ∉ tmK B L R):vF B L R p=(Option.none,true):=by
  rw [mem_K,not_or,not_or] at h;have e1:=(lk_none hB).2 (by simpa using h.1)
  have e2:=(lk_none hL).2 (by simpa using h.2.1)
  have e3:=(lk_none hR).2 (by simpa using h.2.2)
  show mgO (lk B p) (lk L p) (lk R p)=_;rw [e1,e2,e3];exact mgO_l (fun _ h=>by cases h) (fun _ h=>by cases h) (fun _ h=>by cases h) (.inl rfl)
theorem mem_out {B L R:List File} (hB:Ka B) (hL:Ka L) (hR:Ka R) {f:File}:f∈U9 B L R↔(vF B L R f.Path).1=some f.Lines∧lk L f.Path≠Option.none:=by
  unfold U9;rw [List.mem_filterMap];constructor
  · rintro ⟨p,_,h⟩;have hp:=outO_path B L R p f h;subst hp;unfold outO at h;split at h
    · rename_i v w h1 h2
      have e:=congrArg File.Lines (Option.some.inj h);simp only at e;exact ⟨by rw [h1,e],by rw [h2];simp⟩
    · cases h
  · rintro ⟨h1,h2⟩;refine ⟨f.Path,?_,?_⟩
    · by_cases hk:f.Path∈tmK B L R
      · exact hk
      · rw [not_K hB hL hR hk] at h1;cases h1
    · unfold outO;cases h3:lk L f.Path with
      | none=>exact absurd h3 h2
      | some w=>rw [h1]
theorem mem_late {B L R:List File} (hB:Ka B) (hL:Ka L) (hR:Ka R) {f:File}:f∈Qb B L R↔(vF B L R f.Path).1=some f.Lines∧lk L f.Path=Option.none:=by
  unfold Qb;rw [List.mem_filterMap];constructor
  · rintro ⟨p,_,h⟩;have hp:=Vf B L R p f h;subst hp;unfold Uf at h;split at h
    · rename_i v h1 h2
      have e:=congrArg File.Lines (Option.some.inj h);simp only at e;exact ⟨by rw [h1,e],h2⟩
    · cases h
  · rintro ⟨h1,h2⟩;refine ⟨f.Path,?_,?_⟩
    · by_cases hk:f.Path∈tmK B L R
      · exact hk
      · rw [not_K hB hL hR hk] at h1;cases h1
    · unfold Uf;rw [h1,h2]
theorem K_len {B L R:List File} (hB:TrOk B) (hL:TrOk L) (hR:TrOk R):(tmK B L R).length≤72:=by
  have:=ksort_len (E2 B++E2 L++E2 R);unfold tmK;have h1:=hB.len;have h2:=hL.len;have h3:=hR.len;unfold E2 at *;rw [List.length_append,List.length_append,List.length_map,List.length_map,List.length_map] at this;omega
theorem K_size {B L R:List File} (hB:TrOk B) (hL:TrOk L) (hR:TrOk R):∀ p∈tmK B L R,p.size≤60:=by
  intro p hp
  have h:∀ l:List File,TrOk l→Gc l p=true→p.size≤60:=by
    intro l hl hh;obtain ⟨f,hf,rfl⟩:=Qm.1 hh;exact Kz (hl.path f hf)
  rcases mem_K.1 hp with h1 | h1 | h1
  · exact h B hB h1
  · exact h L hL h1
  · exact h R hR h1
theorem out_srt (B L R:List File):Ka (U9 B L R):=fm_path (outO_path B L R) (ksort_asc _)
theorem late_srtT (B L R:List File):Ka (Qb B L R):=fm_path (Vf B L R) (ksort_asc _)
theorem late_no {B L R:List File} (hB:Ka B) (hL:Ka L) (hR:Ka R):∀ f∈Qb B L R,Gc (U9 B L R) f.Path=false:=by
  intro f hf;cases hh:Gc (U9 B L R) f.Path
  · rfl
  · obtain ⟨g,hg,e⟩:=Qm.1 hh;have h1:=((mem_late hB hL hR).1 hf).2;have h2:=((mem_out hB hL hR).1 hg).2;rw [e] at h2;exact absurd h1 h2
theorem fin_mem {B L R:List File} {f:File}:f∈Ox B L R↔f∈U9 B L R∨(f∈Qb B L R∧E6 (Um B L R) f.Path=false):=late_mem _ _ _
theorem fin_srt {B L R:List File} (hB:Ka B) (hL:Ka L) (hR:Ka R):Ka (Ox B L R):=(late_srt (own:=Um B L R) _ _ (out_srt B L R) (late_srtT B L R) (late_no hB hL hR)).1
theorem vF_ok {B L R:List File} (hB:TrOk B) (hL:TrOk L) (hR:TrOk R) (p:ByteArray):OkO (vF B L R p).1:=(merged_f (lk_ok hB p) (lk_ok hL p) (lk_ok hR p)).2
theorem tmerge {B:List File} {left right:TreePatch} (hB:TrOk B) (h1:(C8 left.Changes B).2.Code=0) (h2:(C8 right.Changes B).2.Code=0) :
    Ap ⟨B⟩ left right=some (if (Ox B (C8 left.Changes B).1 (C8 right.Changes B).1).length > 24 then (⟨[]⟩,[],⟨10,-1⟩)
      else (⟨Ox B (C8 left.Changes B).1 (C8 right.Changes B).1⟩,tmFst B (C8 left.Changes B).1 (C8 right.Changes B).1 left right++tmSec B (C8 left.Changes B).1 (C8 right.Changes B).1 left right,⟨0,0⟩)):=by
  obtain ⟨a1,a2,_,_,hL⟩:=Of h1;obtain ⟨b1,b2,_,_,hR⟩:=Of h2
  have f1:(C8 left.Changes B).2=⟨0,0⟩:=by
    obtain ⟨_,c2,c3,c4,_⟩:=Of h1;rw [c4] at h1 ⊢;exact (run_ok _ _ _ c3 c2 h1).2
  have f2:(C8 right.Changes B).2=⟨0,0⟩:=by
    obtain ⟨_,c2,c3,c4,_⟩:=Of h2;rw [c4] at h2 ⊢;exact (run_ok _ _ _ c3 c2 h2).2
  have eB:Ew B=⟨0,0⟩:=by
    rcases Tg B with h | h
    · exact h
    · exact absurd ((G7 B).2 hB) h
  unfold Ap;rw [Vu,Option.bind_some];simp only;rw [eB];simp only [decide_true,Bool.and_self,Bool.not_true,Bool.false_eq_true,if_false];rw [Apply_f,Option.bind_some];simp only;rw [f1];simp only [decide_true,Bool.and_self,Bool.not_true,Bool.false_eq_true,if_false];rw [Apply_f,Option.bind_some];simp only;rw [f2];simp only [decide_true,Bool.and_self,Bool.not_true,Bool.false_eq_true,if_false];generalize (C8 left.Changes B).1=L at hL ⊢;generalize (C8 right.Changes B).1=R at hR ⊢;have lK:=K_len hB hL hR;have sK:=K_size hB hL hR;have lo:(U9 B L R).length≤72:=Nat.le_trans (List.length_filterMap_le _ _) lK;have ll:(Qb B L R).length≤72:=Nat.le_trans (List.length_filterMap_le _ _) lK;have lf:(tmFst B L R left right).length≤72:=Nat.le_trans (List.length_filterMap_le _ _) lK
  have hsz:∀ f,(f∈U9 B L R∨f∈Qb B L R)→f.Path.size≤60∧f.Lines.length≤120:=by
    intro f hf
    have hv:(vF B L R f.Path).1=some f.Lines:=by
      rcases hf with hf | hf
      · exact ((mem_out hB.srt hL.srt hR.srt).1 hf).1
      · exact ((mem_late hB.srt hL.srt hR.srt).1 hf).1
    refine ⟨?_,(vF_ok hB hL hR f.Path f.Lines hv).1⟩;by_cases hk:f.Path∈tmK B L R
    · exact sK _ hk
    · rw [not_K hB.srt hL.srt hR.srt hk] at hv;cases hv
  have lown:(Um B L R).length≤72:=Nat.le_trans (List.length_filter_le _ _) lo
  have hlf:=late_f a2 a1 b2 b1 (own:=Um B L R) (out_srt B L R) (by omega) (late_srtT B L R) (by omega) (late_no hB.srt hL.srt hR.srt) (fun f hf=>(hsz f (.inr hf)).1) (fun f hf=>by have:=(hsz f (.inr hf)).2;omega)
    (fun f hf=>(hsz f (.inl (List.mem_filter.1 hf).1)).1) (by omega)
  have ls:(tmSec B L R left right).length≤72:=Nat.le_trans (List.length_filterMap_le _ _) ll;rw [all_f3 hB.len hL.len hR.len,Option.bind_some];rw [show ksort (E2 B++E2 L++E2 R)=tmK B L R from rfl,walk_f hB hL hR a2 a1 b2 b1 (K:=tmK B L R) (ksort_asc _) (by omega) sK,Option.bind_some]
  simp only;rw [show (tmK B L R).filterMap (fstO B L R left right)=tmFst B L R left right from rfl,show (tmK B L R).filterMap (Uf B L R)=Qb B L R from rfl,show (tmK B L R).filterMap (outO B L R)=U9 B L R from rfl];unfold Ap.j1;rw [own_f hR (by omega),Option.bind_some]
  unfold Ap.j2;rw [show ownF R (U9 B L R)=Um B L R from rfl,hlf,Option.bind_some];simp only;rw [show (Qb B L R).filterMap (secO left right (Um B L R))=tmSec B L R left right from rfl,show (Qb B L R).foldl (Nw (Um B L R)) (U9 B L R)=Ox B L R from rfl];unfold Ap.j3;rw [Av];by_cases h24:(Ox B L R).length > 24
  · rw [if_pos (by omega),if_pos h24]
  · rw [if_neg (by omega),if_neg h24,Ep (by omega),Option.bind_some]
theorem fst_nil {B L R:List File} (hB:Ka B) (hL:Ka L) (hR:Ka R) {left right:TreePatch}:tmFst B L R left right=[]↔∀ p,(vF B L R p).2=true:=by
  unfold tmFst;rw [List.filterMap_eq_nil_iff];constructor
  · intro h p;by_cases hk:p∈tmK B L R
    · have:=h p hk;unfold fstO at this;split at this
      · assumption
      · cases this
    · rw [not_K hB hL hR hk]
  · intro h p _;unfold fstO;rw [if_pos (h p)]
theorem sec_nil {B L R:List File} {left right:TreePatch}:tmSec B L R left right=[]↔∀ x∈Qb B L R,E6 (Um B L R) x.Path=false:=by
  unfold tmSec;rw [List.filterMap_eq_nil_iff];constructor
  · intro h x hx;have:=h x hx;unfold secO at this;cases hr:E6 (Um B L R) x.Path
    · rfl
    · rw [if_pos hr] at this;cases this
  · intro h x hx;unfold secO;rw [h x hx,if_neg Bool.false_ne_true]
theorem tm_left {B L R:List File} (hB:TrOk B) (hL:TrOk L) (hR:TrOk R) (h:∀ p,vF B L R p=(lk R p,true)) (left right:TreePatch):Ox B L R=R∧tmFst B L R left right=[]∧tmSec B L R left right=[]:=by
  have hown:Um B L R=[]:=by
    unfold Um ownF;rw [List.filter_eq_nil_iff];intro f hf;have h1:=((mem_out hB.srt hL.srt hR.srt).1 hf).1;rw [h] at h1
    have:Gc R f.Path=true:=by
      cases hh:Gc R f.Path
      · rw [(lk_none hR.srt).2 hh] at h1;cases h1
      · rfl
    rw [this];simp
  have hrel:∀ p,E6 (Um B L R) p=false:=fun p=>by rw [hown];rfl
  refine ⟨res_eq (fin_srt hB.srt hL.srt hR.srt) hR.srt fun f=>?_,(fst_nil hB.srt hL.srt hR.srt).2 fun p=>by rw [h],sec_nil.2 fun x hx=>hrel _⟩
  rw [fin_mem,mem_out hB.srt hL.srt hR.srt,mem_late hB.srt hL.srt hR.srt,h,hrel];constructor
  · rintro (⟨h1,_⟩ | ⟨⟨h1,_⟩,_⟩)
    · exact (lk_some hR.srt).1 h1
    · exact (lk_some hR.srt).1 h1
  · intro hf;have:=(lk_some hR.srt (p:=f.Path) (L:=f.Lines)).2 hf;by_cases hn:lk L f.Path=Option.none
    · exact .inr ⟨⟨this,hn⟩,rfl⟩
    · exact .inl ⟨this,hn⟩
end Go.Dc
set_option linter.unusedSimpArgs false
set_option linter.unusedVariables false
set_option maxRecDepth 4000
namespace Go.Dc
open Go
theorem Q5:TrOk []:=(G7 []).1 (by decide)
theorem tf_ok {l:List File} (h:TrOk l):Ew l=⟨0,0⟩:=by
  rcases Tg l with e | e
  · exact e
  · exact absurd ((G7 l).2 h) e
theorem apT_ok (p:List TreeChange) (l:List File):(C8 p l).2=⟨0,0⟩∨(C8 p l).2.Code≠0:=by
  by_cases h:(C8 p l).2.Code=0
  · left;obtain ⟨_,c2,c3,c4,_⟩:=Of h;rw [c4] at h ⊢;exact (run_ok _ _ _ c3 c2 h).2
  · exact .inr h
theorem difT_ok (a b:List File):(Nq a b).2=⟨0,0⟩∨(Nq a b).2.Code≠0:=by
  unfold Nq;split
  · next h=>exact .inr h
  · split
    · next h=>exact .inr h
    · split
      · right;decide
      · left;rfl
theorem difT_of {a b:List File} (ha:TrOk a) (hb:TrOk b) (hl:(Lp a b).length≤30):Nq a b=(⟨Lp a b⟩,⟨0,0⟩):=by
  unfold Nq;rw [tf_ok ha,tf_ok hb,if_neg (by decide),if_neg (by decide),if_neg (by omega)]
theorem difN_len {b:List File} (hb:TrOk b):(Lp [] b).length≤30:=by
  have h1:(Lp [] b).length≤b.length:=by
    unfold Lp;simp only [List.filterMap_nil,List.nil_append];exact List.length_filterMap_le _ _
  have:=hb.len;omega
theorem difN {b:List File} (hb:TrOk b):Nq [] b=(⟨Lp [] b⟩,⟨0,0⟩):=difT_of Q5 hb (difN_len hb)
theorem apN {b:List File} (hb:TrOk b):C8 (Lp [] b) []=(b,⟨0,0⟩):=by
  obtain ⟨h1,h2⟩:=dif_ok Q5 hb;rw [applyT_of (difN_len hb) h1 Q5,h2]
theorem not_net2 (u k n:Int) (p:TreePatch):¬ Net ⟨2,u,k,n,p⟩:=by intro h;unfold Net at h;simp at h
theorem not_net3 (u k n:Int) (p:TreePatch):¬ Net ⟨3,u,k,n,p⟩:=by intro h;unfold Net at h;simp at h
theorem net4 (u k n:Int) (p:TreePatch):Net ⟨4,u,k,n,p⟩:=.inl rfl
def M6 (s:State_forge) (u:Int) (D:Developer_forge) (t:List File):State_forge:=⟨s.keys,s.versions,s.developers.set u.toNat ⟨⟨t⟩,D.base,D.sent,D.accepted⟩,s.flight,s.log⟩
theorem Tw {s:State_forge} {u k n:Int} {p:TreePatch} {D:Developer_forge} (hD:at? s.developers u=some D) :
    Gp s ⟨2,u,k,n,p⟩=some (if (C8 p.Changes D.tree.Files).2.Code≠0 then ((C8 p.Changes D.tree.Files).2.Code,s) else (0,M6 s u D (C8 p.Changes D.tree.Files).1)):=by
  unfold Gp;rw [if_neg (not_net2 u k n p)];unfold Br;simp only;rw [hD,Option.bind_some,if_neg (by simp),if_pos (by simp),Apply_f,Option.bind_some]
  unfold Br.j2;simp only;rcases apT_ok p.Changes D.tree.Files with h | h
  · rw [h];simp only [decide_true,Bool.and_self,Bool.not_true,Bool.false_eq_true,if_false,ne_eq,not_true_eq_false];rw [Option.bind_some];rfl
  · rw [if_pos (L7.2 fun h2=>h h2.1),if_pos h]
noncomputable def Qd (u:Int) (D:Developer_forge) (key:Int) (q:TreePatch):Message_forge:=⟨u,D.sent+1,D.base,sg key (md ⟨u,D.sent+1,D.base,0,q⟩),q⟩
noncomputable def pushS (s:State_forge) (u:Int) (D:Developer_forge) (key:Int) (q:TreePatch):State_forge :=
  ⟨s.keys,s.versions,s.developers.set u.toNat ⟨D.tree,D.base,D.sent+1,D.accepted⟩,s.flight++[Qd u D key q],s.log⟩
theorem letter_ok {u:Int} {D:Developer_forge} {key:Int} {q:TreePatch} (hu:0≤u∧u≤1000) (hs:0≤D.sent∧D.sent≤1000) (hb:0≤D.base∧D.base≤1000):MsgOk (Qd u D key q) :=
  ⟨Gg hu.1 (by show u≤_;omega),Gg (by show 0≤D.sent+1;omega) (by show D.sent+1≤_;omega),Gg hb.1 (by show D.base≤_;omega)⟩
theorem letter_sig {u:Int} {D:Developer_forge} {key:Int} {q:TreePatch} (hk:Gz key) (hu:0≤u∧u≤1000) (hs:0≤D.sent∧D.sent≤1000) (hb:0≤D.base∧D.base≤1000) :
    (Qd u D key q).signature=sg key (md (Qd u D key q))∧Dig (Qd u D key q).signature :=
  ⟨rfl,(sign_f hk (by rw [(md_f (letter_ok (key:=0) hu hs hb)).2];decide:(md (Qd u D 0 q)).length≤4096)).2⟩
theorem U5 {s:State_forge} {u key n:Int} {p:TreePatch} {D:Developer_forge} {V:List File} (hD:at? s.developers u=some D) (hV:at? s.versions D.base=some ⟨V⟩) (hk:Gz key)
    (hu:0≤u∧u≤1000) (hs:0≤D.sent∧D.sent≤1000) (hb:0≤D.base∧D.base≤1000) :
    Gp s ⟨3,u,key,n,p⟩=some (if (Nq V D.tree.Files).2.Code≠0 then ((Nq V D.tree.Files).2.Code,s) else if (Nq V D.tree.Files).1.Changes=[] then (11,s) else if s.flight.length ≥ 20 then (14,s) else (0,pushS s u D key (Nq V D.tree.Files).1)):=by
  unfold Gp;rw [if_neg (not_net3 u key n p)];unfold Br;simp only;rw [hD,Option.bind_some,if_neg (by simp),if_neg (by simp),if_pos (by simp)]
  unfold G2;rw [hD,Option.bind_some,hV,Option.bind_some];have e0:D.tree=⟨D.tree.Files⟩:=rfl;have e1:A8 ⟨V⟩ D.tree=some (Nq V D.tree.Files):=tdifT_f V D.tree.Files;rw [e1,Option.bind_some];generalize hd:Nq V D.tree.Files=d;have hz:d.2=⟨0,0⟩∨d.2.Code≠0:=hd ▸ difT_ok V D.tree.Files;obtain ⟨q,f⟩:=d;unfold G2.j1;simp only at hz ⊢;rcases hz with rfl | h
  · simp only [decide_true,Bool.and_self,Bool.not_true,Bool.false_eq_true,if_false,ne_eq,not_true_eq_false];rw [len_zero_dec,Av];by_cases hq:q.Changes=[]
    · rw [if_pos hq,if_pos hq];rfl
    rw [if_neg hq,if_neg hq,Av];by_cases hf:s.flight.length ≥ 20
    · rw [if_pos (by omega),if_pos hf];rfl
    rw [if_neg (by omega),if_neg hf,Bz (by omega) (by omega),Option.bind_some,Option.bind_some]
    obtain ⟨m1,m2⟩:=md_f (letter_ok (q:=q) (key:=0) hu hs hb);have m3:Ez ⟨u,D.sent+1,D.base,0,q⟩=some (md ⟨u,D.sent+1,D.base,0,q⟩):=m1;have m4:(md ⟨u,D.sent+1,D.base,0,q⟩).length=32:=m2;rw [m3,Option.bind_some,(sign_f hk (by omega)).1,Option.bind_some,Ep (by rw [List.length_singleton];omega),Option.bind_some]
    rfl
  · rw [if_pos (L7.2 fun h2=>h h2.1),if_pos h];rfl
def drp (s:State_forge) (n:Nat):State_forge:=⟨s.keys,s.versions,s.developers,s.flight.take n++s.flight.drop (n+1),s.log⟩
theorem H5 {s:State_forge} {u k:Int} {n:Nat} {p:TreePatch} (hl:s.flight.length≤1000) :
    Gp s ⟨4,u,k,(n:Int),p⟩=if h:n < s.flight.length then (Bn (drp s n) s.flight[n]) else some (6,s):=by
  unfold Gp;rw [if_pos (net4 u k (n:Int) p)];unfold Co;simp only;rw [Av];by_cases h:n < s.flight.length
  · rw [if_neg (by omega),dif_pos h,Cb h,Option.bind_some,if_pos (by decide),Bz (by omega) (by omega),Option.bind_some]
    rw [show (n:Int)+1=((n+1:Nat):Int) from rfl,del?_mk (by omega) h,Option.bind_some]
    show (Bn (drp s n) s.flight[n]).bind _=_;cases Bn (drp s n) s.flight[n] <;> rfl
  · rw [if_pos (by omega),dif_neg h]
theorem difT_fst {a b:List File} (h:(Nq a b).2.Code=0):TrOk a∧TrOk b∧(Lp a b).length≤30∧Nq a b=(⟨Lp a b⟩,⟨0,0⟩):=by
  have h0:=h;unfold Nq at h0;by_cases ha:(Ew a).Code≠0
  · rw [if_pos ha] at h0;exact absurd h0 ha
  rw [if_neg ha] at h0;by_cases hb:(Ew b).Code≠0
  · rw [if_pos hb] at h0;exact absurd h0 hb
  rw [if_neg hb] at h0;by_cases hl:(Lp a b).length > 30
  · rw [if_pos hl] at h0;simp at h0
  have ha':=(G7 a).1 (by simpa using ha)
  have hb':=(G7 b).1 (by simpa using hb)
  exact ⟨ha',hb',by omega,difT_of ha' hb' (by omega)⟩
theorem difT_app {a b:List File} (h:(Nq a b).2.Code=0):C8 (Nq a b).1.Changes a=(b,⟨0,0⟩):=by
  obtain ⟨ha,hb,hl,e⟩:=difT_fst h;obtain ⟨h1,h2⟩:=dif_ok ha hb;rw [e];show C8 (Lp a b) a=_;rw [applyT_of hl h1 ha,h2]
noncomputable def accG (s:State_forge) (m:Message_forge) (D:Developer_forge) (V N T:List File):Int×State_forge :=
  if (Nq V N).2.Code≠0 then ((Nq V N).2.Code,s)
  else if (Ox V N T).length > 24 then (10,s)
  else if tmFst V N T ⟨Lp V N⟩ m.patch++tmSec V N T ⟨Lp V N⟩ m.patch≠[] then (19,s)
  else if (Nq N (Ox V N T)).2.Code≠0 then ((Nq N (Ox V N T)).2.Code,s)
  else (0,⟨s.keys,s.versions++[⟨Ox V N T⟩],s.developers.set m.user.toNat ⟨D.tree,D.base,D.sent,m.number⟩,s.flight,s.log++[⟨m.user,m.number,(Nq N (Ox V N T)).1⟩]⟩)
theorem accept_g {s:State_forge} {m:Message_forge} {D:Developer_forge} {key:Int} {V N T:List File} {v:List FileTree} (hD:at? s.developers m.user=some D) (hk:at? s.keys m.user=some key) (hik:Gz key) (hm:MsgOk m)
    (hsd:Dig m.signature) (hb:at? s.versions m.base=some ⟨V⟩) (hv:s.versions=v++[⟨N⟩]) (hvl:v.length≤1000) (hll:s.log.length≤1000) (hV:TrOk V) (hN:TrOk N)
    (hp:C8 m.patch.Changes V=(T,⟨0,0⟩)):Bn s m=some (if sg key (md m)≠m.signature then (18,s) else if m.number≤D.accepted then (16,s) else accG s m D V N T):=by
  obtain ⟨m1,m2⟩:=md_f hm;unfold Bn;rw [hD,Option.bind_some,hk,Option.bind_some,m1,Option.bind_some,verify_f hik (by omega) hsd,Option.bind_some]
  unfold Bn.j1;simp only;by_cases hs:sg key (md m)=m.signature
  · have hq:¬ sg key (md m)≠m.signature:=fun h=>h hs;rw [decide_eq_true hs,if_neg (show ¬ (!true)=true by decide),if_neg hq,Av]
    by_cases hn:m.number≤D.accepted
    · rw [if_pos hn,if_pos hn]
    rw [if_neg hn,if_neg hn,hb,Option.bind_some,newest_f hv (by omega),Option.bind_some,tdifT_f,Option.bind_some]
    unfold Bn.j2 accG;rcases difT_ok V N with h | h
    · have h0:(Nq V N).2.Code=0:=by rw [h]
      obtain ⟨_,_,_,e⟩:=difT_fst h0;have hA:=difT_app h0;rw [e] at hA;simp only at hA;rw [e];simp only [decide_true,Bool.and_self,Bool.not_true,Bool.false_eq_true,if_false,ne_eq,not_true_eq_false];have t1:=tmerge hV (left:=⟨Lp V N⟩) (right:=m.patch) (by show (C8 (Lp V N) V).2.Code=0;rw [hA]) (by rw [hp])
      have e1:(C8 (⟨Lp V N⟩:TreePatch).Changes V).1=N:=by show (C8 (Lp V N) V).1=N;rw [hA]
      have e2:(C8 m.patch.Changes V).1=T:=by rw [hp]
      rw [e1,e2] at t1;rw [t1,Option.bind_some];by_cases h24:(Ox V N T).length > 24
      · rw [if_pos h24,if_pos h24];rfl
      rw [if_neg h24,if_neg h24];simp only [decide_true,Bool.and_self,Bool.not_true,Bool.false_eq_true,if_false];rw [len_pos_dec,Av];by_cases hc:tmFst V N T ⟨Lp V N⟩ m.patch++tmSec V N T ⟨Lp V N⟩ m.patch=[]
      · rw [if_neg (fun h=>h hc),if_neg (fun h=>h hc),newest_f hv (by omega),Option.bind_some,tdifT_f,Option.bind_some]
        unfold Bn.j3;rcases difT_ok N (Ox V N T) with h | h
        · rw [h];simp only [decide_true,Bool.and_self,Bool.not_true,Bool.false_eq_true,if_false,ne_eq,not_true_eq_false];rw [Option.bind_some,Ep (by rw [hv,List.length_append,List.length_singleton,List.length_singleton];omega),Option.bind_some,Ep (by rw [List.length_singleton];omega),Option.bind_some]
        · rw [if_pos (L7.2 fun h2=>h h2.1),if_pos h]
      · rw [if_pos hc,if_pos hc]
    · rw [if_pos h,if_pos (L7.2 fun h2=>h h2.1)]
  · rw [decide_eq_false hs,if_pos (show (!false)=true from rfl),if_pos hs]
end Go.Dc
set_option linter.unusedSimpArgs false
set_option linter.unusedVariables false
set_option maxRecDepth 4000
namespace Go.Dc
open Go
instance:DecidableEq File:=fun x y=>if h:x.Path=y.Path∧x.Lines=y.Lines then isTrue (by obtain ⟨p,q⟩:=x;obtain ⟨p',q'⟩:=y;simp only at h;rw [h.1,h.2]) else isFalse fun e=>h (by rw [e];exact ⟨rfl,rfl⟩)
theorem same_s1 (f g:File) (h:f.Lines.length≤1000000):Ln f g=some (decide (f=g)):=by
  obtain ⟨p,x⟩:=f;obtain ⟨q,y⟩:=g;unfold Ln;simp only at h ⊢;rw [Av];by_cases hp:p=q
  · rw [if_pos hp,U7 x y h,Option.bind_some,Option.bind_some];exact congrArg some (decide_eq_decide.2 (by simp [hp]))
  · rw [if_neg hp,Option.bind_some];exact congrArg some (decide_eq_false (by simp [hp])).symm
def smG (b:List File) (k:Nat) (f:File):Option Bool:=if b[k]? = some f then Option.none else some false
theorem Same_f {a b:List File} (ha:∀ f∈a,f.Lines.length≤1000000) (hl:a.length≤1000):Dg ⟨a⟩ ⟨b⟩=some (decide (a=b)):=by
  unfold Dg;simp only;by_cases hn:a.length=b.length
  · rw [decide_eq_true (by omega),if_neg (by decide),scan0 a (smG b) ?_ ?_,Option.bind_some]
    · cases h:G0 (smG b) 0 a with
      | none =>
        have he:a=b:=List.ext_getElem hn fun j h1 h2=>by
          have:=Md.1 h j h1;rw [Nat.zero_add] at this;unfold smG at this;split at this
          · next hh=>rw [List.getElem?_eq_getElem h2] at hh;exact (Option.some.inj hh).symm
          · cases this
        rw [decide_eq_true he];rfl
      | some y =>
        obtain ⟨j,hj,e⟩:=H3 h
        rw [decide_eq_false fun he=>by
          subst he;unfold smG at e;rw [if_pos (by simp)] at e
          cases e]
        unfold smG at e;split at e
        · cases e
        · cases e;rfl
    · intro k hk _;have hkb:k < b.length:=by omega
      unfold Dg.l1 smG;simp only;rw [Av,if_pos (by omega),Cb hk,Option.bind_some,Cb hkb,Option.bind_some,same_s1 _ _ (ha _ (List.getElem_mem hk)),Option.bind_some,List.getElem?_eq_getElem hkb]
      by_cases he:a[k]=b[k]
      · rw [decide_eq_true he,if_neg (by decide),if_pos (by rw [he]),Bz (by omega) (by omega)];rfl
      · rw [decide_eq_false he,if_pos (show (!false)=true from rfl),if_neg fun h=>he (Option.some.inj h).symm]
    · unfold Dg.l1;simp only;rw [Av,if_neg (by omega)]
  · rw [decide_eq_false (by omega),if_pos (show (!false)=true from rfl),decide_eq_false fun h=>hn (by rw [h])];rfl
theorem net5 (u k n:Int) (p:TreePatch):Net ⟨5,u,k,n,p⟩:=.inr (.inl rfl)
theorem net6 (u k n:Int) (p:TreePatch):Net ⟨6,u,k,n,p⟩:=.inr (.inr (.inl rfl))
theorem net7 (u k n:Int) (p:TreePatch):Net ⟨7,u,k,n,p⟩:=.inr (.inr (.inr rfl))
theorem not_net1 (u k n:Int) (p:TreePatch):¬ Net ⟨1,u,k,n,p⟩:=by intro h;unfold Net at h;simp at h
theorem not_net8 (u k n:Int) (p:TreePatch):¬ Net ⟨8,u,k,n,p⟩:=by intro h;unfold Net at h;simp at h
theorem step_drop {s:State_forge} {u k:Int} {n:Nat} {p:TreePatch} (hl:s.flight.length≤1000) :
    Gp s ⟨5,u,k,(n:Int),p⟩=some (if n < s.flight.length then (0,drp s n) else (6,s)):=by
  unfold Gp;rw [if_pos (net5 u k (n:Int) p)];unfold Co;simp only;rw [Av];by_cases h:n < s.flight.length
  · rw [if_neg (by omega),if_pos h,Cb h,Option.bind_some,if_neg (by simp),if_pos (by simp),Bz (by omega) (by omega),Option.bind_some]
    rw [show (n:Int)+1=((n+1:Nat):Int) from rfl,del?_mk (by omega) h,Option.bind_some]
    rfl
  · rw [if_pos (by omega),if_neg h]
def dupS (s:State_forge) (n:Nat) (m:Message_forge):State_forge:=⟨s.keys,s.versions,s.developers,s.flight.take (n+1)++[m]++s.flight.drop (n+1),s.log⟩
theorem step_dup {s:State_forge} {u k:Int} {n:Nat} {p:TreePatch} (hl:s.flight.length≤1000) :
    Gp s ⟨6,u,k,(n:Int),p⟩=some (if h:n < s.flight.length then (if s.flight.length ≥ 20 then (14,s) else (0,dupS s n s.flight[n])) else (6,s)):=by
  unfold Gp;rw [if_pos (net6 u k (n:Int) p)];unfold Co;simp only;rw [Av];by_cases h:n < s.flight.length
  · rw [if_neg (by omega),dif_pos h,Cb h,Option.bind_some,if_neg (by simp),if_neg (by simp),if_pos (by simp),Av]
    by_cases h20:s.flight.length ≥ 20
    · rw [if_pos (by omega),if_pos h20]
    · rw [if_neg (by omega),if_neg h20,Bz (by omega) (by omega),Option.bind_some]
      have e:ins? 56 s.flight ((n:Int)+1) [s.flight[n]]=some (s.flight.take (n+1)++[s.flight[n]]++s.flight.drop (n+1)):=by
        unfold ins?;simp only;rw [if_pos (by omega),Ep (by rw [List.length_singleton];omega),Option.bind_some,show ((n:Int)+1).toNat=n+1 by omega]
      rw [e,Option.bind_some];rfl
  · rw [if_pos (by omega),dif_neg h]
def tmp1 (m:Message_forge):Message_forge:=⟨m.user,m.number,m.base,(m.signature+1) % 2305843009213693951,m.patch⟩
def tamS (s:State_forge) (n:Nat) (m:Message_forge):State_forge:=⟨s.keys,s.versions,s.developers,s.flight.set n (tmp1 m),s.log⟩
theorem Qk {s:State_forge} {u k:Int} {n:Nat} {p:TreePatch} (hd:∀ m∈s.flight,Dig m.signature) :
    Gp s ⟨7,u,k,(n:Int),p⟩=some (if h:n < s.flight.length then (0,tamS s n s.flight[n]) else (6,s)):=by
  unfold Gp;rw [if_pos (net7 u k (n:Int) p)];unfold Co;simp only;rw [Av];by_cases h:n < s.flight.length
  · obtain ⟨d1,d2⟩:=hd _ (List.getElem_mem h);rw [if_neg (by omega),dif_pos h,Cb h,Option.bind_some,if_neg (by simp),if_neg (by simp),if_neg (by simp),Bz (by omega) (by omega),Option.bind_some,rem_nn (by omega) (by decide),Option.bind_some,Option.bind_some,Option.bind_some,Int.toNat_natCast]
    rfl
  · rw [if_pos (by omega),dif_neg h]
theorem O4 {s:State_forge} {u k n:Int} {p:TreePatch} {D:Developer_forge} {V:List File} (hD:at? s.developers u=some D) (hV:at? s.versions D.base=some ⟨V⟩) :
    Gp s ⟨8,u,k,n,p⟩=some (0,M6 s u D V):=by
  unfold Gp;rw [if_neg (not_net8 u k n p)];unfold Br;simp only;rw [hD,Option.bind_some,if_neg (by simp),if_neg (by simp),if_neg (by simp),hV,Option.bind_some,Option.bind_some];rfl
def pullS (s:State_forge) (u:Int) (D:Developer_forge) (t:FileTree) (b:Int):State_forge:=⟨s.keys,s.versions,s.developers.set u.toNat ⟨t,b,D.sent,D.accepted⟩,s.flight,s.log⟩
theorem Tu {s:State_forge} {u k n:Int} {p:TreePatch} {D:Developer_forge} {V:List File} {v:List FileTree} {t:FileTree} (hD:at? s.developers u=some D) (hV:at? s.versions D.base=some ⟨V⟩) (hT:TrOk D.tree.Files) (hv:s.versions=v++[t]) (hl:v.length≤1000) :
    Gp s ⟨1,u,k,n,p⟩=some (if D.tree.Files=V then (0,pullS s u D t v.length) else (15,s)):=by
  unfold Gp;rw [if_neg (not_net1 u k n p)];unfold Br;simp only;have e1:Dg D.tree ⟨V⟩=some (decide (D.tree.Files=V)):=Same_f (a:=D.tree.Files) (fun f hf=>by have:=hT.text_len hf;omega) (by have:=hT.len;omega)
  rw [hD,Option.bind_some,if_pos (by simp),hV,Option.bind_some,e1,Option.bind_some]
  by_cases h:D.tree.Files=V
  · have hvl:s.versions.length=v.length+1:=by rw [hv,List.length_append,List.length_singleton]
    rw [decide_eq_true h,if_neg (by decide),if_pos h,Bz (by omega) (by omega),Option.bind_some,newest_f hv (by omega),Option.bind_some,Option.bind_some,Option.bind_some]
    unfold Br.j1 pullS;rw [List.set_set,hv,List.length_append,List.length_singleton,show ((v.length+1:Nat):Int) - 1=(v.length:Int) by omega]
  · rw [decide_eq_false h,if_pos (show (!false)=true from rfl),if_neg h]
end Go.Dc
set_option linter.unusedSimpArgs false
set_option linter.unusedVariables false
set_option maxRecDepth 4000
namespace Go.Dc
open Go
structure LetOk (vs:List FileTree) (nk n:Nat) (m:Message_forge):Prop where
  user:0≤m.user∧m.user < nk
  number:1≤m.number∧m.number≤n
  base:0≤m.base
  sig:Dig m.signature
  app:∃ V T,at? vs m.base=some ⟨V⟩∧TrOk V∧C8 m.patch.Changes V=(T,⟨0,0⟩)
structure DevOk (vs:List FileTree) (n:Nat) (D:Developer_forge):Prop where
  tree:TrOk D.tree.Files
  base:0≤D.base∧D.base < vs.length
  sent:0≤D.sent∧D.sent≤n
  acc:0≤D.accepted∧D.accepted≤n
structure Inv (keys:List Int) (n:Nat) (s:State_forge):Prop where
  ks:s.keys=keys
  kl:keys.length≤4
  devs:s.developers.length=keys.length
  vers:s.versions.length≤n+1
  first:s.versions[0]? = some ⟨[]⟩
  tree:∀ t∈s.versions,TrOk t.Files
  dev:∀ D∈s.developers,DevOk s.versions n D
  fl:s.flight.length≤20
  let_:∀ m∈s.flight,LetOk s.versions keys.length n m
  log:s.log.length+1=s.versions.length
  ent:∀ e∈s.log,(0≤e.User∧e.User < keys.length)∧(1≤e.Number∧e.Number≤n)
  rep:∀ k (h:k < s.log.length),∃ A B,s.versions[k]? = some ⟨A⟩∧s.versions[k+1]? = some ⟨B⟩∧C8 s.log[k].Patch.Changes A=(B,⟨0,0⟩)
theorem LetOk.up {vs:List FileTree} {nk n:Nat} {m:Message_forge} (h:LetOk vs nk n m):LetOk vs nk (n+1) m:=⟨h.user,⟨h.number.1,by have:=h.number.2;omega⟩,h.base,h.sig,h.app⟩
theorem DevOk.up {vs:List FileTree} {n:Nat} {D:Developer_forge} (h:DevOk vs n D):DevOk vs (n+1) D:=⟨h.tree,h.base,⟨h.sent.1,by have:=h.sent.2;omega⟩,⟨h.acc.1,by have:=h.acc.2;omega⟩⟩
theorem Inv.up {keys:List Int} {n:Nat} {s:State_forge} (h:Inv keys n s):Inv keys (n+1) s where
  ks:=h.ks
  kl:=h.kl
  devs:=h.devs
  vers:=by have:=h.vers;omega
  first:=h.first
  tree:=h.tree
  dev:=fun D hD=>(h.dev D hD).up
  fl:=h.fl
  let_:=fun m hm=>(h.let_ m hm).up
  log:=h.log
  ent:=fun e he=>⟨(h.ent e he).1,(h.ent e he).2.1,by have:=(h.ent e he).2.2;omega⟩
  rep:=h.rep
theorem Inv.setDev {keys:List Int} {n:Nat} {s:State_forge} (h:Inv keys n s) (i:Nat) {D:Developer_forge} (hD:DevOk s.versions n D):Inv keys n ⟨s.keys,s.versions,s.developers.set i D,s.flight,s.log⟩ where
  ks:=h.ks
  kl:=h.kl
  devs:=by rw [← h.devs];exact List.length_set
  vers:=h.vers
  first:=h.first
  tree:=h.tree
  dev:=fun x hx=>by
    rcases List.mem_or_eq_of_mem_set hx with hx | rfl
    · exact h.dev x hx
    · exact hD
  fl:=h.fl
  let_:=h.let_
  log:=h.log
  ent:=h.ent
  rep:=h.rep
theorem Inv.setFl {keys:List Int} {n:Nat} {s:State_forge} (h:Inv keys n s) {fl:List Message_forge} (h1:fl.length≤20) (h2:∀ m∈fl,LetOk s.versions keys.length n m):Inv keys n ⟨s.keys,s.versions,s.developers,fl,s.log⟩ where
  ks:=h.ks
  kl:=h.kl
  devs:=h.devs
  vers:=h.vers
  first:=h.first
  tree:=h.tree
  dev:=h.dev
  fl:=h1
  let_:=h2
  log:=h.log
  ent:=h.ent
  rep:=h.rep
theorem Inv.newest {keys:List Int} {n:Nat} {s:State_forge} (h:Inv keys n s):∃ v t,s.versions=v++[⟨t⟩]∧TrOk t∧v.length=s.log.length:=by
  have hne:s.versions≠[]:=fun e=>by have:=h.first;rw [e] at this;cases this
  refine ⟨s.versions.dropLast,(s.versions.getLast hne).Files,(List.dropLast_concat_getLast hne).symm,h.tree _ (List.getLast_mem hne),?_⟩;rw [List.length_dropLast];have:=h.log;omega
theorem Inv.drp {keys:List Int} {n:Nat} {s:State_forge} (h:Inv keys n s) (k:Nat):Inv keys n (drp s k):=by
  refine h.setFl ?_ fun m hm=>?_
  · rw [List.length_append,List.length_take,List.length_drop];have:=h.fl;omega
  · rcases List.mem_append.1 hm with hm | hm
    · exact h.let_ m (List.mem_of_mem_take hm)
    · exact h.let_ m (List.mem_of_mem_drop hm)
theorem Ta {α:Type} {l:List α} {i:Int} (h0:0≤i) (h1:i < l.length):∃ x,at? l i=some x∧x∈l∧∃ h:i.toNat < l.length,x=l[i.toNat]:=by
  obtain ⟨k,rfl⟩:=Int.eq_ofNat_of_zero_le h0;have hk:k < l.length:=by omega
  exact ⟨l[k],Cb hk,List.getElem_mem hk,by simpa using hk,by simp⟩
theorem at_app {α:Type} {l r:List α} {i:Int} {x:α} (h:at? l i=some x):at? (l++r) i=some x:=by
  obtain ⟨h0,hi,e⟩:=G5 h;unfold at?;rw [if_pos h0,List.getElem?_append_left hi,List.getElem?_eq_getElem hi,e]
theorem LetOk.grow {vs:List FileTree} {nk n:Nat} {m:Message_forge} (h:LetOk vs nk n m) (r:List FileTree):LetOk (vs++r) nk n m:=by
  obtain ⟨V,T,h1,h2⟩:=h.app;exact ⟨h.user,h.number,h.base,h.sig,V,T,at_app h1,h2⟩
theorem DevOk.grow {vs:List FileTree} {n:Nat} {D:Developer_forge} (h:DevOk vs n D) (r:List FileTree):DevOk (vs++r) n D:=⟨h.tree,⟨h.base.1,by have:=h.base.2;rw [List.length_append];omega⟩,h.sent,h.acc⟩
theorem Inv.acc {keys:List Int} {n:Nat} {s:State_forge} (h:Inv keys n s) {m:Message_forge} (hm:LetOk s.versions keys.length n m) {D:Developer_forge} (hD:DevOk s.versions n D) {V N T:List File} {v:List FileTree} (hv:s.versions=v++[⟨N⟩]) (hvl:v.length=s.log.length) :
    Inv keys (n+1) (accG s m D V N T).2:=by
  unfold accG;split
  · exact h.up
  split
  · exact h.up
  split
  · exact h.up
  split
  · exact h.up
  · next hd =>
    have hd0:(Nq N (Ox V N T)).2.Code=0:=by simpa using hd
    have happ:=difT_app hd0;obtain ⟨hN,hT,_,_⟩:=difT_fst hd0;have hu:=h.up;have nm:=hm.number;refine ⟨h.ks,h.kl,by rw [← h.devs];exact List.length_set,?_,?_,?_,?_,h.fl,fun x hx=>((h.let_ x hx).up).grow _,?_,?_,?_⟩
    · show (s.versions++[_]).length≤_;rw [List.length_append,List.length_singleton];have:=h.vers;omega
    · show (s.versions++[_])[0]? = _;have hl:=h.log;rw [List.getElem?_append_left (by omega)];exact h.first
    · intro t ht;rcases List.mem_append.1 ht with ht | ht
      · exact h.tree t ht
      · rw [List.mem_singleton] at ht;subst ht;exact hT
    · intro x hx;rcases List.mem_or_eq_of_mem_set hx with hx | rfl
      · exact ((h.dev x hx).up).grow _
      · exact (⟨hD.tree,hD.base,⟨hD.sent.1,by have:=hD.sent.2;show D.sent≤((n+1:Nat):Int);omega⟩,⟨by show 0≤m.number;omega,by show m.number≤((n+1:Nat):Int);omega⟩⟩:DevOk s.versions (n+1) ⟨D.tree,D.base,D.sent,m.number⟩).grow _
    · show (s.log++[_]).length+1=(s.versions++[_]).length;rw [List.length_append,List.length_append,List.length_singleton,List.length_singleton,h.log]
    · intro e he;rcases List.mem_append.1 he with he | he
      · exact hu.ent e he
      · rw [List.mem_singleton] at he;subst he;exact ⟨hm.user,nm.1,by show m.number≤((n+1:Nat):Int);omega⟩
    · intro k hk;have hlog:=h.log;by_cases hk2:k < s.log.length
      · obtain ⟨A,B,h1,h2,h3⟩:=h.rep k hk2;refine ⟨A,B,?_,?_,?_⟩
        · show (s.versions++[_])[k]? = _;rw [List.getElem?_append_left (by omega)];exact h1
        · show (s.versions++[_])[k+1]? = _;rw [List.getElem?_append_left (by omega)];exact h2
        · show C8 ((s.log++[_])[k]).Patch.Changes A=_;rw [List.getElem_append_left hk2];exact h3
      · have hk3:k=s.log.length:=by
          have:k < (s.log++[_]).length:=hk;rw [List.length_append,List.length_singleton] at this;omega
        subst hk3;refine ⟨N,Ox V N T,?_,?_,?_⟩
        · show (s.versions++[_])[s.log.length]? = _;rw [List.getElem?_append_left (by omega),hv,← hvl];simp
        · show (s.versions++[_])[s.log.length+1]? = _;rw [hlog];simp
        · show C8 ((s.log++[_])[s.log.length]).Patch.Changes N=_;rw [List.getElem_append_right (Nat.le_refl _)];simpa using happ
theorem step_del {keys:List Int} {n:Nat} {s:State_forge} (h:Inv keys n s) (hn:n≤100) (hk:∀ k∈keys,Gz k) {m:Message_forge} (hm:LetOk s.versions keys.length n m) :
    ∃ D key V N T v,at? s.developers m.user=some D∧at? s.keys m.user=some key∧Gz key∧DevOk s.versions n D∧s.versions=v++[⟨N⟩]∧v.length=s.log.length ∧
      Bn s m=some (if sg key (md m)≠m.signature then (18,s) else if m.number≤D.accepted then (16,s) else accG s m D V N T):=by
  obtain ⟨V,T,h1,h2,h3⟩:=hm.app;obtain ⟨v,N,h4,h5,h6⟩:=h.newest;have hlog:=h.log;have hve:=h.vers;obtain ⟨D,d1,d2,_⟩:=Ta (l:=s.developers) hm.user.1 (by rw [h.devs];exact hm.user.2)
  obtain ⟨key,k1,k2,_⟩:=Ta (l:=s.keys) hm.user.1 (by rw [h.ks];exact hm.user.2)
  have hik:Gz key:=hk key (by rw [← h.ks];exact k2)
  have hb:=G5 h1;have hbl:m.base < s.versions.length:=by obtain ⟨b0,b1,_⟩:=hb;omega
  have nm:=hm.number;have us:=hm.user;have hkl:=h.kl;have hul:m.user≤1000000000000:=by omega
  exact ⟨D,key,V,N,T,v,d1,k1,hik,h.dev D d2,h4,h6,accept_g d1 k1 hik ⟨Gg us.1 hul,Gg (by omega) (by omega),Gg hm.base (by omega)⟩ hm.sig h1 h4 (by omega) (by omega) h2 h5 h3⟩
end Go.Dc
set_option linter.unusedSimpArgs false
set_option linter.unusedVariables false
set_option maxRecDepth 4000
namespace Go.Dc
open Go
theorem evC_net {n:Int} {e:ForgeEvent} (hn:Net e) (h:evC n e=0):0≤e.N∧e.N≤1000000000:=by
  unfold evC at h;rw [if_pos hn] at h;unfold evN at h;by_cases hc:e.N < 0∨e.N > 1000000000
  · rw [if_pos hc] at h;simp at h
  · omega
theorem evC_dev {n:Int} {e:ForgeEvent} (hn:¬ Net e) (h:evC n e=0):(e.Kind=1∨e.Kind=2∨e.Kind=3∨e.Kind=8)∧0≤e.User∧e.User < n∧(e.Kind=3→Gz e.Key):=by
  unfold evC at h;rw [if_neg hn] at h;by_cases hk:e.Kind=1∨e.Kind=2∨e.Kind=3∨e.Kind=8
  · rw [if_pos hk] at h;unfold evD at h;by_cases hc:e.User < 0∨e.User ≥ n∨(e.Kind=3∧¬ Gz e.Key)
    · rw [if_pos hc] at h;simp at h
    · exact ⟨hk,by omega,by omega,fun h3=>Classical.not_not.1 fun h4=>hc (.inr (.inr ⟨h3,h4⟩))⟩
  · rw [if_neg hk] at h;simp at h
theorem Inv.sigs {keys:List Int} {n:Nat} {s:State_forge} (h:Inv keys n s):∀ m∈s.flight,Dig m.signature:=fun m hm=>(h.let_ m hm).sig
theorem LetOk.tmp1 {vs:List FileTree} {nk n:Nat} {m:Message_forge} (h:LetOk vs nk n m):LetOk vs nk n (tmp1 m):=⟨h.user,h.number,h.base,Vi,h.app⟩
theorem Qy {keys:List Int} {n:Nat} {s:State_forge} (h:Inv keys n s) (hn:n≤100) (hk:∀ k∈keys,Gz k) {e:ForgeEvent} (he:evC keys.length e=0):∃ c s',Gp s e=some (c,s')∧Inv keys (n+1) s':=by
  have hfl:=h.fl;obtain ⟨K,u,key,N,p⟩:=e;by_cases hnet:Net ⟨K,u,key,N,p⟩
  · obtain ⟨h0,h1⟩:=evC_net hnet he;simp only at h0 h1;obtain ⟨k,rfl⟩:=Int.eq_ofNat_of_zero_le h0;rcases hnet with rfl | rfl | rfl | rfl
    · have e:=H5 (u:=u) (k:=key) (n:=k) (p:=p) (s:=s) (by omega)
      by_cases hlt:k < s.flight.length
      · rw [dif_pos hlt] at e;have hm:=h.let_ _ (List.getElem_mem hlt);obtain ⟨D,ky,V,N,T,v,_,_,_,hD,hv,hvl,ha⟩:=step_del (h.drp k) hn hk hm;rw [ha] at e;split at e
        · exact ⟨_,_,e,(h.drp k).up⟩
        · split at e
          · exact ⟨_,_,e,(h.drp k).up⟩
          · exact ⟨_,_,e,(h.drp k).acc hm hD hv hvl⟩
      · rw [dif_neg hlt] at e;exact ⟨_,_,e,h.up⟩
    · have e:=step_drop (u:=u) (k:=key) (n:=k) (p:=p) (s:=s) (by omega)
      by_cases hlt:k < s.flight.length
      · rw [if_pos hlt] at e;exact ⟨_,_,e,(h.drp k).up⟩
      · rw [if_neg hlt] at e;exact ⟨_,_,e,h.up⟩
    · have e:=step_dup (u:=u) (k:=key) (n:=k) (p:=p) (s:=s) (by omega)
      by_cases hlt:k < s.flight.length
      · rw [dif_pos hlt] at e;by_cases h20:s.flight.length ≥ 20
        · rw [if_pos h20] at e;exact ⟨_,_,e,h.up⟩
        · rw [if_neg h20] at e;refine ⟨_,_,e,(h.setFl ?_ fun m hm=>?_).up⟩
          · rw [List.length_append,List.length_append,List.length_take,List.length_drop,List.length_singleton];omega
          · rw [List.mem_append,List.mem_append,List.mem_singleton] at hm;rcases hm with (hm | rfl) | hm
            · exact h.let_ m (List.mem_of_mem_take hm)
            · exact h.let_ _ (List.getElem_mem hlt)
            · exact h.let_ m (List.mem_of_mem_drop hm)
      · rw [dif_neg hlt] at e;exact ⟨_,_,e,h.up⟩
    · have e:=Qk (u:=u) (k:=key) (n:=k) (p:=p) (s:=s) h.sigs;by_cases hlt:k < s.flight.length
      · rw [dif_pos hlt] at e;refine ⟨_,_,e,(h.setFl ?_ fun m hm=>?_).up⟩
        · rw [List.length_set];exact hfl
        · rcases List.mem_or_eq_of_mem_set hm with hm | rfl
          · exact h.let_ m hm
          · exact (h.let_ _ (List.getElem_mem hlt)).tmp1
      · rw [dif_neg hlt] at e;exact ⟨_,_,e,h.up⟩
  · obtain ⟨hK,h0,h1,h3⟩:=evC_dev hnet he;simp only at hK h0 h1 h3;have hkl:=h.kl;obtain ⟨D,d1,d2,_⟩:=Ta (l:=s.developers) h0 (by rw [h.devs];exact h1)
    have hD:=h.dev D d2;obtain ⟨⟨V⟩,v1,v2,_⟩:=Ta (l:=s.versions) hD.base.1 hD.base.2;have hV:=h.tree _ v2;have hve:=h.vers;have hlog:=h.log;obtain ⟨v,N',hv,hN,hvl⟩:=h.newest;rcases hK with rfl | rfl | rfl | rfl
    · have e:=Tu (u:=u) (k:=key) (n:=N) (p:=p) d1 v1 hD.tree hv (by omega)
      by_cases hs:D.tree.Files=V
      · rw [if_pos hs] at e;refine ⟨_,_,e,(h.setDev _ ?_).up⟩;exact ⟨hN,⟨by show (0:Int)≤v.length;omega,by show (v.length:Int) < s.versions.length;omega⟩,hD.sent,hD.acc⟩
      · rw [if_neg hs] at e;exact ⟨_,_,e,h.up⟩
    · have e:=Tw (u:=u) (k:=key) (n:=N) (p:=p) d1;by_cases hc:(C8 p.Changes D.tree.Files).2.Code=0
      · rw [if_neg (by omega)] at e
        refine ⟨_,_,e,(h.setDev _ ?_).up⟩;exact ⟨(Of hc).2.2.2.2,hD.base,hD.sent,hD.acc⟩
      · rw [if_pos hc] at e;exact ⟨_,_,e,h.up⟩
    · have e:=U5 (u:=u) (key:=key) (n:=N) (p:=p) d1 v1 (h3 rfl) ⟨h0,by omega⟩ ⟨hD.sent.1,by have:=hD.sent.2;omega⟩ ⟨hD.base.1,by have:=hD.base.2;omega⟩
      by_cases hc:(Nq V D.tree.Files).2.Code=0
      · rw [if_neg (by omega)] at e
        split at e
        · exact ⟨_,_,e,h.up⟩
        · split at e
          · exact ⟨_,_,e,h.up⟩
          · next h20 =>
            refine ⟨_,_,e,?_⟩;have hS:Inv keys (n+1) ⟨s.keys,s.versions,s.developers.set u.toNat ⟨D.tree,D.base,D.sent+1,D.accepted⟩,s.flight,s.log⟩:=h.up.setDev _ ⟨hD.tree,hD.base,⟨by show 0≤D.sent+1;have:=hD.sent.1;omega,by show D.sent+1≤((n+1:Nat):Int);have:=hD.sent.2;omega⟩,⟨hD.acc.1,by have:=hD.acc.2;show D.accepted≤((n+1:Nat):Int);omega⟩⟩
            refine hS.setFl (by rw [List.length_append,List.length_singleton];omega) fun m hm=>?_
            rcases List.mem_append.1 hm with hm | hm
            · exact (h.let_ m hm).up
            · rw [List.mem_singleton] at hm;subst hm;have hsig:=letter_sig (u:=u) (D:=D) (q:=(Nq V D.tree.Files).1) (h3 rfl) ⟨h0,by omega⟩ ⟨hD.sent.1,by have:=hD.sent.2;omega⟩ ⟨hD.base.1,by have:=hD.base.2;omega⟩
              exact ⟨⟨h0,h1⟩,⟨by show 1≤D.sent+1;have:=hD.sent.1;omega,by show D.sent+1≤((n+1:Nat):Int);have:=hD.sent.2;omega⟩,hD.base.1,hsig.2,V,D.tree.Files,v1,hV,difT_app hc⟩
      · rw [if_pos hc] at e;exact ⟨_,_,e,h.up⟩
    · have e:=O4 (u:=u) (k:=key) (n:=N) (p:=p) d1 v1;exact ⟨_,_,e,(h.setDev u.toNat (D:=⟨⟨V⟩,D.base,D.sent,D.accepted⟩) ⟨hV,hD.base,hD.sent,hD.acc⟩).up⟩
theorem runs_tot {keys:List Int} (hk:∀ k∈keys,Gz k):∀ (l:List ForgeEvent) (n:Nat) (s:State_forge) (out:List Int),Inv keys n s→n+l.length≤100→(∀ e∈l,evC keys.length e=0) →
    ∃ s' out',Ov s out l=some (s',out')∧Inv keys (n+l.length) s'∧out'.length=out.length+l.length
  | [],n,s,out,h,_,_=>⟨s,out,rfl,h,by simp⟩
  | e::l,n,s,out,h,hn,he=>by
    rw [List.length_cons] at hn;obtain ⟨c,t,h1,h2⟩:=Qy h (by omega) hk (he e (by simp))
    obtain ⟨s',out',h3,h4,h5⟩:=runs_tot hk l (n+1) t (out++[c]) h2 (by omega) fun x hx=>he x (by simp [hx])
    refine ⟨s',out',by rw [He h1];exact h3,?_,?_⟩
    · rw [List.length_cons,show n+(l.length+1)=n+1+l.length by omega];exact h4
    · rw [h5,List.length_append,List.length_singleton,List.length_cons];omega
theorem U0:∀ (a b:List ForgeEvent) (s:State_forge) (out:List Int),Ov s out (a++b)=(Ov s out a).bind fun y=>Ov y.1 y.2 b
  | [],b,s,out=>rfl
  | e::a,b,s,out=>by
    rw [List.cons_append,Ov,Ov];cases Gp s e with
    | none=>rfl
    | some y=>simp only [Option.bind_some];exact U0 a b _ _
theorem inv0 {keys:List Int} (h:keys.length≤4):Inv keys 0 (st0 keys) where
  ks:=rfl
  kl:=h
  devs:=by simp [st0]
  vers:=by simp [st0]
  first:=rfl
  tree:=fun t ht=>by
    have:t=⟨[]⟩:=by simpa [st0] using ht
    subst this;exact Q5
  dev:=fun D hD=>by
    have:D=⟨⟨[]⟩,0,0,0⟩:=(List.mem_replicate.1 hD).2;subst this;exact ⟨Q5,⟨by simp,by simp [st0]⟩,⟨by simp,by simp⟩,⟨by simp,by simp⟩⟩
  fl:=by simp [st0]
  let_:=fun m hm=>by simp [st0] at hm
  log:=by simp [st0]
  ent:=fun e he=>by simp [st0] at he
  rep:=fun k hk=>by simp [st0] at hk
theorem Ve {keys:List Int} {events:List ForgeEvent} (hv:(fvF keys events).Code=0):∃ s out t v,Ov (st0 keys) [] events=some (s,out)∧Inv keys events.length s∧out.length=events.length∧s.versions=v++[⟨t⟩]∧TrOk t∧v.length=s.log.length ∧
    Ej keys events=some (⟨t⟩,s.log,out,⟨0,0⟩):=by
  obtain ⟨⟨k1,k2,k3⟩,e1,e2⟩:=(N0 keys events).1 hv;obtain ⟨s,out,h1,h2,h3⟩:=runs_tot k3 events 0 (st0 keys) [] (inv0 k2) (by omega) e2
  rw [Nat.zero_add] at h2;obtain ⟨v,t,h4,h5,h6⟩:=h2.newest;have:=h2.vers;have:=h2.log;exact ⟨s,out,t,v,h1,h2,by simpa using h3,h4,h5,h6,Run_f hv h1 h4 (by omega) h5⟩
end Go.Dc
set_option linter.unusedSimpArgs false
set_option linter.unusedVariables false
set_option maxRecDepth 4000
namespace Go.Dc
open Go
theorem mg_empty {R:List File} (hR:TrOk R) (p q:TreePatch):Ox [] [] R=R∧tmFst [] [] R p q=[]∧tmSec [] [] R p q=[]:=by
  refine tm_left Q5 Q5 hR (fun x=>?_) p q;show mgO Option.none Option.none (lk R x)=_;have h0:OkO Option.none:=fun _ h=>by cases h
  by_cases h:lk R x=Option.none
  · rw [mgO_l h0 h0 (lk_ok hR x) (.inl h),h]
  · rw [mgO_r h0 h0 (lk_ok hR x) (by rintro (h2 | h2) <;> exact h h2) rfl]
theorem accG_empty {s:State_forge} {m:Message_forge} {D:Developer_forge} {R:List File} (hR:TrOk R) :
    accG s m D [] [] R=(0,⟨s.keys,s.versions++[⟨R⟩],s.developers.set m.user.toNat ⟨D.tree,D.base,D.sent,m.number⟩,s.flight,s.log++[⟨m.user,m.number,⟨Lp [] R⟩⟩]⟩):=by
  unfold accG;obtain ⟨h1,h2,h3⟩:=mg_empty hR ⟨Lp [] []⟩ m.patch;have:=hR.len;rw [h1,h2,h3,difN Q5,if_neg (by simp),if_neg (by omega),if_neg (by simp),difN hR,if_neg (by simp)]
def evE (u:Int) (p:TreePatch):ForgeEvent:=⟨2,u,0,0,p⟩
def evP (u key:Int):ForgeEvent:=⟨3,u,key,0,⟨[]⟩⟩
def evL (n:Int):ForgeEvent:=⟨4,0,0,n,⟨[]⟩⟩
theorem evE_c {n u:Int} (h0:0≤u) (h1:u < n) (p:TreePatch):evC n (evE u p)=(pcF p.Changes).Code:=by
  unfold evC evE;rw [if_neg (not_net2 u 0 0 p),if_pos (by simp)]
  unfold evD;rw [if_neg (by rintro (h | h | h);exact absurd h (by show ¬ u < 0;omega);exact absurd h (by show ¬ u ≥ n;omega);exact absurd h.1 (by simp)),if_pos rfl]
theorem evP_c {n u key:Int} (h0:0≤u) (h1:u < n):evC n (evP u key)=if Gz key then 0 else 3:=by
  unfold evC evP;rw [if_neg (not_net3 u key 0 _),if_pos (by simp)]
  unfold evD;by_cases hk:Gz key
  · rw [if_neg (by rintro (h | h | h);exact absurd h (by show ¬ u < 0;omega);exact absurd h (by show ¬ u ≥ n;omega);exact h.2 hk),if_neg (by simp),if_pos hk]
  · rw [if_pos (.inr (.inr ⟨rfl,hk⟩)),if_neg hk]
theorem evL_c {n k:Int} (h0:0≤k) (h1:k≤1000000000):evC n (evL k)=0:=by
  unfold evC evL;rw [if_pos (net4 0 0 k _)];unfold evN;rw [if_neg (by rintro (h | h);exact absurd h (by show ¬ k < 0;omega);exact absurd h (by show ¬ k > 1000000000;omega))]
def evs1 (key:Int) (p:TreePatch):List ForgeEvent:=[evE 0 p,evP 0 key,evL 0]
theorem fv1 (key:Int) (p:TreePatch):(fvF [key] (evs1 key p)).Code=0↔Gz key∧(pcF p.Changes).Code=0:=by
  rw [N0];have e1:=evE_c (n:=([key]:List Int).length) (u:=0) (by omega) (by simp) p
  have e2:=evP_c (n:=([key]:List Int).length) (u:=0) (key:=key) (by omega) (by simp)
  have e3:=evL_c (n:=([key]:List Int).length) (k:=0) (by omega) (by omega)
  constructor
  · rintro ⟨⟨_,_,hk⟩,_,he⟩;exact ⟨hk key (by simp),by rw [← e1];exact he _ (by simp [evs1])⟩
  · rintro ⟨hk,hp⟩;refine ⟨⟨by simp,by simp,fun k h=>by rw [List.mem_singleton] at h;rw [h];exact hk⟩,by simp [evs1],fun e he=>?_⟩
    unfold evs1 at he;simp only [List.mem_cons,List.not_mem_nil,or_false] at he;rcases he with rfl | rfl | rfl
    · rw [e1];exact hp
    · rw [e2,if_pos hk]
    · exact e3
theorem ap_tr (p:List TreeChange):TrOk (C8 p []).1:=by
  by_cases h:(C8 p []).2.Code=0
  · exact (Of h).2.2.2.2
  · rw [applyT_fail h];exact Q5
theorem difL_nil {b:List File}:Lp [] b=[]↔b=[]:=by
  unfold Lp;simp only [List.filterMap_nil,List.nil_append];cases b with
  | nil=>simp
  | cons f r=>simp [adOf,Gc]
def s1 (key:Int) (t:List File):State_forge:=⟨[key],[⟨[]⟩],[⟨⟨t⟩,0,0,0⟩],[],[]⟩
def s3 (key:Int) (t:List File):State_forge:=⟨[key],[⟨[]⟩,⟨t⟩],[⟨⟨t⟩,0,1,1⟩],[],[⟨0,1,⟨Lp [] t⟩⟩]⟩
theorem first_runs {key:Int} (hk:Gz key) (p:TreePatch):Ov (st0 [key]) [] (evs1 key p)=some (if (C8 p.Changes []).1=[] then (s1 key (C8 p.Changes []).1,[(C8 p.Changes []).2.Code,11,6]) else (s3 key (C8 p.Changes []).1,[(C8 p.Changes []).2.Code,0,0])):=by
  have ht:=ap_tr p.Changes
  have step1:Gp (st0 [key]) (evE 0 p)=some ((C8 p.Changes []).2.Code,s1 key (C8 p.Changes []).1):=by
    unfold evE;rw [Tw (D:=⟨⟨[]⟩,0,0,0⟩) rfl];simp only;by_cases h:(C8 p.Changes []).2.Code=0
    · rw [if_neg (by omega),h];rfl
    · rw [if_pos h,applyT_fail h];rfl
  unfold evs1;rw [He step1];generalize (C8 p.Changes []).2.Code=c0;generalize (C8 p.Changes []).1=t at ht ⊢
  have step2:Gp (s1 key t) (evP 0 key)=some (if t=[] then (11,s1 key t) else (0,pushS (s1 key t) 0 ⟨⟨t⟩,0,0,0⟩ key ⟨Lp [] t⟩)):=by
    unfold evP;rw [U5 (D:=⟨⟨t⟩,0,0,0⟩) (V:=[]) rfl rfl hk (by omega) (by simp) (by simp)]
    simp only;rw [difN ht];simp only [ne_eq,not_true_eq_false,if_false,difL_nil];rfl
  by_cases h:t=[]
  · rw [if_pos h] at step2 ⊢;rw [He step2]
    have step3:Gp (s1 key t) (evL 0)=some (6,s1 key t):=by
      unfold evL;rw [show (0:Int)=((0:Nat):Int) from rfl,H5 (by show 0≤1000;omega),dif_neg (by show ¬ 0 < 0;omega)]
    rw [He step3];rfl
  · rw [if_neg h] at step2 ⊢;rw [He step2]
    have step3:Gp (pushS (s1 key t) 0 ⟨⟨t⟩,0,0,0⟩ key ⟨Lp [] t⟩) (evL 0)=some (0,s3 key t):=by
      unfold evL;rw [show (0:Int)=((0:Nat):Int) from rfl,H5 (by show 1≤1000;omega),dif_pos (by show 0 < 1;omega)]
      have hl:=letter_sig (u:=0) (D:=⟨⟨t⟩,0,0,0⟩) (q:=⟨Lp [] t⟩) hk (by omega) (by simp) (by simp)
      have hm:=letter_ok (u:=0) (D:=⟨⟨t⟩,0,0,0⟩) (key:=key) (q:=⟨Lp [] t⟩) (by omega) (by simp) (by simp)
      show Bn (drp (pushS (s1 key t) 0 ⟨⟨t⟩,0,0,0⟩ key ⟨Lp [] t⟩) 0) (Qd 0 ⟨⟨t⟩,0,0,0⟩ key ⟨Lp [] t⟩)=_;have hA:(C8 (Qd 0 ⟨⟨t⟩,0,0,0⟩ key ⟨Lp [] t⟩).patch.Changes [])=(t,⟨0,0⟩):=apN ht;rw [accept_g (D:=⟨⟨t⟩,0,1,0⟩) (key:=key) (V:=[]) (N:=[]) (T:=t) (v:=[]) rfl rfl hk hm hl.2 rfl rfl (by simp) (by show 0≤1000;omega) Q5 Q5 hA,if_neg (fun h=>h hl.1.symm),if_neg (by show ¬ (0+1:Int)≤0;omega),accG_empty ht]
      rfl
    rw [He step3];rfl
theorem first_run {key:Int} {p:TreePatch} (hk:Gz key) (hp:(pcF p.Changes).Code=0) :
    Ej [key] (evs1 key p)=some (⟨(C8 p.Changes []).1⟩,(if (C8 p.Changes []).1=[] then [] else [⟨0,1,⟨Lp [] (C8 p.Changes []).1⟩⟩]),(if (C8 p.Changes []).1=[] then [(C8 p.Changes []).2.Code,11,6] else [(C8 p.Changes []).2.Code,0,0]),⟨0,0⟩):=by
  have hr:=first_runs hk p;have hv:=(fv1 key p).2 ⟨hk,hp⟩;have ht:=ap_tr p.Changes;by_cases h:(C8 p.Changes []).1=[]
  · rw [if_pos h] at hr;rw [if_pos h,if_pos h,Run_f hv hr (v:=[]) (t:=(C8 p.Changes []).1) (by show [(⟨[]⟩:FileTree)]=_;rw [h];rfl) (by simp) ht]
    rfl
  · rw [if_neg h] at hr;rw [if_neg h,if_neg h,Run_f hv hr (v:=[⟨[]⟩]) (t:=(C8 p.Changes []).1) rfl (by simp) ht]
    rfl
theorem ints_refl (l:List Int) (h:l.length≤1000):Cy l l=some true:=by
  rw [ints_eq l l (by omega),decide_eq_true rfl]
theorem entry_refl {u n:Int} {c:List TreeChange} (h:∀ x∈c,OkCh x) (hl:c.length≤1000):Bh [⟨u,n,⟨c⟩⟩] [⟨u,n,⟨c⟩⟩]=some true:=by
  unfold Bh;rw [if_neg (by simp)]
  have e1:Bh.l1 [⟨u,n,⟨c⟩⟩] [⟨u,n,⟨c⟩⟩] 0=some (.next 1):=by
    unfold Bh.l1;rw [Av,if_pos (by simp)]
    rw [show at? ([⟨u,n,⟨c⟩⟩]:List ForgeEntry) 0=some ⟨u,n,⟨c⟩⟩ from rfl,Option.bind_some,Option.bind_some];simp only [decide_true,Bool.not_true,Bool.false_eq_true,if_false,Option.bind_some,tp_refl h hl];rw [Bz (by omega) (by omega)];rfl
  have e2:Bh.l1 [⟨u,n,⟨c⟩⟩] [⟨u,n,⟨c⟩⟩] 1=some (.done (.inr ())):=by
    unfold Bh.l1;rw [Av,if_neg (by simp)]
  rw [B8 e1,Bx e2,Option.bind_some];rfl
theorem x_okt:G8 [(⟨#[120]⟩:ByteArray)]:=(E0 _).2 ((Dh _).2 (by decide +kernel))
theorem a_tr:TrOk [⟨⟨#[97]⟩,[⟨#[120]⟩]⟩]:=one_ok (by decide +kernel) x_okt
theorem Eh:Bf=some true:=by
  have hd:Lp [] [⟨⟨#[97]⟩,[⟨#[120]⟩]⟩]=[⟨1,⟨#[97]⟩,ByteArray.empty,[⟨#[120]⟩],⟨[]⟩⟩]:=by simp [Lp,adOf,Gc]
  have hA:=apN a_tr;have hO:=(dif_ok Q5 a_tr).1;rw [hd] at hA hO;have hp:(pcF [⟨1,⟨#[97]⟩,ByteArray.empty,[⟨#[120]⟩],⟨[]⟩⟩]).Code=0:=(U3 _).2 ⟨by simp,hO⟩
  have hr:=first_run (key:=5) (p:=⟨[⟨1,⟨#[97]⟩,ByteArray.empty,[⟨#[120]⟩],⟨[]⟩⟩]⟩) ⟨by omega,by omega⟩ hp
  simp only at hr;rw [hA] at hr;simp only [List.cons_ne_nil,if_false,hd,reduceCtorEq] at hr;unfold Bf Kq;rw [Option.bind_some];have hr2:=hr;unfold evs1 evE evP evL at hr2;rw [hr2,Option.bind_some];simp only [decide_true,if_true];unfold Lw;rw [Option.bind_some,tree_ok a_tr,Option.bind_some,if_pos rfl,entry_refl hO (by simp),Option.bind_some,if_pos rfl,ints_refl _ (by simp),Option.bind_some]
  rfl
theorem log_replays (keys:List Int) (events:List ForgeEvent):Bd keys events=some true:=by
  unfold Bd;by_cases hv:(fvF keys events).Code=0
  · obtain ⟨s,out,t,v,_,h,_,hvs,ht,hvl,hr⟩:=Ve hv;have hlog:=h.log;have hve:=h.vers;have h40:=((N0 keys events).1 hv).2.1;rw [hr,Option.bind_some];simp only [decide_true,Bool.not_true,Bool.false_eq_true,if_false]
    obtain ⟨r,e,rfl⟩:=Mu (f:=fun x:Int×List File=>Bd.l1 (⟨t⟩,s.log,out,⟨0,0⟩) x.1 x.2) s.log.length (fun k l=>s.versions[k]? = some ⟨l⟩) (fun r=>r=.inr t) (by
      intro k l hk hl;obtain ⟨A,B,h1,h2,h3⟩:=h.rep k hk;rw [hl] at h1;cases h1;refine ⟨B,?_,h2⟩;unfold Bd.l1;simp only;rw [Av,if_pos (by omega),Cb hk,Option.bind_some,Apply_f,Option.bind_some]
      unfold Bd.j2;simp only;rw [h3];simp only [decide_true,Bool.not_true,Bool.false_eq_true,if_false];rw [Bz (by omega) (by omega),Option.bind_some];rfl) (by
      intro l hl;rw [hvs,← hvl] at hl;have:l=t:=by simpa using hl.symm
      subst this;unfold Bd.l1;simp only;rw [Av,if_neg (by omega)]
      exact ⟨_,rfl,rfl⟩) [] h.first
    rw [e,Option.bind_some];simp only;unfold Bd.j1;simp only;rw [tree_ok ht,Option.bind_some,if_pos rfl,Vu,Option.bind_some];simp only;rw [tf_ok ht];simp [Eh]
  · rw [Run_bad hv,Option.bind_some];simp [hv,Eh]
end Go.Dc
