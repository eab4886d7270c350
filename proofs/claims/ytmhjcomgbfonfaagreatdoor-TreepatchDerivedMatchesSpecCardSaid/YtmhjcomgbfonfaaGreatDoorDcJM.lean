import Derived.Test.YtmhjcomgbfonfaaGreatDoorDcJL
set_option linter.unusedSimpArgs false
set_option linter.unusedVariables false
namespace Go.Dc
open Go
theorem linesAt_of {a:List File} (ha:TSrt a) {f:File} (hf:f∈a):H6 a f.Path=f.Lines:=by
  obtain ⟨hp,h1,h2⟩:=mem_has ha (P:=f.Path) (L:=f.Lines) (by cases f;exact hf)
  unfold H6;rw [List.getElem?_eq_getElem hp,h2]
def edO (a:List File) (f:File):Option TreeChange:=if Lc a f.Path=true∧H6 a f.Path≠f.Lines then some (edF f.Path ⟨Lh (H6 a f.Path) f.Lines⟩) else Option.none
theorem ed_pw {b:List File} {F:File→Option TreeChange} (hF:∀ f c,F f=some c→c.Path=f.Path) {a:List File} (ha:TSrt a):(a.filterMap F).Pairwise fun c d=>sLt c.Path d.Path=true:=by
  rw [List.pairwise_filterMap];refine ha.imp ?_;intro f g h c hc d hd;rw [hF f c hc,hF g d hd];exact h
theorem ed_eq {a b:List File} (ha:TrOk a) (hb:TrOk b):a.filterMap (edOf b)=b.filterMap (edO a):=by
  refine pw_ext (R:=fun c d:TreeChange=>sLt c.Path d.Path=true) (fun x y h h2=>?_) (ed_pw (b:=b) ?_ ha.srt) (ed_pw (b:=a) ?_ hb.srt) ?_
  · have:=Qa h h2;rw [Od] at this;cases this
  · intro f c h;unfold edOf at h;split at h
    · cases h;rfl
    · cases h
  · intro f c h;unfold edO at h;split at h
    · cases h;rfl
    · cases h
  · intro c;rw [List.mem_filterMap,List.mem_filterMap];constructor
    · rintro ⟨f,hf,e⟩;unfold edOf at e;split at e
      · rename_i hh
        cases e;have hl:=linesAt_of ha.srt hf;refine ⟨⟨f.Path,H6 b f.Path⟩,linesAt_mem hb hh.1,?_⟩;unfold edO;simp only;rw [if_pos ⟨has_mem hf,fun e=>hh.2 (by rw [← hl,e];exact script_self _)⟩,hl]
      · cases e
    · rintro ⟨g,hg,e⟩;unfold edO at e;split at e
      · rename_i hh
        cases e;have hl:=linesAt_of hb.srt hg;have hm:=linesAt_mem ha hh.1;refine ⟨⟨g.Path,H6 a g.Path⟩,hm,?_⟩;unfold edOf;simp only;have hne:Lh (H6 a g.Path) g.Lines≠[]:=fun e=>hh.2 ((script_ok (ha.text _ hm) (hb.text _ hg)).2.2 e);rw [hl,if_pos ⟨has_mem hg,hne⟩]
      · cases e
def difT (a b:List File):TreePatch×Fault :=
  if (Da a).Code≠0 then (⟨[]⟩,Da a) else if (Da b).Code≠0 then (⟨[]⟩,⟨(Da b).Code,-2⟩) else if (difL a b).length > 30 then (⟨[]⟩,⟨10,-1⟩) else (⟨difL a b⟩,⟨0,0⟩)
theorem tdifT_f (a b:List File):Bk ⟨a⟩ ⟨b⟩=some (difT a b):=by
  unfold Bk difT;rw [Validate_f,Option.bind_some];simp only;rcases Qm a with h | h
  · have ha:=(Gz a).1 (by rw [h])
    rw [if_neg (by rw [h];decide),tsecond_f,Option.bind_some,if_neg (show ¬ (Da a).Code≠0 by rw [h];decide)]
    simp only;by_cases hb0:(Da b).Code=0
    · have hb:=(Gz b).1 hb0;have hal:=ha.len;have hbl:=hb.len;have i2:=diff2_iter ha hb a 0 [] [] rfl (Nat.le_refl _) (Nat.le_refl _);have i1:=diff1_iter ha hb b 0 [] rfl (Nat.le_refl _);rw [show ((0:Nat):Int)=0 from rfl] at i1 i2;have f1:=List.length_filterMap_le (edOf b) a;have f2:=List.length_filterMap_le (N8 b) a;have f3:=List.length_filterMap_le (Qo a) b;rw [if_pos hb0,if_neg (by decide),i2,Option.bind_some,if_neg (fun hn=>hn hb0)]
      unfold Bk.j1 Bk.j2 difL;rw [i1,Option.bind_some];simp only [List.nil_append];rw [concat3 (by omega) (by omega) (by omega),Option.bind_some]
      by_cases h30:((a.filterMap (N8 b)++a.filterMap (edOf b)++b.filterMap (Qo a)).length:Int) > 30
      · rw [decide_eq_true h30,if_pos rfl,if_pos (by omega)]
      · rw [decide_eq_false h30,if_neg Bool.false_ne_true,if_neg (by omega)]
    · rw [if_neg hb0,if_pos (by simp [hb0]),if_pos hb0]
  · rw [if_pos (by simp [h]),if_pos h]
theorem twoTrees_f (a b:List File):Dp ⟨a⟩ ⟨b⟩=some (if (Da a).Code≠0 then Da a else if (Da b).Code≠0 then ⟨(Da b).Code,-2⟩ else ⟨0,0⟩):=by
  unfold Dp;rw [TreeFault_f,Option.bind_some];simp only;rcases Qm a with h | h
  · rw [if_neg (show ¬ (Da a).Code≠0 by rw [h];decide),decide_eq_true (show (Da a).Code=0 by rw [h]),if_pos rfl,TreeFault_f,Option.bind_some,Option.bind_some]
    simp only;by_cases h2:(Da b).Code=0
    · rw [if_neg (by simp [h2]),if_neg (fun hn=>hn h2),h];rfl
    · rw [if_pos (by simp [h2]),if_pos h2,Option.bind_some];rfl
  · rw [if_pos h,decide_eq_false h,if_neg Bool.false_ne_true,Option.bind_some,if_neg Bool.false_ne_true];rfl
theorem rdif3_iter {a b:List File} (ha:TrOk a) (hb:TrOk b):∀ (r:List File) (k:Nat) (e:List TreeChange),a.drop k=r→e.length≤k →
    Dm (fun s=>Al.l3 ⟨a⟩ ⟨b⟩ s.1 s.2) ((k:Int),e)=some (e++r.filterMap (N8 b)):=by
  intro r
  induction r with
  | nil =>
    intro k e hk _;have:=Er hk;refine B1 ?_;show Al.l3 ⟨a⟩ ⟨b⟩ _ _=_;unfold Al.l3;simp only;rw [decide_eq_false (by omega),if_neg Bool.false_ne_true]
    simp
  | cons f r ih =>
    intro k e hk he;obtain ⟨hlt,hx,hr⟩:=E0 hk;have hal:=ha.len;have hbl:=hb.len
    have j3:∀ (u:List TreeChange),Al.j6 (k:Int) u=some (Step.next (((k+1:Nat):Int),u)):=by
      intro u;unfold Al.j6;rw [Ck (by omega) (by omega),Option.bind_some];rfl
    have hs:Al.l3 ⟨a⟩ ⟨b⟩ (k:Int) e=some (Step.next (((k+1:Nat):Int),e++(N8 b f).toList)):=by
      unfold Al.l3 N8;simp only;rw [decide_eq_true (by omega),if_pos rfl,Ci hlt,Option.bind_some,hx,FileAt_f hb.srt (by omega),Option.bind_some]
      cases hh:Lc b f.Path with
      | false =>
        rw [if_neg Bool.false_ne_true,decide_eq_true (by omega),if_pos rfl,Option.bind_some,Option.bind_some,G0 (by simp;omega),Option.bind_some,j3]
        simp
      | true =>
        rw [if_pos rfl,decide_eq_false (by omega),if_neg Bool.false_ne_true,j3]
        simp
    rw [B8 (s':=(((k+1:Nat):Int),e++(N8 b f).toList)) hs];have l1:(N8 b f).toList.length≤1:=by cases N8 b f <;> simp
    rw [ih (k+1) _ hr (by rw [List.length_append];omega),List.append_assoc]
    cases h1:N8 b f <;> simp [List.filterMap_cons,h1]
theorem rdif2_iter {a b:List File} (ha:TrOk a) (hb:TrOk b):∀ (r:List File) (k:Nat) (e:List TreeChange),b.drop k=r→e.length≤100+k →
    Dm (fun s=>Al.l2 ⟨a⟩ ⟨b⟩ s.1 s.2) ((k:Int),e)=some (e++r.filterMap (edO a)):=by
  intro r
  induction r with
  | nil =>
    intro k e hk _;have:=Er hk;refine B1 ?_;show Al.l2 ⟨a⟩ ⟨b⟩ _ _=_;unfold Al.l2;simp only;rw [decide_eq_false (by omega),if_neg Bool.false_ne_true]
    simp
  | cons f r ih =>
    intro k e hk he;obtain ⟨hlt,hx,hr⟩:=E0 hk;have hfm:f∈b:=hx ▸ List.getElem_mem hlt;have hft:=hb.text_len hfm;have hal:=ha.len;have hbl:=hb.len
    have j3:∀ (u:List TreeChange),Al.j5 (k:Int) u=some (Step.next (((k+1:Nat):Int),u)):=by
      intro u;unfold Al.j5;rw [Ck (by omega) (by omega),Option.bind_some];rfl
    have hs:Al.l2 ⟨a⟩ ⟨b⟩ (k:Int) e=some (Step.next (((k+1:Nat):Int),e++(edO a f).toList)):=by
      unfold Al.l2 edO;simp only;rw [decide_eq_true (by omega),if_pos rfl,Ci hlt,Option.bind_some,hx,FileAt_f ha.srt (by omega),Option.bind_some]
      cases hh:Lc a f.Path with
      | false =>
        rw [if_neg Bool.false_ne_true,decide_eq_false (by omega),if_neg Bool.false_ne_true,Option.bind_some,if_neg Bool.false_ne_true,j3]
        simp
      | true =>
        obtain ⟨hp,hpe⟩:=has_pos ha.srt hh;have hgm:=List.getElem_mem hp;have hgt:=ha.text_len hgm
        have hla:H6 a f.Path=a[Eb a f.Path].Lines:=by
          unfold H6;rw [List.getElem?_eq_getElem hp]
        rw [if_pos rfl,decide_eq_true (by omega),if_pos rfl,Ci hp,Option.bind_some,Option.bind_some,requal_f _ _ (by omega),Option.bind_some,Option.bind_some,hla]
        by_cases he2:a[Eb a f.Path].Lines=f.Lines
        · rw [decide_eq_true he2,if_neg (by decide),j3,if_neg (fun hn=>hn.2 he2)]
          simp
        · rw [decide_eq_false he2,if_pos (by decide),Option.bind_some,Option.bind_some,Option.bind_some,rscript_f (by omega) (by omega),Option.bind_some,G0 (by simp;omega),Option.bind_some,j3,if_pos ⟨rfl,he2⟩]
          simp [edF]
    rw [B8 (s':=(((k+1:Nat):Int),e++(edO a f).toList)) hs];have l1:(edO a f).toList.length≤1:=by cases edO a f <;> simp
    rw [ih (k+1) _ hr (by rw [List.length_append];omega),List.append_assoc]
    cases h1:edO a f <;> simp [List.filterMap_cons,h1]
theorem rdif1_iter {a b:List File} (ha:TrOk a) (hb:TrOk b):∀ (r:List File) (k:Nat) (e:List TreeChange),b.drop k=r→e.length≤200+k →
    Dm (fun s=>Al.l1 ⟨a⟩ ⟨b⟩ s.1 s.2) ((k:Int),e)=some (e++r.filterMap (Qo a)):=by
  intro r
  induction r with
  | nil =>
    intro k e hk _;have:=Er hk;refine B1 ?_;show Al.l1 ⟨a⟩ ⟨b⟩ _ _=_;unfold Al.l1;simp only;rw [decide_eq_false (by omega),if_neg Bool.false_ne_true]
    simp
  | cons f r ih =>
    intro k e hk he;obtain ⟨hlt,hx,hr⟩:=E0 hk;have hal:=ha.len;have hbl:=hb.len
    have j3:∀ (u:List TreeChange),Al.j4 (k:Int) u=some (Step.next (((k+1:Nat):Int),u)):=by
      intro u;unfold Al.j4;rw [Ck (by omega) (by omega),Option.bind_some];rfl
    have hs:Al.l1 ⟨a⟩ ⟨b⟩ (k:Int) e=some (Step.next (((k+1:Nat):Int),e++(Qo a f).toList)):=by
      unfold Al.l1 Qo;simp only;rw [decide_eq_true (by omega),if_pos rfl,Ci hlt,Option.bind_some,hx,FileAt_f ha.srt (by omega),Option.bind_some]
      cases hh:Lc a f.Path with
      | false =>
        rw [if_neg Bool.false_ne_true,decide_eq_true (by omega),if_pos rfl,Option.bind_some,Option.bind_some,G0 (by simp;omega),Option.bind_some,j3]
        simp
      | true =>
        rw [if_pos rfl,decide_eq_false (by omega),if_neg Bool.false_ne_true,j3]
        simp
    rw [B8 (s':=(((k+1:Nat):Int),e++(Qo a f).toList)) hs];have l1:(Qo a f).toList.length≤1:=by cases Qo a f <;> simp
    rw [ih (k+1) _ hr (by rw [List.length_append];omega),List.append_assoc]
    cases h1:Qo a f <;> simp [List.filterMap_cons,h1]
theorem rdifT_f (a b:List File):Al ⟨a⟩ ⟨b⟩=some (difT a b):=by
  unfold Al difT;rw [twoTrees_f,Option.bind_some];by_cases h1:(Da a).Code=0
  · by_cases h2:(Da b).Code=0
    · have ha:=(Gz a).1 h1;have hb:=(Gz b).1 h2;have hal:=ha.len;have hbl:=hb.len;have f1:=List.length_filterMap_le (N8 b) a;have f2:=List.length_filterMap_le (edO a) b;have i3:=rdif3_iter ha hb a 0 [] rfl (Nat.le_refl _);have i2:=rdif2_iter ha hb b 0 (a.filterMap (N8 b)) rfl (by omega)
      have i1:=rdif1_iter ha hb b 0 (a.filterMap (N8 b)++b.filterMap (edO a)) rfl (by rw [List.length_append];omega)
      rw [show ((0:Nat):Int)=0 from rfl] at i1 i2 i3;have g1:¬ (Da a).Code≠0:=fun hn=>hn h1;have g2:¬ (Da b).Code≠0:=fun hn=>hn h2;simp only [if_neg g1,if_neg g2];rw [if_neg (by decide),i3,Option.bind_some,List.nil_append]
      unfold Al.j1 Al.j2 Al.j3 difL;rw [i2,Option.bind_some,i1,Option.bind_some,← ed_eq ha hb];by_cases h30:((a.filterMap (N8 b)++a.filterMap (edOf b)++b.filterMap (Qo a)).length:Int) > 30
      · rw [decide_eq_true h30,if_pos rfl,if_pos (by omega)];rfl
      · rw [decide_eq_false h30,if_neg Bool.false_ne_true,if_neg (by omega)]
    · have g1:¬ (Da a).Code≠0:=fun hn=>hn h1;have g2:(Da b).Code≠0:=h2;simp only [if_neg g1,if_pos g2];rw [if_pos (by simp [h2])]
  · have g1:(Da a).Code≠0:=h1;simp only [if_pos g1];rw [if_pos (by simp [h1])]
theorem tp_refl {l:List TreeChange} (h:∀ c∈l,OkCh c) (hl:l.length≤1000):Br ⟨l⟩ ⟨l⟩=some true:=by
  unfold Br;simp only;rw [if_neg (by simp),scan0 l (fun _ _=>(Option.none:Option Bool)) ?_ ?_,Option.bind_some]
  · have:Gt (fun _ _=>(Option.none:Option Bool)) 0 l=Option.none:=by rw [Mo];intro j hj;rfl
    rw [this];rfl
  · intro k hk _;unfold Br.l1;simp only;rw [decide_eq_true (by omega),if_pos rfl,Ci hk,Option.bind_some,Option.bind_some,refl_ok (h _ (List.getElem_mem hk)),Option.bind_some,if_neg (by decide),Ck (by omega) (by omega),Option.bind_some];rfl
  · unfold Br.l1;rw [decide_eq_false (by simp),if_neg Bool.false_ne_true]
theorem invL_ok {p:List TreeChange} (hp:∀ c∈p,OkCh c):∀ (k:Nat) (out:List TreeChange),(∀ c∈out,OkCh c) →
    match invL p k out with
    | .inl x=>x.1=⟨[]⟩
    | .inr l=>(∀ c∈l,OkCh c)∧l.length≤out.length+k:=by
  intro k
  induction k with
  | zero=>intro out ho;exact ⟨ho,Nat.le_refl _⟩
  | succ k ih =>
    intro out ho;rw [invL];cases hc:p[k]? with
    | none=>exact ⟨ho,by omega⟩
    | some c =>
      simp only;have hcm:=hp c (List.mem_of_getElem? hc);by_cases hb:c.Kind=4∧(Oy c.Patch).2.Code≠0
      · rw [if_pos hb]
      · rw [if_neg hb]
        have ho1:invOk c:=by
          intro k4;by_cases hf:(Oy c.Patch).2.Code=0
          · exact hf
          · exact absurd ⟨k4,hf⟩ hb
        have:=ih (out++[invC c]) (fun d hd=>by
          rcases List.mem_append.1 hd with hd | hd
          · exact ho d hd
          · rw [List.mem_singleton] at hd;subst hd;exact invC_ok hcm ho1)
        revert this;cases invL p k (out++[invC c]) with
        | inl x=>exact id
        | inr l=>rintro ⟨q1,q2⟩;refine ⟨q1,?_⟩;rw [List.length_append,List.length_singleton] at q2;omega
theorem tp_nil:Br ⟨[]⟩ ⟨[]⟩=some true:=tp_refl (by simp) (by simp)
theorem invT_refl (p:List TreeChange):Br (invT p).1 (invT p).1=some true:=by
  unfold invT;by_cases h:(pcF p).Code=0
  · obtain ⟨hl,hp⟩:=(pcF_zero p).1 h;rw [if_neg (fun hn=>hn h)];have:=invL_ok hp p.length [] (by simp)
    revert this;cases invL p p.length [] with
    | inl x=>intro q;simp only at q ⊢;rw [q];exact tp_nil
    | inr l=>rintro ⟨q1,q2⟩;exact tp_refl q1 (by simp at q2;omega)
  · rw [if_pos h];exact tp_nil
theorem difL_ok {a b:List File} (ha:TrOk a) (hb:TrOk b):∀ c∈difL a b,OkCh c:=by
  intro c hc;unfold difL at hc;rw [List.mem_append,List.mem_append,List.mem_filterMap,List.mem_filterMap,List.mem_filterMap] at hc;rcases hc with (⟨f,hf,e⟩ | ⟨f,hf,e⟩) | ⟨f,hf,e⟩
  · unfold N8 at e;split at e
    · cases e
    · cases e;exact ch_ok (.inr rfl) (ha.path f hf) (ha.text f hf)
  · unfold edOf at e;split at e
    · rename_i hh
      cases e;exact okCh_ed (ha.path f hf) hh.2 (script_ok (ha.text f hf) (hb.text _ (linesAt_mem hb hh.1))).1
    · cases e
  · unfold Qo at e;split at e
    · cases e
    · cases e;exact ch_ok (.inl rfl) (hb.path f hf) (hb.text f hf)
theorem difT_refl (a b:List File):Br (difT a b).1 (difT a b).1=some true:=by
  unfold difT;by_cases h1:(Da a).Code=0
  · rw [if_neg (fun hn=>hn h1)];by_cases h2:(Da b).Code=0
    · rw [if_neg (fun hn=>hn h2)];by_cases h3:(difL a b).length > 30
      · rw [if_pos h3];exact tp_nil
      · rw [if_neg h3];exact tp_refl (difL_ok ((Gz a).1 h1) ((Gz b).1 h2)) (by omega)
    · rw [if_pos h2];exact tp_nil
  · rw [if_pos h1];exact tp_nil
theorem derived_matches (p:TreePatch) (a b:FileTree):Dv p a b=some true:=by
  obtain ⟨p⟩:=p;obtain ⟨a⟩:=a;obtain ⟨b⟩:=b;unfold Dv;rw [tinvT_f,Option.bind_some,rinvT_f,Option.bind_some,tdifT_f,Option.bind_some,rdifT_f,Option.bind_some,invT_refl,Option.bind_some,if_pos rfl,decide_eq_true rfl,decide_eq_true rfl,Option.bind_some,if_pos (by rfl),difT_refl,Option.bind_some,Option.bind_some,if_pos rfl,decide_eq_true rfl,decide_eq_true rfl,Option.bind_some,if_pos (by rfl),renamed_f]
  rfl
end Go.Dc
