import Derived.Test.YtmhjcomgbfonfaaGreatDoorDcJ8
set_option linter.unusedSimpArgs false
set_option linter.unusedVariables false
namespace Go.Dc
open Go
theorem invS_len:∀ (l:List Hunk) (d:Int),(N1 d l).length=l.length
  | [],_=>rfl
  | h::r,d=>by rw [N1,List.length_cons,List.length_cons,invS_len r]
theorem invS_snoc (h:Hunk):∀ (l:List Hunk) (d:Int),N1 d (l++[h])=N1 d l++[⟨h.At+(d+Mb l),h.New,h.Old⟩]
  | [],d=>by simp [N1,Mb]
  | x::r,d=>by
    rw [List.cons_append,N1,invS_snoc h r,N1,Mb,List.cons_append,show d+gr x+Mb r=d+(gr x+Mb r) by omega]
theorem gsum_sm {l:List Hunk} (hs:Sm 120 l) (k:Nat) : -15600≤Mb (l.take k)∧Mb (l.take k)≤15600:=by
  obtain ⟨h1,h2⟩:=gsum_small (l.take k) (fun h hh=>⟨(hs.2 h (List.mem_of_mem_take hh)).2.2.1,(hs.2 h (List.mem_of_mem_take hh)).2.2.2⟩);have h3:(l.take k).length≤130:=Nat.le_trans (by simp;omega) hs.1
  omega
theorem rinv_l2 (p:Patch) (hs:Sm 120 p.Hunks) {k:Nat} (hk:k≤p.Hunks.length) {A:Int} (h1 : -120≤A) (h2:A≤120) :
    ∀ (m j:Nat),k - j=m→j≤k→Dm (fun s=>Bb.l2 p (k:Int) s.1 s.2) ((j:Int),A+Mb (p.Hunks.take j))=some (A+Mb (p.Hunks.take k)):=by
  intro m
  induction m with
  | zero =>
    intro j hm hj;have:j=k:=by omega
    subst this;refine B1 ?_;show Bb.l2 p _ _ _=_;unfold Bb.l2;rw [decide_eq_false (by omega),if_neg Bool.false_ne_true]
  | succ m ih =>
    intro j hm hj;have hjl:j < p.Hunks.length:=by omega
    obtain ⟨b1,b2,b3,b4⟩:=hs.2 _ (List.getElem_mem hjl);have hn:=hs.1;have g1:=gsum_sm hs j;have g2:=gsum_sm hs (j+1);have e:=gsum_take hjl
    have hst:Bb.l2 p (k:Int) (j:Int) (A+Mb (p.Hunks.take j))=some (Step.next (((j+1:Nat):Int),A+Mb (p.Hunks.take (j+1)))):=by
      unfold Bb.l2
      rw [decide_eq_true (by omega),if_pos rfl,Ci hjl,Option.bind_some,rgrowth_f _ b3 b4,Option.bind_some,Ck (by omega) (by omega),Option.bind_some,Ck (by omega) (by omega),Option.bind_some,
        show A+Mb (p.Hunks.take j)+gr p.Hunks[j]=A+Mb (p.Hunks.take (j+1)) by omega]
      rfl
    rw [B8 (s':=(((j+1:Nat):Int),A+Mb (p.Hunks.take (j+1)))) hst];exact ih (j+1) (by omega) (by omega)
theorem rinv_iter (p:Patch) (hs:Sm 120 p.Hunks):∀ (rest:List Hunk) (k:Nat),p.Hunks.drop k=rest →
    Dm (fun s=>Bb.l1 p s.1 s.2) ((k:Int),N1 0 (p.Hunks.take k))=some (N1 0 p.Hunks):=by
  intro rest
  induction rest with
  | nil =>
    intro k hk;have:=Er hk;rw [List.take_of_length_le this];refine B1 ?_;show Bb.l1 p _ _=_;unfold Bb.l1;rw [decide_eq_false (by omega),if_neg Bool.false_ne_true]
  | cons h r ih =>
    intro k hk;obtain ⟨hlt,hx,hr⟩:=E0 hk;obtain ⟨b1,b2,b3,b4⟩:=hs.2 _ (List.getElem_mem hlt);have hn:=hs.1;have i2:=rinv_l2 p hs (Nat.le_of_lt hlt) b1 b2 k 0 (by omega) (Nat.zero_le _)
    rw [List.take_zero,Mb,Int.add_zero,show ((0:Nat):Int)=0 from rfl] at i2
    have hst:Bb.l1 p (k:Int) (N1 0 (p.Hunks.take k))=some (Step.next (((k+1:Nat):Int),N1 0 (p.Hunks.take (k+1)))):=by
      unfold Bb.l1;rw [decide_eq_true (by omega),if_pos rfl,Ci hlt,Option.bind_some,i2,Option.bind_some]
      unfold Bb.j3 Bb.j2
      rw [Ci hlt,Option.bind_some,Option.bind_some,G0 (by rw [invS_len];simp;omega),Option.bind_some,Ck (by omega) (by omega),Option.bind_some,
        List.take_succ_eq_append_getElem hlt,invS_snoc,Int.zero_add]
      rfl
    rw [B8 (s':=(((k+1:Nat):Int),N1 0 (p.Hunks.take (k+1)))) hst];exact ih (k+1) hr
theorem rinvert_f (p:Patch):Bb p=some (Oy p):=by
  unfold Bb Oy;rw [Ot,Option.bind_some];rcases Ls p with h | h
  · have h0:(C3 p).Code=0:=by rw [h]
    rw [if_neg (by rw [h];decide),if_neg (fun hn=>hn h0)]
    have:=rinv_iter p (sm_of h0) p.Hunks 0 rfl;rw [List.take_zero,N1,show ((0:Nat):Int)=0 from rfl] at this;rw [this,Option.bind_some];unfold Bb.j1 Hv;rw [Ot,Option.bind_some];by_cases h1:(C3 ⟨N1 0 p.Hunks⟩).Code=0
    · rw [if_neg (by simp [h1]),if_neg (fun hn=>hn h1)];rfl
    · rw [if_pos (by simp [h1]),if_pos h1];rfl
  · rw [if_pos (by simp [h]),if_pos h]
def invL (p:List TreeChange):Nat→List TreeChange→(TreePatch×Fault) ⊕ List TreeChange
  | 0,out=>.inr out
  | k+1,out=>match p[k]? with
    | some c=>if c.Kind=4∧(Oy c.Patch).2.Code≠0 then .inl (⟨[]⟩,⟨(Oy c.Patch).2.Code,k⟩) else invL p k (out++[invC c])
    | Option.none=>.inr out
theorem tinvL_iter {p:List TreeChange} (hp:∀ c∈p,OkCh c) (hl:p.length≤30):∀ (k:Nat) (out:List TreeChange),k≤p.length→out.length+k≤30 →
    Dm (fun s=>Cb.l1 ⟨p⟩ s.1 s.2) ((k:Int) - 1,out)=some (invL p k out):=by
  intro k
  induction k with
  | zero =>
    intro out _ _;rw [B1 (r:=.inr out)]
    · rfl
    · show Cb.l1 ⟨p⟩ _ _=_;unfold Cb.l1;rw [decide_eq_false (by omega),if_neg Bool.false_ne_true]
  | succ k ih =>
    intro out hk hol;have hkl:k < p.length:=by omega
    have hc:=hp _ (List.getElem_mem hkl);have hkd:=hc.kind;have hcl:p[k].Lines.length≤120:=Ew hc.lines;have hcc:=copyChange_f (c:=p[k]) (B:=120) (by omega) (sm_of hc.patch)
    have hj:∀ (a:Int) (b d:ByteArray) (e:List Hunk),Cb.j2 (k:Int) out p[k] a b d e=some (Step.next ((k:Int) - 1,out++[⟨a,b,d,p[k].Lines,⟨e⟩⟩])):=by
      intro a b d e;unfold Cb.j2;rw [G0 (by simp;omega),Option.bind_some,Ck (by omega) (by omega),Option.bind_some]
    have hs:Cb.l1 ⟨p⟩ (((k+1:Nat):Int) - 1) out=if p[k].Kind=4∧(Oy p[k].Patch).2.Code≠0 then some (Step.done (Sum.inl (⟨[]⟩,⟨(Oy p[k].Patch).2.Code,k⟩))) else some (Step.next ((k:Int) - 1,out++[invC p[k]])):=by
      rw [show (((k+1:Nat):Int) - 1)=(k:Int) by omega]
      unfold Cb.l1;simp only;rw [decide_eq_true (by omega),if_pos rfl,Ci hkl,Option.bind_some,hcc,Option.bind_some]
      unfold invC;by_cases k1:p[k].Kind=1
      · rw [decide_eq_true k1,if_pos rfl,if_neg (by omega),if_pos k1,hj]
      rw [decide_eq_false k1,if_neg Bool.false_ne_true,if_neg k1];by_cases k2:p[k].Kind=2
      · rw [decide_eq_true k2,if_pos rfl,if_neg (by omega),if_pos k2,hj]
      rw [decide_eq_false k2,if_neg Bool.false_ne_true,if_neg k2];by_cases k3:p[k].Kind=3
      · rw [decide_eq_true k3,if_pos rfl,if_neg (by omega),if_pos k3,hj,k3]
      rw [decide_eq_false k3,if_neg Bool.false_ne_true,if_neg k3,invert_f,Option.bind_some];have k4:p[k].Kind=4:=by omega
      by_cases hf:(Oy p[k].Patch).2.Code=0
      · obtain ⟨_,_,e⟩:=invP_ok hf;rw [if_neg (by rw [e];simp),if_neg (fun hn=>hn.2 hf),hj]
      · rw [if_pos (by simp [hf]),if_pos ⟨k4,hf⟩]
    rw [invL,List.getElem?_eq_getElem hkl];simp only;by_cases hbad:p[k].Kind=4∧(Oy p[k].Patch).2.Code≠0
    · rw [if_pos hbad] at hs ⊢;exact B1 hs
    · rw [if_neg hbad] at hs ⊢;rw [B8 (s':=((k:Int) - 1,out++[invC p[k]])) hs];exact ih _ (by omega) (by simp;omega)
theorem rinvL_iter {p:List TreeChange} (hp:∀ c∈p,OkCh c) (hl:p.length≤30):∀ (k:Nat) (out:List TreeChange),k≤p.length→out.length+k≤30 →
    Dm (fun s=>A0.l1 ⟨p⟩ s.1 s.2) ((k:Int) - 1,out)=some (invL p k out):=by
  intro k
  induction k with
  | zero =>
    intro out _ _;rw [B1 (r:=.inr out)]
    · rfl
    · show A0.l1 ⟨p⟩ _ _=_;unfold A0.l1;rw [decide_eq_false (by omega),if_neg Bool.false_ne_true]
  | succ k ih =>
    intro out hk hol;have hkl:k < p.length:=by omega
    have hc:=hp _ (List.getElem_mem hkl);have hkd:=hc.kind
    have hj:∀ (a:Int) (b d:ByteArray) (e:List Hunk),A0.j5 (k:Int) out p[k] a b d e=some (Step.next ((k:Int) - 1,out++[⟨a,b,d,p[k].Lines,⟨e⟩⟩])):=by
      intro a b d e;unfold A0.j5;rw [G0 (by simp;omega),Option.bind_some,Ck (by omega) (by omega),Option.bind_some]
    have hs:A0.l1 ⟨p⟩ (((k+1:Nat):Int) - 1) out=if p[k].Kind=4∧(Oy p[k].Patch).2.Code≠0 then some (Step.done (Sum.inl (⟨[]⟩,⟨(Oy p[k].Patch).2.Code,k⟩))) else some (Step.next ((k:Int) - 1,out++[invC p[k]])):=by
      rw [show (((k+1:Nat):Int) - 1)=(k:Int) by omega]
      unfold A0.l1;simp only;rw [decide_eq_true (by omega),if_pos rfl,Ci hkl,Option.bind_some]
      unfold A0.j2 A0.j3 A0.j4 invC;by_cases k1:p[k].Kind=1
      · rw [decide_eq_true k1,if_pos rfl,decide_eq_false (show ¬p[k].Kind=2 by omega),if_neg Bool.false_ne_true,decide_eq_false (show ¬p[k].Kind=3 by omega),if_neg Bool.false_ne_true,decide_eq_false (show ¬p[k].Kind=4 by omega),if_neg Bool.false_ne_true,hj,if_neg (by omega),if_pos k1]
      rw [decide_eq_false k1,if_neg Bool.false_ne_true,if_neg k1];by_cases k2:p[k].Kind=2
      · rw [decide_eq_true k2,if_pos rfl,decide_eq_false (show ¬p[k].Kind=3 by omega),if_neg Bool.false_ne_true,decide_eq_false (show ¬p[k].Kind=4 by omega),if_neg Bool.false_ne_true,hj,if_neg (by omega),if_pos k2]
      rw [decide_eq_false k2,if_neg Bool.false_ne_true,if_neg k2];by_cases k3:p[k].Kind=3
      · rw [decide_eq_true k3,if_pos rfl,decide_eq_false (show ¬p[k].Kind=4 by omega),if_neg Bool.false_ne_true,hj,if_neg (by omega),if_pos k3,k3]
      have k4:p[k].Kind=4:=by omega
      rw [decide_eq_false k3,if_neg Bool.false_ne_true,if_neg k3,decide_eq_true k4,if_pos rfl,rinvert_f,Option.bind_some];by_cases hf:(Oy p[k].Patch).2.Code=0
      · obtain ⟨_,_,e⟩:=invP_ok hf;rw [if_neg (by rw [e];simp),if_neg (fun hn=>hn.2 hf),hj]
      · rw [if_pos (by simp [hf]),if_pos ⟨k4,hf⟩];rfl
    rw [invL,List.getElem?_eq_getElem hkl];simp only;by_cases hbad:p[k].Kind=4∧(Oy p[k].Patch).2.Code≠0
    · rw [if_pos hbad] at hs ⊢;exact B1 hs
    · rw [if_neg hbad] at hs ⊢;rw [B8 (s':=((k:Int) - 1,out++[invC p[k]])) hs];exact ih _ (by omega) (by simp;omega)
def invT (p:List TreeChange):TreePatch×Fault :=
  if (pcF p).Code≠0 then (⟨[]⟩,pcF p) else match invL p p.length [] with
    | .inl x=>x
    | .inr l=>(⟨l⟩,⟨0,0⟩)
theorem tinvT_f (p:List TreeChange):Cb ⟨p⟩=some (invT p):=by
  unfold Cb invT;rw [VPatch_f,Option.bind_some];simp only;rcases pcF_ok p with h | h
  · obtain ⟨hl,hp⟩:=(pcF_zero p).1 (by rw [h])
    rw [if_neg (by rw [h];decide),if_neg (by rw [h];decide),Ck (by omega) (by omega),Option.bind_some,tinvL_iter hp hl p.length [] (Nat.le_refl _) (by simp;omega),Option.bind_some]
    cases invL p p.length [] <;> rfl
  · rw [if_pos (by simp [h]),if_pos h]
theorem rinvT_f (p:List TreeChange):A0 ⟨p⟩=some (invT p):=by
  unfold A0 invT;rw [RVPatch_f,Option.bind_some];simp only;rcases pcF_ok p with h | h
  · obtain ⟨hl,hp⟩:=(pcF_zero p).1 (by rw [h])
    rw [if_neg (by rw [h];decide),if_neg (by rw [h];decide),Ck (by omega) (by omega),Option.bind_some,rinvL_iter hp hl p.length [] (Nat.le_refl _) (by simp;omega),Option.bind_some]
    cases invL p p.length [] <;> rfl
  · rw [if_pos (by simp [h]),if_pos h]
end Go.Dc
