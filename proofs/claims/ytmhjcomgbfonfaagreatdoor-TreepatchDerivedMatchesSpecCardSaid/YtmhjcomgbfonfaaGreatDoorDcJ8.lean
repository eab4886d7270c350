import Derived.Test.YtmhjcomgbfonfaaGreatDoorDcJ0
set_option linter.unusedSimpArgs false
set_option linter.unusedVariables false
set_option maxRecDepth 4000
namespace Go.Dc
open Go
def Mb:List Hunk→Int
  | []=>0
  | h::r=>gr h+Mb r
theorem gsum_append:∀ a b:List Hunk,Mb (a++b)=Mb a+Mb b
  | [],b=>by simp [Mb]
  | h::r,b=>by rw [List.cons_append,Mb,Mb,gsum_append r b];omega
theorem gsum_take {l:List Hunk} {k:Nat} (h:k < l.length):Mb (l.take (k+1))=Mb (l.take k)+gr l[k]:=by
  rw [List.take_succ_eq_append_getElem h,gsum_append];simp [Mb]
theorem gsum_small:∀ (l:List Hunk),(∀ h∈l,h.Old.length≤120∧h.New.length≤120) → -(120 * (l.length:Int))≤Mb l∧Mb l≤120 * (l.length:Int)
  | [],_=>by simp [Mb]
  | h::r,hs=>by
    obtain ⟨i1,i2⟩:=gsum_small r (fun x hx=>hs x (List.mem_cons_of_mem _ hx));obtain ⟨a,b⟩:=hs h (by simp)
    obtain ⟨g1,g2⟩:=gr_small a b;rw [Mb,List.length_cons];omega
def N1:Int→List Hunk→List Hunk
  | _,[]=>[]
  | d,h::r=>⟨h.At+d,h.New,h.Old⟩::N1 (d+gr h) r
def Oy (p:Patch):Patch×Fault :=
  if (C3 p).Code≠0 then (⟨[]⟩,C3 p) else if (C3 ⟨N1 0 p.Hunks⟩).Code≠0 then (⟨[]⟩,⟨10,-1⟩) else (⟨N1 0 p.Hunks⟩,⟨0,0⟩)
theorem made0_f (p:Patch):K1 p=some (if (C3 p).Code≠0 then (⟨[]⟩,⟨10,-1⟩) else (p,⟨0,0⟩)):=by
  unfold K1;rw [Oi,Option.bind_some];rcases Ls p with h | h
  · rw [h,if_neg (by decide),if_neg (by simp)]
  · rw [if_pos (by simp [h]),if_pos h]
theorem gr_bd {h:Hunk} (hs:SmH 120 h) : -120≤gr h∧gr h≤120:=by
  obtain ⟨_,_,h1,h2⟩:=hs;unfold gr;omega
theorem inv_iter (y:Patch) (hs:Sm 120 y.Hunks):∀ (rest A:List Hunk) (k:Nat) (d:Int),y.Hunks.drop k=rest→A.length=k→k≤y.Hunks.length → -(120 * (k:Int))≤d→d≤120 * k →
    Dm (fun s=>Cz.l1 y s.1 s.2.1 s.2.2) ((k:Int),d,A++rest)=some (A++N1 d rest):=by
  intro rest
  induction rest with
  | nil =>
    intro A k d hk hA hkl _ _;have:=Er hk;refine B1 ?_;show Cz.l1 y _ _ _=_;unfold Cz.l1;rw [decide_eq_false (by omega),if_neg Bool.false_ne_true];rfl
  | cons h r ih =>
    intro A k d hk hA hkl h1 h2;obtain ⟨hlt,hx,hr⟩:=E0 hk;have hS:SmH 120 h:=hs.2 h (hx ▸ List.getElem_mem hlt);have hn:=hs.1;obtain ⟨b1,b2,b3,b4⟩:=hS;have hg:=gr_bd ⟨b1,b2,b3,b4⟩
    have hat:at? (A++h::r) (k:Int)=some h:=by
      rw [Ci (by simp;omega)]
      congr 1;rw [List.getElem_append_right (by omega)]
      simp [hA]
    have hset:∀ u v:Hunk,(A++u::r).set k v=A++v::r:=by
      intro u v;rw [List.set_append_right _ _ (by omega),hA,Nat.sub_self];rfl
    have hs1:Cz.l1 y (k:Int) d (A++h::r)=some (Step.next (((k+1:Nat):Int),d+gr h,A++⟨h.At+d,h.New,h.Old⟩::r)):=by
      unfold Cz.l1
      rw [decide_eq_true (by omega),if_pos rfl,hat,Option.bind_some,growth_f h b3 b4,Option.bind_some,Ck (by omega) (by omega),Option.bind_some,Option.bind_some,Option.bind_some,Option.bind_some,
        Ck (by omega) (by omega),Option.bind_some,Ck (by omega) (by omega),Option.bind_some]
      simp only [Int.toNat_natCast,hset];rfl
    rw [B8 (s':=(((k+1:Nat):Int),d+gr h,A++⟨h.At+d,h.New,h.Old⟩::r)) hs1];have:=ih (A++[⟨h.At+d,h.New,h.Old⟩]) (k+1) (d+gr h) hr (by simp [hA]) (by omega) (by omega) (by omega)
    rw [List.append_assoc,List.append_assoc] at this;exact this
theorem invert_f (p:Patch):Cz p=some (Oy p):=by
  unfold Cz Oy;rw [Oi,Option.bind_some];rcases Ls p with h | h
  · have h0:(C3 p).Code=0:=by rw [h]
    rw [if_neg (by rw [h];decide),if_neg (fun hn=>hn h0),copy_f p (sm_of h0),Option.bind_some]
    have:=inv_iter p (sm_of h0) p.Hunks [] 0 0 rfl rfl (Nat.zero_le _) (by omega) (by omega)
    rw [List.nil_append,List.nil_append,show ((0:Nat):Int)=0 from rfl] at this;rw [this,Option.bind_some];unfold Cz.j1;rw [made0_f,Option.bind_some]
  · rw [if_pos (by simp [h]),if_pos h]
def invC (c:TreeChange):TreeChange :=
  if c.Kind=1 then ⟨2,c.Path,c.To,c.Lines,c.Patch⟩ else if c.Kind=2 then ⟨1,c.Path,c.To,c.Lines,c.Patch⟩ else if c.Kind=3 then ⟨3,c.To,c.Path,c.Lines,c.Patch⟩
  else ⟨c.Kind,c.Path,c.To,c.Lines,(Oy c.Patch).1⟩
def invOk (c:TreeChange):Prop:=c.Kind=4→(Oy c.Patch).2.Code=0
theorem invP_ok {p:Patch} (h:(Oy p).2.Code=0):(C3 p).Code=0∧(C3 ⟨N1 0 p.Hunks⟩).Code=0∧Oy p=(⟨N1 0 p.Hunks⟩,⟨0,0⟩):=by
  unfold Oy at h ⊢;by_cases h1:(C3 p).Code≠0
  · rw [if_pos h1] at h;exact absurd h h1
  rw [if_neg h1] at h ⊢;by_cases h2:(C3 ⟨N1 0 p.Hunks⟩).Code≠0
  · rw [if_pos h2] at h;simp at h
  rw [if_neg h2];exact ⟨by simpa using h1,by simpa using h2,rfl⟩
theorem invS_nil {d:Int} {hs:List Hunk} (h:hs≠[]):N1 d hs≠[]:=by
  cases hs with
  | nil=>exact absurd rfl h
  | cons x r=>simp [N1]
theorem invC_ok {c:TreeChange} (hc:OkCh c) (hi:invOk c):OkCh (invC c):=by
  unfold invC;have hk:=hc.kind;by_cases k1:c.Kind=1
  · rw [if_pos k1];exact ⟨by simp,hc.path,by simp,fun _=>hc.noTo (by omega),by simp,by simp,fun _=>hc.noHunks (by omega),hc.lines,hc.patch⟩
  rw [if_neg k1];by_cases k2:c.Kind=2
  · rw [if_pos k2];exact ⟨by simp,hc.path,by simp,fun _=>hc.noTo (by omega),by simp,by simp,fun _=>hc.noHunks (by omega),hc.lines,hc.patch⟩
  rw [if_neg k2];by_cases k3:c.Kind=3
  · rw [if_pos k3];refine ⟨by simp,(hc.to k3).1,fun _=>⟨hc.path,?_⟩,by simp,fun _=>hc.noLines (.inr k3),by simp,fun _=>hc.noHunks (by omega),hc.lines,hc.patch⟩
    rw [relB_comm];exact (hc.to k3).2
  rw [if_neg k3];have k4:c.Kind=4:=by omega
  obtain ⟨i1,i2,i3⟩:=invP_ok (hi k4);rw [i3];refine ⟨by simp;omega,hc.path,fun h=>absurd h k3,fun _=>hc.noTo k3,fun _=>hc.noLines (.inl k4),fun _=>invS_nil (hc.hunks k4),fun h=>absurd k4 h,hc.lines,i2⟩
theorem lcs_step:∀ (a b:List ByteArray) (y:ByteArray),lcs a (y::b)≤lcs a b+1∧lcs a b≤lcs a (y::b)
  | [],b,y=>by simp [lcs]
  | x::a,[],y=>by
    rw [K0,Lz,Lz];have:=lcs_step a [] y;rw [Lz] at this;split <;> omega
  | x::a,z::b,y=>by
    have h1:=lcs_step a (z::b) y;have h5:=lcs_step (z::b) a x;rw [Mz (z::b) (x::a),Mz (z::b) a] at h5;rw [K0 x y];split <;> omega
 termination_by a b=>a.length+b.length
theorem lcs_step_l (a b:List ByteArray) (x:ByteArray):lcs (x::a) b≤lcs a b+1∧lcs a b≤lcs (x::a) b:=by
  rw [Mz (x::a) b,Mz a b];exact lcs_step b a x
def Col (a b:List ByteArray) (j:Nat) (c:List Int) (i:Nat):Prop:=c.length=a.length+1∧∀ p (h:p < c.length),i≤p∨p=a.length→c[p]=(lcs (a.drop p) (b.drop j):Nat)
def Cols (a b:List ByteArray) (T:List (List Int)) (j:Nat):Prop:=T.length=b.length+1∧∀ q (h:q < T.length),j≤q→Col a b q T[q] 0
variable {a b : List ByteArray} (hs : (a.length + 1) * (b.length + 1) * 24 ≤ 140737488355328)
section
include hs
theorem small_r:(a.length+1) * 24≤140737488355328∧(b.length+1) * 24≤140737488355328:=by
  constructor
  · exact Nat.le_trans (Nat.mul_le_mul_right _ (Nat.le_mul_of_pos_right _ (by omega))) hs
  · exact Nat.le_trans (Nat.mul_le_mul_right _ (Nat.le_mul_of_pos_left _ (by omega))) hs
theorem col_loop {j:Nat} (hj:j < b.length):∀ (i:Nat) (T:List (List Int)),i≤a.length→Cols a b T (j+1)→(∃ h:j < T.length,Col a b j T[j] i) →
    ∃ T',Dm (fun s=>Aq.l2 a b (j:Int) s.1 s.2) ((i:Int) - 1,T)=some T'∧Cols a b T' j:=by
  obtain ⟨s1,s2⟩:=small_r hs;intro i
  induction i with
  | zero =>
    intro T _ hT ⟨h,hc⟩;refine ⟨T,B1 ?_,hT.1,fun q hq hjq=>?_⟩
    · unfold Aq.l2;simp (implicitDefEqProofs:=false) (disch:=omega) only [Bx,if_neg]
    · by_cases he:q=j
      · subst he;exact hc
      · exact hT.2 q hq (by omega)
  | succ i ih =>
    intro T hi hT ⟨h,hc⟩;have hTl:=hT.1;have hj1:j+1 < T.length:=by omega
    obtain ⟨c1,c2⟩:=hT.2 (j+1) hj1 (by omega)
    obtain ⟨d1,d2⟩:=hc;have hia:i < a.length:=by omega
    have v1:T[j+1][i]'(by omega)=(lcs (a.drop i) (b.drop (j+1)):Nat):=c2 i (by omega) (.inl (by omega))
    have v2:T[j+1][i+1]'(by omega)=(lcs (a.drop (i+1)) (b.drop (j+1)):Nat):=c2 (i+1) (by omega) (.inl (by omega))
    have v3:T[j][i+1]'(by omega)=(lcs (a.drop (i+1)) (b.drop j):Nat):=d2 (i+1) (by omega) (.inl (by omega))
    have e1:at? T ((j:Int)+1)=some T[j+1]:=by rw [show (j:Int)+1=((j+1:Nat):Int) from rfl];exact Ci hj1
    have e2:at? T (j:Int)=some T[j]:=Ci h;have e3:at? T[j+1] (i:Int)=some T[j+1][i]:=Ci (by omega)
    have e4:at? T[j+1] ((i:Int)+1)=some (T[j+1][i+1]'(by omega)):=by rw [show (i:Int)+1=((i+1:Nat):Int) from rfl];exact Ci (by omega)
    have e5:at? T[j] ((i:Int)+1)=some (T[j][i+1]'(by omega)):=by rw [show (i:Int)+1=((i+1:Nat):Int) from rfl];exact Ci (by omega)
    have e6:at? T[j] (i:Int)=some (T[j][i]'(by omega)):=Ci (by omega)
    have b0:=Ns (a.drop (i+1)) (b.drop (j+1));have b1:=Ns (a.drop i) (b.drop (j+1));have b2:=Ns (a.drop (i+1)) (b.drop j);simp only [List.length_drop] at b0 b1 b2;have hda:=Gl hia;have hdb:=Gl hj;have k1:=lcs_step (a.drop (i+1)) (b.drop (j+1)) b[j];have k2:=lcs_step_l (a.drop (i+1)) (b.drop (j+1)) a[i];rw [← hdb] at k1;rw [← hda] at k2;have hl:=K0 a[i] b[j] (a.drop (i+1)) (b.drop (j+1));rw [← hda,← hdb] at hl
    have fin:∀ n:Int,n=(lcs (a.drop i) (b.drop j):Nat)→Aq.j5 (j:Int) (i:Int) n T=some (.next ((i:Int) - 1,T.set j (T[j].set i n))):=by
      intro n _;unfold Aq.j5;simp (implicitDefEqProofs:=false) (disch:=omega) only [e2,e6,Option.bind_some,Ck,Int.toNat_natCast]
    have j4e:∀ n:Int,n=max (lcs (a.drop (i+1)) (b.drop j):Nat) (lcs (a.drop i) (b.drop (j+1)):Nat) →
        Aq.j4 a b (j:Int) (i:Int) n T=some (.next ((i:Int) - 1,T.set j (T[j].set i ((lcs (a.drop i) (b.drop j):Nat):Int)))):=by
      intro n hn;unfold Aq.j4;simp (implicitDefEqProofs:=false) (disch:=omega) only [Ci hia,Ci hj,Option.bind_some,Ck,e1,e4,v2,Bx];by_cases heq:a[i]=b[j]
      · rw [if_pos heq] at hl ⊢;simp only [Option.bind_some,decide_eq_true_eq];by_cases hgt:((lcs (a.drop (i+1)) (b.drop (j+1)):Nat):Int)+1 > n
        · rw [if_pos hgt,fin _ (by omega),hl];rfl
        · rw [if_neg hgt,fin _ (by omega)]
          rw [show n=((lcs (a.drop i) (b.drop j):Nat):Int) by omega]
      · rw [if_neg heq] at hl ⊢;simp only [Option.bind_some,Bool.false_eq_true,if_false];rw [fin _ (by omega),show n=((lcs (a.drop i) (b.drop j):Nat):Int) by omega]
    have e0:Aq.l2 a b (j:Int) (((i+1:Nat):Int) - 1) T=some (.next ((i:Int) - 1,T.set j (T[j].set i ((lcs (a.drop i) (b.drop j):Nat):Int)))):=by
      rw [show ((i+1:Nat):Int) - 1=(i:Int) by omega]
      unfold Aq.l2;simp (implicitDefEqProofs:=false) (disch:=omega) only [Bx,if_pos,Ck,Option.bind_some,e1,e3,e2,e5,v1,v3];by_cases hgt:((lcs (a.drop (i+1)) (b.drop j):Nat):Int) > ((lcs (a.drop i) (b.drop (j+1)):Nat):Int)
      · rw [if_pos hgt,j4e _ (by omega)]
      · rw [if_neg hgt,j4e _ (by omega)]
    rw [B8 e0];refine ih _ (by omega) ⟨by simpa using hTl,fun q hq hjq=>?_⟩ ⟨by simpa using h,?_⟩
    · have hq':q < T.length:=by simpa using hq
      rw [List.getElem_set_ne (by omega)];exact hT.2 q hq' hjq
    · rw [List.getElem_set_self];refine ⟨by simpa using d1,fun p hp hip=>?_⟩
      have hp':p < T[j].length:=by simpa using hp
      by_cases hpi:p=i
      · subst hpi;simp
      · rw [List.getElem_set_ne (Ne.symm hpi)];exact d2 p hp' (by omega)
theorem suffix_key:∀ (j:Nat) (T:List (List Int)),j≤b.length+1→Cols a b T j→∃ T',Dm (fun s=>Aq.l1 a b s.1 s.2) ((j:Int) - 1,T)=some T'∧Cols a b T' 0:=by
  obtain ⟨s1,s2⟩:=small_r hs;intro j
  induction j with
  | zero =>
    intro T _ hT;refine ⟨T,B1 ?_,hT⟩;unfold Aq.l1;simp (implicitDefEqProofs:=false) (disch:=omega) only [Bx,if_neg]
  | succ j ih =>
    intro T hj hT;have hTl:=hT.1;have hjT:j < T.length:=by omega
    have hm:mk? 8 ((a.length:Int)+1) (0:Int)=some (List.replicate (a.length+1) 0):=by
      rw [mk_eq (by omega) (by omega),show ((a.length:Int)+1).toNat=a.length+1 by omega]
    have hset:Cols a b (T.set j (List.replicate (a.length+1) 0)) (j+1):=by
      refine ⟨by simpa using hTl,fun q hq hjq=>?_⟩
      have hq':q < T.length:=by simpa using hq
      rw [List.getElem_set_ne (by omega)];exact hT.2 q hq' (by omega)
    by_cases hjb:j=b.length
    · subst hjb
      have e0:Aq.l1 a b (((b.length+1:Nat):Int) - 1) T=some (.next ((b.length:Int) - 1,T.set b.length (List.replicate (a.length+1) 0))):=by
        rw [show ((b.length+1:Nat):Int) - 1=(b.length:Int) by omega]
        unfold Aq.l1 Aq.j2;simp (implicitDefEqProofs:=false) (disch:=omega) only [Bx,if_pos,if_true,Ck,Option.bind_some,hm,Ci hjT,Int.toNat_natCast]
      rw [B8 e0];refine ih _ (by omega) ⟨by simpa using hTl,fun q hq hjq=>?_⟩
      have hq':q < T.length:=by simpa using hq
      have:q=b.length:=by omega
      subst this;rw [List.getElem_set_self];refine ⟨by simp,fun p hp _=>?_⟩
      simp [Lz]
    · obtain ⟨T',h1,h2⟩:=col_loop hs (j:=j) (by omega) a.length (T.set j (List.replicate (a.length+1) 0)) (Nat.le_refl _) hset ⟨by simpa using hjT,by
        rw [List.getElem_set_self];refine ⟨by simp,fun p hp hip=>?_⟩
        have:p=a.length:=by simp at hp;omega
        subst this;simp [lcs_nil_l]⟩
      have e0:Aq.l1 a b (((j+1:Nat):Int) - 1) T=some (.next ((j:Int) - 1,T')):=by
        rw [show ((j+1:Nat):Int) - 1=(j:Int) by omega]
        unfold Aq.l1 Aq.j3 Aq.j2;simp (implicitDefEqProofs:=false) (disch:=omega) only [Bx,if_pos,if_neg,Ck,Option.bind_some,hm,Ci hjT,Int.toNat_natCast,h1]
      rw [B8 e0];exact ih _ (by omega) h2
theorem suffixes_eq:∃ T,Aq a b=some T∧Cols a b T 0:=by
  obtain ⟨s1,s2⟩:=small_r hs;unfold Aq Aq.j1
  have hm:mk? 24 ((b.length:Int)+1) ([]:List Int)=some (List.replicate (b.length+1) []):=by
    rw [mk_eq (by omega) (by omega),show ((b.length:Int)+1).toNat=b.length+1 by omega]
  obtain ⟨T',h1,h2⟩:=suffix_key hs (b.length+1) (List.replicate (b.length+1) []) (Nat.le_refl _) ⟨by simp,fun q hq hjq=>by simp at hq;omega⟩
  rw [show ((b.length+1:Nat):Int) - 1=(b.length:Int) by omega] at h1
  refine ⟨T',?_,h2⟩;rw [Ck (by omega) (by omega),Option.bind_some,hm,Option.bind_some,h1,Option.bind_some]
end
def Ln:List ByteArray→List ByteArray→List Step_changeforgeref1
  | [],[]=>[]
  | [],y::b=>⟨2,y⟩::Ln [] b
  | x::a,[]=>⟨1,x⟩::Ln a []
  | x::a,y::b=>if x=y then ⟨0,x⟩::Ln a b else if lcs a (y::b) ≥ lcs (x::a) b then ⟨1,x⟩::Ln a (y::b) else ⟨2,y⟩::Ln (x::a) b
 termination_by a b=>a.length+b.length
theorem Nx:∀ (a b:List ByteArray),(Ln a b).map (·.Kind)=Es a b
  | [],[]=>by simp [Ln,Es]
  | [],y::b=>by simp [Ln,Es,Nx [] b]
  | x::a,[]=>by simp [Ln,Es,Nx a []]
  | x::a,y::b=>by
    rw [Ln,Es];split
    · simp [Nx a b]
    · split
      · simp [Nx a (y::b)]
      · simp [Nx (x::a) b]
 termination_by a b=>a.length+b.length
theorem cols_at {T:List (List Int)} (h:Cols a b T 0) {i j:Nat} (hi:i≤a.length) (hj:j≤b.length):∃ c,at? T (j:Int)=some c∧at? c (i:Int)=some ((lcs (a.drop i) (b.drop j):Nat):Int):=by
  obtain ⟨h1,h2⟩:=h;have hjT:j < T.length:=by omega
  obtain ⟨h3,h4⟩:=h2 j hjT (by omega)
  refine ⟨T[j],Ci hjT,?_⟩;rw [Ci (by omega),h4 i (by omega) (.inl (by omega))]
theorem alignR_loop {T:List (List Int)} (hT:Cols a b T 0) (hs:(a.length+b.length) * 24≤140737488355328):∀ (n i j:Nat) (out:List Step_changeforgeref1),i≤a.length→j≤b.length→(a.length - i)+(b.length - j)=n→out.length≤i+j →
    Dm (fun s=>B0.l1 a b T s.1 s.2.1 s.2.2) ((j:Int),(i:Int),out)=some (out++Ln (a.drop i) (b.drop j)):=by
  intro n
  induction n using Nat.strongRecOn with
  | _ n ih =>
  intro i j out hi hj hn hl;have app:∀ x:Step_changeforgeref1,i+j < a.length+b.length→app? 24 out [x]=some (out++[x]):=fun x h=>G0 (by simp only [List.length_singleton];omega)
  by_cases hia:i < a.length
  · have hda:=Gl hia;have ei:(i:Int)+1=((i+1:Nat):Int):=rfl;by_cases hjb:j < b.length
    · have hdb:=Gl hjb;have ej:(j:Int)+1=((j+1:Nat):Int):=rfl;obtain ⟨c1,p1,p2⟩:=cols_at hT (i:=i+1) (j:=j) (by omega) hj
      obtain ⟨c2,q1,q2⟩:=cols_at hT (i:=i) (j:=j+1) (by omega) (by omega)
      rw [← ei] at p2;rw [← ej] at q1
      have e0:B0.l1 a b T (j:Int) (i:Int) out=if a[i]=b[j] then some (.next (((j+1:Nat):Int),((i+1:Nat):Int),out++[⟨0,a[i]⟩])) else
          if lcs (a.drop (i+1)) (b.drop j) ≥ lcs (a.drop i) (b.drop (j+1)) then some (.next ((j:Int),((i+1:Nat):Int),out++[⟨1,a[i]⟩])) else some (.next (((j+1:Nat):Int),(i:Int),out++[⟨2,b[j]⟩])):=by
        unfold B0.l1;have c1':decide ((i:Int) < (a.length:Int))=true:=decide_eq_true (by omega)
        have c2':decide ((j:Int) < (b.length:Int))=true:=decide_eq_true (by omega)
        have c3':decide ((j:Int)=(b.length:Int))=false:=decide_eq_false (by omega)
        rw [c1',c2',c3'];simp (implicitDefEqProofs:=false) (disch:=omega) only [if_true,Option.bind_some,Ci hia,Ci hjb,Ck,p1,p2,q1,q2,Bool.false_eq_true,if_false,app,decide_eq_true_eq];split
        · rfl
        · by_cases h:lcs (a.drop (i+1)) (b.drop j) ≥ lcs (a.drop i) (b.drop (j+1))
          · rw [if_pos (by omega),if_pos h];rfl
          · rw [if_neg (by omega),if_neg h];rfl
      have hal:Ln (a.drop i) (b.drop j)=if a[i]=b[j] then ⟨0,a[i]⟩::Ln (a.drop (i+1)) (b.drop (j+1)) else if lcs (a.drop (i+1)) (b.drop j) ≥ lcs (a.drop i) (b.drop (j+1)) then ⟨1,a[i]⟩::Ln (a.drop (i+1)) (b.drop j) else ⟨2,b[j]⟩::Ln (a.drop i) (b.drop (j+1)):=by
        conv=>lhs;rw [hda,hdb,Ln]
        rw [← hda,← hdb]
      rw [hal];by_cases heq:a[i]=b[j]
      · rw [if_pos heq] at e0 ⊢;rw [B8 e0,ih _ (by omega) (i+1) (j+1) _ (by omega) (by omega) rfl (by simp;omega),List.append_assoc];rfl
      · rw [if_neg heq] at e0 ⊢;by_cases h:lcs (a.drop (i+1)) (b.drop j) ≥ lcs (a.drop i) (b.drop (j+1))
        · rw [if_pos h] at e0 ⊢;rw [B8 e0,ih _ (by omega) (i+1) j _ (by omega) (by omega) rfl (by simp;omega),List.append_assoc];rfl
        · rw [if_neg h] at e0 ⊢;rw [B8 e0,ih _ (by omega) i (j+1) _ (by omega) (by omega) rfl (by simp;omega),List.append_assoc];rfl
    · have hj':j=b.length:=by omega
      subst hj'
      have e0:B0.l1 a b T (b.length:Int) (i:Int) out=some (.next ((b.length:Int),((i+1:Nat):Int),out++[⟨1,a[i]⟩])):=by
        unfold B0.l1;have c1':decide ((i:Int) < (a.length:Int))=true:=decide_eq_true (by omega)
        have c2':decide ((b.length:Int) < (b.length:Int))=false:=decide_eq_false (by omega)
        rw [c1',c2'];simp (implicitDefEqProofs:=false) (disch:=omega) only [if_true,Option.bind_some,Ci hia,Ck,Bool.false_eq_true,if_false,app,decide_true];rfl
      rw [B8 e0,ih _ (by omega) (i+1) b.length _ (by omega) (by omega) rfl (by simp;omega),List.append_assoc,hda,List.drop_length]
      conv=>rhs;rw [Ln]
      rfl
  · have hi':i=a.length:=by omega
    subst hi';by_cases hjb:j < b.length
    · have hdb:=Gl hjb
      have e0:B0.l1 a b T (j:Int) (a.length:Int) out=some (.next (((j+1:Nat):Int),(a.length:Int),out++[⟨2,b[j]⟩])):=by
        unfold B0.l1;have c1':decide ((a.length:Int) < (a.length:Int))=false:=decide_eq_false (by omega)
        have c2':decide ((j:Int) < (b.length:Int))=true:=decide_eq_true (by omega)
        have c3':decide ((j:Int)=(b.length:Int))=false:=decide_eq_false (by omega)
        rw [c1',c2',c3'];simp (implicitDefEqProofs:=false) (disch:=omega) only [if_true,Option.bind_some,Ci hjb,Ck,Bool.false_eq_true,if_false,app];rfl
      rw [B8 e0,ih _ (by omega) a.length (j+1) _ (by omega) (by omega) rfl (by simp;omega),List.append_assoc,hdb,List.drop_length]
      conv=>rhs;rw [Ln]
      rfl
    · have hj':j=b.length:=by omega
      subst hj';rw [List.drop_length,List.drop_length];refine (B1 ?_).trans (by simp [Ln]:some out=_)
      unfold B0.l1;have c1':decide ((a.length:Int) < (a.length:Int))=false:=decide_eq_false (by omega)
      have c2':decide ((b.length:Int) < (b.length:Int))=false:=decide_eq_false (by omega)
      rw [c1',c2'];simp only [Bool.false_eq_true,if_false,Option.bind_some]
theorem alignR_eq (hs:(a.length+1) * (b.length+1) * 24≤140737488355328):B0 a b=some (Ln a b):=by
  obtain ⟨T,h1,h2⟩:=suffixes_eq hs
  have hs2:(a.length+b.length) * 24≤140737488355328:=by
    have:a.length+b.length+1≤(a.length+1) * (b.length+1):=by
      rw [Nat.add_mul,Nat.mul_add,Nat.mul_one,Nat.one_mul];omega
    omega
  unfold B0;rw [h1,Option.bind_some];have:=alignR_loop h2 hs2 _ 0 0 [] (Nat.zero_le _) (Nat.zero_le _) rfl (by simp)
  simp only [List.drop_zero,List.nil_append] at this;rw [show (0:Int)=((0:Nat):Int) from rfl,this,Option.bind_some];rfl
def H6 (b:List File) (p:ByteArray):List ByteArray:=match b[Eb b p]? with
  | some g=>g.Lines
  | Option.none=>[]
def N8 (b:List File) (f:File):Option TreeChange:=if Lc b f.Path=true then Option.none else some ⟨2,f.Path,ByteArray.empty,f.Lines,⟨[]⟩⟩
def edOf (b:List File) (f:File):Option TreeChange:=if Lc b f.Path=true∧Lh f.Lines (H6 b f.Path)≠[] then some (edF f.Path ⟨Lh f.Lines (H6 b f.Path)⟩) else Option.none
def Qo (a:List File) (f:File):Option TreeChange:=if Lc a f.Path=true then Option.none else some ⟨1,f.Path,ByteArray.empty,f.Lines,⟨[]⟩⟩
theorem text0 {l:List ByteArray} (h:Em l):(B6 l).Code=0:=(D8 _).1 ((Ha _).1 h)
theorem diff2_iter {a b:List File} (ha:TrOk a) (hb:TrOk b):∀ (r:List File) (k:Nat) (e d:List TreeChange),a.drop k=r→e.length≤k→d.length≤k →
    Dm (fun s=>Bk.l2 ⟨a⟩ ⟨b⟩ s.1 s.2.1 s.2.2) ((k:Int),e,d)=some (e++r.filterMap (edOf b),d++r.filterMap (N8 b)):=by
  intro r
  induction r with
  | nil =>
    intro k e d hk _ _;have:=Er hk;refine B1 ?_;show Bk.l2 ⟨a⟩ ⟨b⟩ _ _ _=_;unfold Bk.l2;simp only;rw [decide_eq_false (by omega),if_neg Bool.false_ne_true]
    simp
  | cons f r ih =>
    intro k e d hk he hd;obtain ⟨hlt,hx,hr⟩:=E0 hk;have hfm:f∈a:=hx ▸ List.getElem_mem hlt;have hft:=ha.text_len hfm;have hal:=ha.len;have hbl:=hb.len
    have j4:∀ (u v:List TreeChange),Bk.j4 (k:Int) u v=some (Step.next (((k+1:Nat):Int),v,u)):=by
      intro u v;unfold Bk.j4;rw [Ck (by omega) (by omega),Option.bind_some];rfl
    have hs:Bk.l2 ⟨a⟩ ⟨b⟩ (k:Int) e d=some (Step.next (((k+1:Nat):Int),e++(edOf b f).toList,d++(N8 b f).toList)):=by
      unfold Bk.l2 edOf N8;simp only;rw [decide_eq_true (by omega),if_pos rfl,Ci hlt,Option.bind_some,hx,Find_f hb.srt (by omega),Option.bind_some]
      simp only;cases hh:Lc b f.Path with
      | false =>
        rw [if_pos (by rfl),Qs _ (by omega),Option.bind_some,G0 (by simp;omega),Option.bind_some,j4]
        simp
      | true =>
        obtain ⟨hp,hpe⟩:=has_pos hb.srt hh;have hgm:=List.getElem_mem hp;rw [if_neg (show ¬ ((!true)=true) by decide),Ci hp,Option.bind_some,script_f,Option.bind_some]
        have h1:=text0 (ha.text f hfm);have h2:=text0 (hb.text _ hgm);rw [if_neg (fun hn=>hn h1),if_neg (fun hn=>hn h2)]
        have hla:H6 b f.Path=b[Eb b f.Path].Lines:=by
          unfold H6;rw [List.getElem?_eq_getElem hp]
        rw [hla];unfold Bk.j5;simp only;by_cases hsc:Lh f.Lines b[Eb b f.Path].Lines=[]
        · rw [decide_eq_false (by rw [hsc];simp),if_neg Bool.false_ne_true,j4]
          simp [hsc]
        · have:0 < (Lh f.Lines b[Eb b f.Path].Lines).length:=List.length_pos_iff.2 hsc;rw [decide_eq_true (by omega),if_pos rfl,G0 (by simp;omega),Option.bind_some,j4]
          simp [hsc,edF]
    rw [B8 (s':=(((k+1:Nat):Int),e++(edOf b f).toList,d++(N8 b f).toList)) hs];have l1:(edOf b f).toList.length≤1:=by cases edOf b f <;> simp
    have l2:(N8 b f).toList.length≤1:=by cases N8 b f <;> simp
    rw [ih (k+1) _ _ hr (by rw [List.length_append];omega) (by rw [List.length_append];omega)]
    rw [List.append_assoc,List.append_assoc];cases h1:edOf b f <;> cases h2:N8 b f <;> simp [List.filterMap_cons,h1,h2]
theorem diff1_iter {a b:List File} (ha:TrOk a) (hb:TrOk b):∀ (r:List File) (k:Nat) (e:List TreeChange),b.drop k=r→e.length≤k →
    Dm (fun s=>Bk.l1 ⟨a⟩ ⟨b⟩ s.1 s.2) ((k:Int),e)=some (e++r.filterMap (Qo a)):=by
  intro r
  induction r with
  | nil =>
    intro k e hk _;have:=Er hk;refine B1 ?_;show Bk.l1 ⟨a⟩ ⟨b⟩ _ _=_;unfold Bk.l1;simp only;rw [decide_eq_false (by omega),if_neg Bool.false_ne_true]
    simp
  | cons f r ih =>
    intro k e hk he;obtain ⟨hlt,hx,hr⟩:=E0 hk;have hfm:f∈b:=hx ▸ List.getElem_mem hlt;have hft:=hb.text_len hfm;have hal:=ha.len;have hbl:=hb.len
    have j3:∀ (u:List TreeChange),Bk.j3 (k:Int) u=some (Step.next (((k+1:Nat):Int),u)):=by
      intro u;unfold Bk.j3;rw [Ck (by omega) (by omega),Option.bind_some];rfl
    have hs:Bk.l1 ⟨a⟩ ⟨b⟩ (k:Int) e=some (Step.next (((k+1:Nat):Int),e++(Qo a f).toList)):=by
      unfold Bk.l1 Qo;simp only;rw [decide_eq_true (by omega),if_pos rfl,Ci hlt,Option.bind_some,hx,Find_f ha.srt (by omega),Option.bind_some]
      simp only;cases hh:Lc a f.Path with
      | false =>
        rw [if_pos (by rfl),Qs _ (by omega),Option.bind_some,G0 (by simp;omega),Option.bind_some,j3]
        simp
      | true =>
        rw [if_neg (show ¬ ((!true)=true) by decide),j3]
        simp
    rw [B8 (s':=(((k+1:Nat):Int),e++(Qo a f).toList)) hs];have l1:(Qo a f).toList.length≤1:=by cases Qo a f <;> simp
    rw [ih (k+1) _ hr (by rw [List.length_append];omega),List.append_assoc]
    cases h1:Qo a f <;> simp [List.filterMap_cons,h1]
theorem concat3 {x y z:List TreeChange} (hx:x.length≤100) (hy:y.length≤100) (hz:z.length≤100):Bq [x,y,z]=some (x++y++z):=by
  unfold Bq
  have s0:∀ (k:Nat) (v:List TreeChange) (n:Nat),[x,y,z][k]? = some v→v.length≤100→n≤1000→Bq.l2 [x,y,z] (k:Int) (n:Int)=some (Step.next (((k+1:Nat):Int),((n+v.length:Nat):Int))):=by
    intro k v n hv hl hn;have hk:k < 3:=by have:=List.getElem?_eq_some_iff.1 hv;obtain ⟨h,_⟩:=this;simpa using h
    unfold Bq.l2 Bq.j3;have:at? [x,y,z] (k:Int)=some v:=by unfold at?;rw [if_pos (by omega),Int.toNat_natCast,hv]
    rw [if_pos (by simp;omega),this,Option.bind_some,Ck (by omega) (by omega),Option.bind_some,if_neg (by simp;omega),Ck (by omega) (by omega),Option.bind_some];rfl
  have t0:∀ (k:Nat) (v w:List TreeChange),[x,y,z][k]? = some v→v.length≤100→w.length≤1000→Bq.l1 [x,y,z] (k:Int) w=some (Step.next (((k+1:Nat):Int),w++v)):=by
    intro k v w hv hl hn;have hk:k < 3:=by have:=List.getElem?_eq_some_iff.1 hv;obtain ⟨h,_⟩:=this;simpa using h
    unfold Bq.l1;have:at? [x,y,z] (k:Int)=some v:=by unfold at?;rw [if_pos (by omega),Int.toNat_natCast,hv]
    rw [if_pos (by simp;omega),this,Option.bind_some,G0 (by omega),Option.bind_some,Ck (by omega) (by omega),Option.bind_some];rfl
  have e1:Dm (fun s=>Bq.l2 [x,y,z] s.1 s.2) ((0:Int),(0:Int))=some ((0+x.length+y.length+z.length:Nat):Int):=by
    rw [B8 (s':=(((0+1:Nat):Int),((0+x.length:Nat):Int))) (s0 0 x 0 rfl hx (by omega))]
    rw [B8 (s':=(((1+1:Nat):Int),((0+x.length+y.length:Nat):Int))) (s0 1 y _ rfl hy (by omega))]
    rw [B8 (s':=(((2+1:Nat):Int),((0+x.length+y.length+z.length:Nat):Int))) (s0 2 z _ rfl hz (by omega))]
    refine B1 ?_;show Bq.l2 [x,y,z] _ _=_;unfold Bq.l2;rw [if_neg (by simp)]
  rw [e1,Option.bind_some];unfold Bq.j1 Bq.j2
  have e2:grow0 TreeChange 88 ((0+x.length+y.length+z.length:Nat):Int)=some []:=by
    unfold grow0;rw [if_pos ⟨by omega,by omega⟩]
  rw [e2,Option.bind_some]
  have e3:Dm (fun s=>Bq.l1 [x,y,z] s.1 s.2) ((0:Int),([]:List TreeChange))=some (x++y++z):=by
    rw [B8 (s':=(((0+1:Nat):Int),[]++x)) (t0 0 x [] rfl hx (by simp))]
    rw [B8 (s':=(((1+1:Nat):Int),[]++x++y)) (t0 1 y _ rfl hy (by simp;omega))]
    rw [B8 (s':=(((2+1:Nat):Int),[]++x++y++z)) (t0 2 z _ rfl hz (by simp;omega))]
    refine B1 ?_;show Bq.l1 [x,y,z] _ _=_;unfold Bq.l1;rw [if_neg (by simp)];simp
  rw [e3,Option.bind_some]
def difL (a b:List File):List TreeChange:=a.filterMap (N8 b)++a.filterMap (edOf b)++b.filterMap (Qo a)
theorem ch_ok {k:Int} {f:File} (hk:k=1∨k=2) (h1:D0 f.Path=true) (h2:Em f.Lines):OkCh ⟨k,f.Path,ByteArray.empty,f.Lines,⟨[]⟩⟩ :=
  ⟨by simp only;omega,h1,fun h=>by simp only at h;omega,fun _=>rfl,fun h=>by simp only at h;omega,fun h=>by simp only at h;omega,fun _=>rfl,text0 h2,(by decide +kernel:(C3 ⟨[]⟩).Code=0)⟩
theorem linesAt_mem {b:List File} (hb:TrOk b) {p:ByteArray} (h:Lc b p=true):(⟨p,H6 b p⟩:File)∈b:=by
  obtain ⟨hp,he⟩:=has_pos hb.srt h
  have e:(⟨p,H6 b p⟩:File)=b[Eb b p]:=by
    unfold H6;rw [List.getElem?_eq_getElem hp];simp only;generalize b[Eb b p]=g at he;obtain ⟨gp,gl⟩:=g;simp only at he;rw [he]
  rw [e];exact List.getElem_mem hp
theorem has_mem {l:List File} {f:File} (h:f∈l):Lc l f.Path=true:=by
  unfold Lc;rw [List.any_eq_true];exact ⟨f,h,decide_eq_true rfl⟩
theorem pw_ext {α:Type} {R:α→α→Prop} (asym:∀ x y,R x y→¬ R y x):∀ {a b:List α},a.Pairwise R→b.Pairwise R→(∀ f,f∈a↔f∈b)→a=b
  | [],[],_,_,_=>rfl
  | [],y::b,_,_,h=>absurd ((h y).2 (by simp)) (by simp)
  | x::a,[],_,_,h=>absurd ((h x).1 (by simp)) (by simp)
  | x::a,y::b,ha,hb,h=>by
    rw [List.pairwise_cons] at ha hb;have irr:∀ z,¬ R z z:=fun z hz=>asym z z hz hz
    have e:x=y:=by
      rcases List.mem_cons.1 ((h x).1 (by simp)) with e | h1
      · exact e
      · rcases List.mem_cons.1 ((h y).2 (by simp)) with e | h2
        · exact e.symm
        · exact absurd (hb.1 x h1) (asym _ _ (ha.1 y h2))
    subst e;congr 1;refine pw_ext asym ha.2 hb.2 fun f=>⟨fun hf=>?_,fun hf=>?_⟩
    · rcases List.mem_cons.1 ((h f).1 (List.mem_cons_of_mem _ hf)) with e | h1
      · subst e;exact absurd (ha.1 f hf) (irr f)
      · exact h1
    · rcases List.mem_cons.1 ((h f).2 (List.mem_cons_of_mem _ hf)) with e | h1
      · subst e;exact absurd (hb.1 f hf) (irr f)
      · exact h1
theorem scr_self:∀ (a:List ByteArray) (s:Cst),(scr a a s).1=s.1
  | [],s=>by simp [scr]
  | x::a,s=>by
    rw [scr,if_pos rfl,scr_self a];rfl
theorem script_self (a:List ByteArray):Lh a a=[]:=scr_self a _
end Go.Dc
