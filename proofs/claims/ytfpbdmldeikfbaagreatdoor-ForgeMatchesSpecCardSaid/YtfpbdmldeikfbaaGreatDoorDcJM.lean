import Derived.Test.YtfpbdmldeikfbaaGreatDoorDcJE
set_option linter.unusedSimpArgs false
set_option linter.unusedVariables false
set_option maxRecDepth 4000
namespace Go.Dc
open Go
theorem lcs_step:∀ (a b:Ab) (y:ByteArray),lcs a (y::b)≤lcs a b+1∧lcs a b≤lcs a (y::b)
 | [],b,y=>by simp [lcs]
 | x::a,[],y=>by
  rw [Yh,Xn,Xn];have:=lcs_step a [] y;rw [Xn] at this;split <;> omega
 | x::a,z::b,y=>by
  have h1:=lcs_step a (z::b) y;have h5:=lcs_step (z::b) a x;rw [Zp (z::b) (x::a),Zp (z::b) a] at h5;rw [Yh x y];split <;> omega
 termination_by a b=>a.length+b.length
theorem lcs_step_l (a b:Ab) (x:ByteArray):lcs (x::a) b≤lcs a b+1∧lcs a b≤lcs (x::a) b:=by
 rw [Zp (x::a) b,Zp a b];exact lcs_step b a x
def Col (a b:Ab) (j:Nat) (c:List Int) (i:Nat):Prop:=c.length=a.length+1∧∀ p (h:p < c.length),i≤p∨p=a.length→c[p]=(lcs (a.drop p) (b.drop j):Nat)
def Cols (a b:Ab) (T:List (List Int)) (j:Nat):Prop:=T.length=b.length+1∧∀ q (h:q < T.length),j≤q→Col a b q T[q] 0
variable {a b : Ab} (hs : (a.length + 1) * (b.length + 1) * 24 ≤ 140737488355328)
section
include hs
theorem small_r:(a.length+1) * 24≤140737488355328∧(b.length+1) * 24≤140737488355328:=by
 constructor
 ·exact Bx (Aq _ (Nat.le_mul_of_pos_right _ (by omega))) hs
 ·exact Bx (Aq _ (Nat.le_mul_of_pos_left _ (by omega))) hs
theorem col_loop {j:Nat} (hj:j < b.length):∀ (i:Nat) (T:List (List Int)),i≤a.length→Cols a b T (j+1)→(∃ h:j < T.length,Col a b j T[j] i) →
  ∃ T',C7 (fun s=>A0.l2 a b (j:Int) s.1 s.2) ((i:Int) - 1,T)=some T'∧Cols a b T' j:=by
 obtain ⟨s1,s2⟩:=small_r hs;intro i
 induction i with
 | zero =>
  intro T _ hT ⟨h,hc⟩;refine ⟨T,Bm ?_,hT.1,fun q hq hjq=>?_⟩
  ·unfold A0.l2;simp (implicitDefEqProofs:=false) (disch:=omega) only [Al,Ac]
  ·by_cases he:q=j
   ·subst he;exact hc
   ·exact hT.2 q hq (by omega)
 | succ i ih =>
  intro T hi hT ⟨h,hc⟩;have hTl:=hT.1;have hj1:j+1 < T.length:=by omega
  obtain ⟨c1,c2⟩:=hT.2 (j+1) hj1 (by omega)
  obtain ⟨d1,d2⟩:=hc;have hia:i < a.length:=by omega
  have v1:T[j+1][i]'(by omega)=(lcs (a.drop i) (b.drop (j+1)):Nat):=c2 i (by omega) (.inl (by omega))
  have v2:T[j+1][i+1]'(by omega)=(lcs (a.drop (i+1)) (b.drop (j+1)):Nat):=c2 (i+1) (by omega) (.inl (by omega))
  have v3:T[j][i+1]'(by omega)=(lcs (a.drop (i+1)) (b.drop j):Nat):=d2 (i+1) (by omega) (.inl (by omega))
  have e1:at? T ((j:Int)+1)=some T[j+1]:=by rw [show (j:Int)+1=((j+1:Nat):Int) from rfl];exact Bg hj1
  have e2:at? T (j:Int)=some T[j]:=Bg h;have e3:at? T[j+1] (i:Int)=some T[j+1][i]:=Bg (by omega)
  have e4:at? T[j+1] ((i:Int)+1)=some (T[j+1][i+1]'(by omega)):=by rw [show (i:Int)+1=((i+1:Nat):Int) from rfl];exact Bg (by omega)
  have e5:at? T[j] ((i:Int)+1)=some (T[j][i+1]'(by omega)):=by rw [show (i:Int)+1=((i+1:Nat):Int) from rfl];exact Bg (by omega)
  have e6:at? T[j] (i:Int)=some (T[j][i]'(by omega)):=Bg (by omega)
  have b0:=lcs_le (a.drop (i+1)) (b.drop (j+1));have b1:=lcs_le (a.drop i) (b.drop (j+1));have b2:=lcs_le (a.drop (i+1)) (b.drop j);simp only [Cd] at b0 b1 b2;have hda:=Mw hia;have hdb:=Mw hj;have k1:=lcs_step (a.drop (i+1)) (b.drop (j+1)) b[j];have k2:=lcs_step_l (a.drop (i+1)) (b.drop (j+1)) a[i];rw [← hdb] at k1;rw [← hda] at k2;have hl:=Yh a[i] b[j] (a.drop (i+1)) (b.drop (j+1));rw [← hda,← hdb] at hl
  have fin:∀ n:Int,n=(lcs (a.drop i) (b.drop j):Nat)→A0.j5 (j:Int) (i:Int) n T=some (.next ((i:Int) - 1,T.set j (T[j].set i n))):=by
   intro n _;unfold A0.j5;simp (implicitDefEqProofs:=false) (disch:=omega) only [e2,e6,Aa,Br,Ay]
  have j4e:∀ n:Int,n=max (lcs (a.drop (i+1)) (b.drop j):Nat) (lcs (a.drop i) (b.drop (j+1)):Nat) →
    A0.j4 a b (j:Int) (i:Int) n T=some (.next ((i:Int) - 1,T.set j (T[j].set i ((lcs (a.drop i) (b.drop j):Nat):Int)))):=by
   intro n hn;unfold A0.j4;simp (implicitDefEqProofs:=false) (disch:=omega) only [Bg hia,Bg hj,Aa,Br,e1,e4,v2,Al];by_cases heq:a[i]=b[j]
   ·rw [Ad heq] at hl ⊢;simp only [Aa,Bs];by_cases hgt:((lcs (a.drop (i+1)) (b.drop (j+1)):Nat):Int)+1 > n
    ·rw [Ad hgt,fin _ (by omega),hl];rfl
    ·rw [Ac hgt,fin _ (by omega)]
     rw [show n=((lcs (a.drop i) (b.drop j):Nat):Int) by omega]
   ·rw [Ac heq] at hl ⊢;simp only [Aa,A6,Cg];rw [fin _ (by omega),show n=((lcs (a.drop i) (b.drop j):Nat):Int) by omega]
  have e0:A0.l2 a b (j:Int) (((i+1:Nat):Int) - 1) T=some (.next ((i:Int) - 1,T.set j (T[j].set i ((lcs (a.drop i) (b.drop j):Nat):Int)))):=by
   rw [show ((i+1:Nat):Int) - 1=(i:Int) by omega]
   unfold A0.l2;simp (implicitDefEqProofs:=false) (disch:=omega) only [Al,Ad,Br,Aa,e1,e3,e2,e5,v1,v3];by_cases hgt:((lcs (a.drop (i+1)) (b.drop j):Nat):Int) > ((lcs (a.drop i) (b.drop (j+1)):Nat):Int)
   ·rw [Ad hgt,j4e _ (by omega)]
   ·rw [Ac hgt,j4e _ (by omega)]
  rw [Bz e0];refine ih _ (by omega) ⟨by simpa using hTl,fun q hq hjq=>?_⟩ ⟨by simpa using h,?_⟩
  ·have hq':q < T.length:=by simpa using hq
   rw [List.getElem_set_ne (by omega)];exact hT.2 q hq' hjq
  ·rw [List.getElem_set_self];refine ⟨by simpa using d1,fun p hp hip=>?_⟩
   have hp':p < T[j].length:=by simpa using hp
   by_cases hpi:p=i
   ·subst hpi;simp
   ·rw [List.getElem_set_ne (Ne.symm hpi)];exact d2 p hp' (by omega)
theorem suffix_key:∀ (j:Nat) (T:List (List Int)),j≤b.length+1→Cols a b T j→∃ T',C7 (fun s=>A0.l1 a b s.1 s.2) ((j:Int) - 1,T)=some T'∧Cols a b T' 0:=by
 obtain ⟨s1,s2⟩:=small_r hs;intro j
 induction j with
 | zero =>
  intro T _ hT;refine ⟨T,Bm ?_,hT⟩;unfold A0.l1;simp (implicitDefEqProofs:=false) (disch:=omega) only [Al,Ac]
 | succ j ih =>
  intro T hj hT;have hTl:=hT.1;have hjT:j < T.length:=by omega
  have hm:mk? 8 ((a.length:Int)+1) (0:Int)=some (List.replicate (a.length+1) 0):=by
   rw [mk_eq (by omega) (by omega),show ((a.length:Int)+1).toNat=a.length+1 by omega]
  have hset:Cols a b (T.set j (List.replicate (a.length+1) 0)) (j+1):=by
   refine ⟨by simpa using hTl,fun q hq hjq=>?_⟩
   have hq':q < T.length:=by simpa using hq
   rw [List.getElem_set_ne (by omega)];exact hT.2 q hq' (by omega)
  by_cases hjb:j=b.length
  ·subst hjb
   have e0:A0.l1 a b (((b.length+1:Nat):Int) - 1) T=some (.next ((b.length:Int) - 1,T.set b.length (List.replicate (a.length+1) 0))):=by
    rw [show ((b.length+1:Nat):Int) - 1=(b.length:Int) by omega]
    unfold A0.l1 A0.j2;simp (implicitDefEqProofs:=false) (disch:=omega) only [Al,Ad,E4,Br,Aa,hm,Bg hjT,Ay]
   rw [Bz e0];refine ih _ (by omega) ⟨by simpa using hTl,fun q hq hjq=>?_⟩
   have hq':q < T.length:=by simpa using hq
   have:q=b.length:=by omega
   subst this;rw [List.getElem_set_self];refine ⟨by simp,fun p hp _=>?_⟩
   simp [Xn]
  ·obtain ⟨T',h1,h2⟩:=col_loop hs (j:=j) (by omega) a.length (T.set j (List.replicate (a.length+1) 0)) (B7 _) hset ⟨by simpa using hjT,by
    rw [List.getElem_set_self];refine ⟨by simp,fun p hp hip=>?_⟩
    have:p=a.length:=by simp at hp;omega
    subst this;simp [lcs_nil_l]⟩
   have e0:A0.l1 a b (((j+1:Nat):Int) - 1) T=some (.next ((j:Int) - 1,T')):=by
    rw [show ((j+1:Nat):Int) - 1=(j:Int) by omega]
    unfold A0.l1 A0.j3 A0.j2;simp (implicitDefEqProofs:=false) (disch:=omega) only [Al,Br,Aa] at h1;simp (implicitDefEqProofs:=false) (disch:=omega) only [Al,Ad,Ac,Br,Aa,hm,Bg hjT,Ay,h1]
   rw [Bz e0];exact ih _ (by omega) h2
theorem suffixes_eq:∃ T,A0 a b=some T∧Cols a b T 0:=by
 obtain ⟨s1,s2⟩:=small_r hs;unfold A0 A0.j1
 have hm:mk? 24 ((b.length:Int)+1) ([]:List Int)=some (List.replicate (b.length+1) []):=by
  rw [mk_eq (by omega) (by omega),show ((b.length:Int)+1).toNat=b.length+1 by omega]
 obtain ⟨T',h1,h2⟩:=suffix_key hs (b.length+1) (List.replicate (b.length+1) []) (B7 _) ⟨by simp,fun q hq hjq=>by simp at hq;omega⟩
 rw [show ((b.length+1:Nat):Int) - 1=(b.length:Int) by omega] at h1
 refine ⟨T',?_,h2⟩;rw [Br (by omega) (by omega),Aa,hm,Aa,h1,Aa]
end
def Xw:Ab→Ab→C6
 | [],[]=>[]
 | [],y::b=>⟨2,y⟩::Xw [] b
 | x::a,[]=>⟨1,x⟩::Xw a []
 | x::a,y::b=>if x=y then ⟨0,x⟩::Xw a b else if lcs a (y::b) ≥ lcs (x::a) b then ⟨1,x⟩::Xw a (y::b) else ⟨2,y⟩::Xw (x::a) b
 termination_by a b=>a.length+b.length
theorem cols_at {T:List (List Int)} (h:Cols a b T 0) {i j:Nat} (hi:i≤a.length) (hj:j≤b.length):∃ c,at? T (j:Int)=some c∧at? c (i:Int)=some ((lcs (a.drop i) (b.drop j):Nat):Int):=by
 obtain ⟨h1,h2⟩:=h;have hjT:j < T.length:=by omega
 obtain ⟨h3,h4⟩:=h2 j hjT (by omega)
 refine ⟨T[j],Bg hjT,?_⟩;rw [Bg (by omega),h4 i (by omega) (.inl (by omega))]
theorem alignR_loop {T:List (List Int)} (hT:Cols a b T 0) (hs:(a.length+b.length) * 24≤140737488355328):∀ (n i j:Nat) (out:C6),i≤a.length→j≤b.length→(a.length - i)+(b.length - j)=n→out.length≤i+j →
  C7 (fun s=>Du.l1 a b T s.1 s.2.1 s.2.2) ((j:Int),(i:Int),out)=some (out++Xw (a.drop i) (b.drop j)):=by
 intro n
 induction n using Nat.strongRecOn with
 | _ n ih =>
 intro i j out hi hj hn hl;have app:∀ x:Step_changeforgeref1,i+j < a.length+b.length→app? 24 out [x]=some (out++[x]):=fun x h=>Dp (by simp only [Ak];omega)
 by_cases hia:i < a.length
 ·have hda:=Mw hia;have ei:(i:Int)+1=((i+1:Nat):Int):=rfl;by_cases hjb:j < b.length
  ·have hdb:=Mw hjb;have ej:(j:Int)+1=((j+1:Nat):Int):=rfl;obtain ⟨c1,p1,p2⟩:=cols_at hT (i:=i+1) (j:=j) (by omega) hj
   obtain ⟨c2,q1,q2⟩:=cols_at hT (i:=i) (j:=j+1) (by omega) (by omega)
   rw [← ei] at p2;rw [← ej] at q1
   have e0:Du.l1 a b T (j:Int) (i:Int) out=if a[i]=b[j] then some (.next (((j+1:Nat):Int),((i+1:Nat):Int),out++[⟨0,a[i]⟩])) else
     if lcs (a.drop (i+1)) (b.drop j) ≥ lcs (a.drop i) (b.drop (j+1)) then some (.next ((j:Int),((i+1:Nat):Int),out++[⟨1,a[i]⟩])) else some (.next (((j+1:Nat):Int),(i:Int),out++[⟨2,b[j]⟩])):=by
    unfold Du.l1;have c1':decide ((i:Int) < (a.length:Int))=true:=Ag (by omega)
    have c2':decide ((j:Int) < (b.length:Int))=true:=Ag (by omega)
    have c3':decide ((j:Int)=(b.length:Int))=false:=Af (by omega)
    rw [c1',c2',c3'];simp (implicitDefEqProofs:=false) (disch:=omega) only [E4,Aa,Bg hia,Bg hjb,Br,p1,p2,q1,q2,A6,Cg,app,Bs];split
    ·rfl
    ·by_cases h:lcs (a.drop (i+1)) (b.drop j) ≥ lcs (a.drop i) (b.drop (j+1))
     ·rw [Ad (by omega),Ad h];rfl
     ·rw [Ac (by omega),Ac h];rfl
   have hal:Xw (a.drop i) (b.drop j)=if a[i]=b[j] then ⟨0,a[i]⟩::Xw (a.drop (i+1)) (b.drop (j+1)) else if lcs (a.drop (i+1)) (b.drop j) ≥ lcs (a.drop i) (b.drop (j+1)) then ⟨1,a[i]⟩::Xw (a.drop (i+1)) (b.drop j) else ⟨2,b[j]⟩::Xw (a.drop i) (b.drop (j+1)):=by
    conv=>lhs;rw [hda,hdb,Xw]
    rw [← hda,← hdb]
   rw [hal];by_cases heq:a[i]=b[j]
   ·rw [Ad heq] at e0 ⊢;rw [Bz e0,ih _ (by omega) (i+1) (j+1) _ (by omega) (by omega) rfl (by simp;omega),Am];rfl
   ·rw [Ac heq] at e0 ⊢;by_cases h:lcs (a.drop (i+1)) (b.drop j) ≥ lcs (a.drop i) (b.drop (j+1))
    ·rw [Ad h] at e0 ⊢;rw [Bz e0,ih _ (by omega) (i+1) j _ (by omega) (by omega) rfl (by simp;omega),Am];rfl
    ·rw [Ac h] at e0 ⊢;rw [Bz e0,ih _ (by omega) i (j+1) _ (by omega) (by omega) rfl (by simp;omega),Am];rfl
  ·have hj':j=b.length:=by omega
   subst hj'
   have e0:Du.l1 a b T (b.length:Int) (i:Int) out=some (.next ((b.length:Int),((i+1:Nat):Int),out++[⟨1,a[i]⟩])):=by
    unfold Du.l1;have c1':decide ((i:Int) < (a.length:Int))=true:=Ag (by omega)
    have c2':decide ((b.length:Int) < (b.length:Int))=false:=Af (by omega)
    rw [c1',c2'];simp (implicitDefEqProofs:=false) (disch:=omega) only [E4,Aa,Bg hia,Br,A6,Cg,app,C3];rfl
   rw [Bz e0,ih _ (by omega) (i+1) b.length _ (by omega) (by omega) rfl (by simp;omega),Am,hda,List.drop_length]
   conv=>rhs;rw [Xw]
   rfl
 ·have hi':i=a.length:=by omega
  subst hi';by_cases hjb:j < b.length
  ·have hdb:=Mw hjb
   have e0:Du.l1 a b T (j:Int) (a.length:Int) out=some (.next (((j+1:Nat):Int),(a.length:Int),out++[⟨2,b[j]⟩])):=by
    unfold Du.l1;have c1':decide ((a.length:Int) < (a.length:Int))=false:=Af (by omega)
    have c2':decide ((j:Int) < (b.length:Int))=true:=Ag (by omega)
    have c3':decide ((j:Int)=(b.length:Int))=false:=Af (by omega)
    rw [c1',c2',c3'];simp (implicitDefEqProofs:=false) (disch:=omega) only [E4,Aa,Bg hjb,Br,A6,Cg,app];rfl
   rw [Bz e0,ih _ (by omega) a.length (j+1) _ (by omega) (by omega) rfl (by simp;omega),Am,hdb,List.drop_length]
   conv=>rhs;rw [Xw]
   rfl
  ·have hj':j=b.length:=by omega
   subst hj';rw [List.drop_length,List.drop_length];refine (Bm ?_).trans (by simp [Xw]:some out=_)
   unfold Du.l1;have c1':decide ((a.length:Int) < (a.length:Int))=false:=Af (by omega)
   have c2':decide ((b.length:Int) < (b.length:Int))=false:=Af (by omega)
   rw [c1',c2'];simp only [A6,Cg,Aa]
theorem alignR_eq (hs:(a.length+1) * (b.length+1) * 24≤140737488355328):Du a b=some (Xw a b):=by
 obtain ⟨T,h1,h2⟩:=suffixes_eq hs
 have hs2:(a.length+b.length) * 24≤140737488355328:=by
  have:a.length+b.length+1≤(a.length+1) * (b.length+1):=by
   rw [B8,Nat.mul_add,Nat.mul_one,Nat.one_mul];omega
  omega
 unfold Du;rw [h1,Aa];have:=alignR_loop h2 hs2 _ 0 0 [] (Cs _) (Cs _) rfl (by simp)
 simp only [List.drop_zero,A8] at this;rw [show (0:Int)=((0:Nat):Int) from rfl,this,Aa]
def Qh (b:Ai) (p:ByteArray):Ab:=match b[H9 b p]? with
 | some g=>g.Lines
 | Option.none=>[]
def rmOf (b:Ai) (f:File):Option TreeChange:=if Lb b f.Path=true then Option.none else some ⟨2,f.Path,ByteArray.empty,f.Lines,⟨[]⟩⟩
def edOf (b:Ai) (f:File):Option TreeChange:=if Lb b f.Path=true∧H3 f.Lines (Qh b f.Path)≠[] then some (edF f.Path ⟨H3 f.Lines (Qh b f.Path)⟩) else Option.none
def adOf (a:Ai) (f:File):Option TreeChange:=if Lb a f.Path=true then Option.none else some ⟨1,f.Path,ByteArray.empty,f.Lines,⟨[]⟩⟩
theorem text0 {l:Ab} (h:Kb l):(B5 l).Code=0:=(Er _).1 ((Hr _).1 h)
def difL (a b:Ai):Ap:=a.filterMap (rmOf b)++a.filterMap (edOf b)++b.filterMap (adOf a)
theorem ch_ok {k:Int} {f:File} (hk:k=1∨k=2) (h1:Kq f.Path=true) (h2:Kb f.Lines):OkCh ⟨k,f.Path,ByteArray.empty,f.Lines,⟨[]⟩⟩ :=
 ⟨by simp only;omega,h1,fun h=>by simp only at h;omega,fun _=>rfl,fun h=>by simp only at h;omega,fun h=>by simp only at h;omega,fun _=>rfl,text0 h2,(by decide +kernel:(H8 ⟨[]⟩).Code=0)⟩
theorem linesAt_mem {b:Ai} (hb:TrOk b) {p:ByteArray} (h:Lb b p=true):(⟨p,Qh b p⟩:File)∈b:=by
 obtain ⟨hp,he⟩:=Ww hb.srt h
 have e:(⟨p,Qh b p⟩:File)=b[H9 b p]:=by
  unfold Qh;rw [A3 hp];simp only;generalize b[H9 b p]=g at he;obtain ⟨gp,gl⟩:=g;simp only at he;rw [he]
 rw [e];exact Ar hp
theorem has_mem {l:Ai} {f:File} (h:f∈l):Lb l f.Path=true:=by
 unfold Lb;rw [Ke];exact ⟨f,h,Ag rfl⟩
theorem pw_ext {α:Type} {R:α→α→Prop} (asym:∀ x y,R x y→¬ R y x):∀ {a b:List α},a.Pairwise R→b.Pairwise R→(∀ f,f∈a↔f∈b)→a=b
 | [],[],_,_,_=>rfl
 | [],y::b,_,_,h=>absurd ((h y).2 (by simp)) (by simp)
 | x::a,[],_,_,h=>absurd ((h x).1 (by simp)) (by simp)
 | x::a,y::b,ha,hb,h=>by
  rw [D9] at ha hb;have irr:∀ z,¬ R z z:=fun z hz=>asym z z hz hz
  have e:x=y:=by
   rcases Bf.1 ((h x).1 (by simp)) with e | h1
   ·exact e
   ·rcases Bf.1 ((h y).2 (by simp)) with e | h2
    ·exact e.symm
    ·exact absurd (hb.1 x h1) (asym _ _ (ha.1 y h2))
  subst e;congr 1;refine pw_ext asym ha.2 hb.2 fun f=>⟨fun hf=>?_,fun hf=>?_⟩
  ·rcases Bf.1 ((h f).1 (Bk _ hf)) with e | h1
   ·subst e;exact absurd (ha.1 f hf) (irr f)
   ·exact h1
  ·rcases Bf.1 ((h f).2 (Bk _ hf)) with e | h1
   ·subst e;exact absurd (hb.1 f hf) (irr f)
   ·exact h1
end Go.Dc
set_option linter.unusedSimpArgs false
set_option linter.unusedVariables false
set_option maxRecDepth 4000
namespace Go.Dc
open Go
def prun:C6→Cst→Cst
 | [],s=>s
 | t::r,s=>prun r (if t.Kind=0 then Of s else if t.Kind=1 then Q5 t.Text s else Tk t.Text s)
theorem Zf:∀ (a b:Ab) (s:Cst),prun (Xw a b) s=scr a b s
 | [],[],s=>by simp [Xw,scr,prun]
 | [],y::b,s=>by rw [Xw,scr,prun,Zf [] b];simp
 | x::a,[],s=>by rw [Xw,scr,prun,Zf a []];simp
 | x::a,y::b,s=>by
  rw [Xw,scr];split
  ·rw [prun,Zf a b];simp
  ·split
   ·rw [prun,Zf a (y::b)];simp
   ·rw [prun,Zf (x::a) b];simp
 termination_by a b=>a.length+b.length
theorem algs_len:∀ (a b:Ab),(Xw a b).length≤a.length+b.length
 | [],[]=>by simp [Xw]
 | [],y::b=>by have:=algs_len [] b;rw [Xw];simp at this ⊢;omega
 | x::a,[]=>by have:=algs_len a [];rw [Xw];simp at this ⊢;omega
 | x::a,y::b=>by
  rw [Xw];split
  ·have:=algs_len a b;simp;omega
  ·split
   ·have:=algs_len a (y::b);simp at this ⊢;omega
   ·have:=algs_len (x::a) b;simp at this ⊢;omega
 termination_by a b=>a.length+b.length
theorem patchOf_loop (l:C6) (hl:l.length≤1000):∀ (rest:C6) (k:Nat) (s:Cst),l.drop k=rest→k≤l.length→CInv s k →
  C7 (fun s=>Bu.l1 l s.1 s.2.1 s.2.2.1 s.2.2.2) ((k:Int),s.2.2,s.2.1,s.1)=some (prun rest s).1:=by
 intro rest
 induction rest with
 | nil =>
  intro k s hk _ _;have:=Kt hk;refine Bm ?_;show Bu.l1 l _ _ _ _=_;unfold Bu.l1;rw [Af (by omega),Ac Ae];rfl
 | cons t r ih =>
  intro k s hk hkl hs;obtain ⟨hlt,hx,hr⟩:=K9 hk;have hat0:=hs.at0;have hat1:=hs.at1;have hlen:=hs.len
  have j2e:∀ (o:Bool) (p:Int) (h:A7),Bu.j2 (k:Int) o p h=some (Step.next (((k+1:Nat):Int),o,p,h)):=by
   intro o p h;unfold Bu.j2;rw [Br (by omega) (by omega),Aa];rfl
  rw [prun];by_cases h0:t.Kind=0
  ·rw [Ad h0]
   have hst:Bu.l1 l (k:Int) s.2.2 s.2.1 s.1=some (Step.next (((k+1:Nat):Int),(Of s).2.2,(Of s).2.1,(Of s).1)):=by
    unfold Bu.l1;rw [Ag (by omega),Ad rfl,Bg hlt,Aa,hx,Ag h0,Ad rfl,Br (by omega) (by omega),Aa,j2e]
    rfl
   rw [Bz (s':=(((k+1:Nat):Int),(Of s).2.2,(Of s).2.1,(Of s).1)) hst];exact ih (k+1) (Of s) hr hlt hs.keep
  ·rw [Ac h0];obtain ⟨q,hq⟩:=cOpen_last s hs.open_;have hol:=cOpen_len s
   have ez:((Me s).length:Int) - 1=(((Me s).length - 1:Nat):Int):=by
    have:=K7.2 (cOpen_ne s hs.open_);omega
   have hqm:q.Old.length≤k∧q.New.length≤k:=by
    rcases Xu (List.mem_of_getLast? hq) with hq | ⟨h1,h2⟩
    ·exact hs.each q hq
    ·simp [h1,h2]
   have j3e:Bu.j3 l (k:Int) s.2.1 true (Me s)=some (Step.next (((k+1:Nat):Int),true,(if t.Kind=1 then Q5 t.Text s else Tk t.Text s).2.1,(if t.Kind=1 then Q5 t.Text s else Tk t.Text s).1)):=by
    unfold Bu.j3;by_cases h1:t.Kind=1
    ·obtain ⟨g1,g2,g3⟩:=Aaf hq fun h=>{ h with Old:=h.Old++[t.Text] };rw [Ad h1,Br (by omega) (by omega),Aa,ez,Bg g1,Aa,Bg hlt,Aa,hx,Ag h1,Ad rfl,Aa,g2,Dp (by simp only [Ak];omega),Aa,Br (by omega) (by omega),Aa,Aa,j2e,Ay]
     have:(Me s).set ((Me s).length - 1) ({ At:=q.At,Old:=q.Old++[t.Text],New:=q.New }:Hunk)=(Q5 t.Text s).1:=g3;rw [this];rfl
    ·obtain ⟨g1,g2,g3⟩:=Aaf hq fun h=>{ h with New:=h.New++[t.Text] };rw [Ac h1,Br (by omega) (by omega),Aa,ez,Bg g1,Aa,Bg hlt,Aa,hx,Af h1,Ac Ae,Aa,g2,Dp (by simp only [Ak];omega),Aa,Aa,j2e,Ay]
     have:(Me s).set ((Me s).length - 1) ({ At:=q.At,Old:=q.Old,New:=q.New++[t.Text] }:Hunk)=(Tk t.Text s).1:=g3;rw [this];rfl
   have ho:(if t.Kind=1 then Q5 t.Text s else Tk t.Text s).2.2=true:=by split <;> rfl
   have hst:Bu.l1 l (k:Int) s.2.2 s.2.1 s.1=some (Step.next (((k+1:Nat):Int),(if t.Kind=1 then Q5 t.Text s else Tk t.Text s).2.2,(if t.Kind=1 then Q5 t.Text s else Tk t.Text s).2.1,(if t.Kind=1 then Q5 t.Text s else Tk t.Text s).1)):=by
    unfold Bu.l1;rw [Ag (by omega),Ad rfl,Bg hlt,Aa,hx,Af h0,Ac Ae,ho]
    cases hb:s.2.2 with
    | true =>
     have:Me s=s.1:=by unfold Me;rw [hb,Ad rfl]
     rw [this] at j3e;rw [Ac (by decide)];exact j3e
    | false =>
     have:Me s=s.1++[⟨s.2.1,[],[]⟩]:=by unfold Me;rw [hb,Ac (by decide)]
     rw [Ad (by decide),Dp (by simp only [Ak];omega),Aa,← this];exact j3e
   rw [Bz (s':=(((k+1:Nat):Int),(if t.Kind=1 then Q5 t.Text s else Tk t.Text s).2.2,(if t.Kind=1 then Q5 t.Text s else Tk t.Text s).2.1,(if t.Kind=1 then Q5 t.Text s else Tk t.Text s).1)) hst]
   exact ih (k+1) _ hr hlt (by split;exact hs.del _;exact hs.ins _)
theorem rscript_f {a b:Ab} (ha:a.length≤400) (hb:b.length≤400):K6 a b=some ⟨H3 a b⟩:=by
 have h1:(a.length+1) * (b.length+1)≤401 * 401:=Tt (by omega) (by omega)
 have h2:=algs_len a b;unfold K6 Bu;rw [alignR_eq (by omega),Aa]
 have:=patchOf_loop (Xw a b) (by omega) (Xw a b) 0 ([],0,false) rfl (Cs _) ⟨by simp,by simp,by simp,by simp,by simp⟩
 simp only [show ((0:Nat):Int)=0 from rfl] at this;rw [this,Aa,Zf];rfl
end Go.Dc
set_option linter.unusedSimpArgs false
set_option linter.unusedVariables false
set_option maxRecDepth 4000
namespace Go.Dc
open Go
theorem anyH_loop {α:Type} {m:Int→Option (Step Int (Bool ⊕ Unit))} (l:List α) (p:α→Bool) (h:∀ k (hk:k < l.length),m (k:Int)=if p l[k]=true then some (.done (.inl true)) else some (.next ((k+1:Nat):Int)))
  (he:m (l.length:Int)=some (.done (.inr ()))):C7 m 0=some (if l.any p=true then .inl true else .inr ()):=by
 have key:∀ (rest:List α) (k:Nat),l.drop k=rest→k≤l.length→C7 m (k:Int)=some (if rest.any p=true then .inl true else .inr ()):=by
  intro rest
  induction rest with
  | nil =>
   intro k hk hkl;have:=Kt hk;have e:k=l.length:=by omega
   subst e;exact Bm he
  | cons x r ih =>
   intro k hk hkl;obtain ⟨hlt,hx,hr⟩:=K9 hk;have h1:=h k hlt;rw [hx] at h1;rw [Lc];by_cases hp:p x=true
   ·rw [Ad hp] at h1;rw [Bm h1,hp];rfl
   ·rw [Ac hp] at h1;rw [Bz h1,ih (k+1) hr (by omega),Bool.eq_false_iff.2 hp,Ki]
 exact key l 0 rfl (Cs _)
def cvH (k:Int) (h:Hunk):Bool:=decide (h.At≤k) && decide (k < h.At+h.Old.length)
def mkH (k:Int) (h:Hunk):Bool:=decide (h.At≤k) && decide (k≤h.At+h.Old.length)
def cvB (P:A7) (k:Int):Bool:=P.any (cvH k)
def mkB (P:A7) (k:Int):Bool:=P.any (mkH k)
theorem cvB_iff {P:A7} {k:Int}:cvB P k=true↔∃ h∈P,h.At≤k∧k < h.At+h.Old.length:=by
 unfold cvB cvH;rw [Ke];simp only [Cv,Bs]
theorem mkB_iff {P:A7} {k:Int}:mkB P k=true↔∃ h∈P,h.At≤k∧k≤h.At+h.Old.length:=by
 unfold mkB mkH;rw [Ke];simp only [Cv,Bs]
theorem covers_f {t:Ab} (ht:t.length≤120) {P Q:A7} (hP:Side t P) (hQ:Side t Q) (k:Int):Cp ⟨P⟩ ⟨Q⟩ k=some (cvB P k || cvB Q k):=by
 have hc:∀ (i:Nat) {S:A7} (hS:Side t S) (hi:i < S.length),(if decide (S[i].At≤k)=true then (at? S (i:Int)).bind fun y=>(Gv y).bind fun z=>some (decide (k < z)) else some false)=some (cvH k S[i]):=by
  intro i S hS hi;obtain ⟨h1,h2,_⟩:=hS.ins _ (Ar hi);rw [Bg hi,Aa,rend_f _ (by omega) (by omega) (by omega),Aa]
  unfold cvH;by_cases h:S[i].At≤k <;> simp [h]
 have hl:=hP.len;have hl2:=hQ.len;unfold Cp
 rw [anyH_loop P (cvH k) (fun i hi=>by
  unfold Cp.l2;simp only;rw [Al,Ad (by omega),Bg hi,Aa]
  have:=hc i hP hi;rw [Bg hi,Aa] at this;rw [Aa,this,Aa];split
  ·rfl
  ·rw [Br (by omega) (by omega),Aa];rfl) (by
  unfold Cp.l2;simp only;rw [Al,Ac (by omega)]),Aa]
 show _=some (P.any (cvH k) || Q.any (cvH k));cases P.any (cvH k)
 ·rw [Ac Ae];simp only;unfold Cp.j1
  rw [anyH_loop Q (cvH k) (fun i hi=>by
   unfold Cp.l1;simp only;rw [Al,Ad (by omega),Bg hi,Aa]
   have:=hc i hQ hi;rw [Bg hi,Aa] at this;rw [Aa,this,Aa];split
   ·rfl
   ·rw [Br (by omega) (by omega),Aa];rfl) (by
   unfold Cp.l1;simp only;rw [Al,Ac (by omega)]),Aa]
  cases Q.any (cvH k) <;> rfl
 ·rfl
structure Mks (n:Nat) (z:List Int) (S:Int→Bool):Prop where
 len:z.length=n+1
 at_:∀ k (h:k < z.length),z[k]=if S (k:Int)=true then 1 else 0
theorem Mks.ext {n:Nat} {z:List Int} {S S':Int→Bool} (h:Mks n z S) (e:∀ k:Nat,k≤n→S k=S' k):Mks n z S' :=
 ⟨h.len,fun k hk=>by rw [h.at_ k hk,e k (by have:=h.len;omega)]⟩
theorem marks_l3 {n:Nat} {P:A7} {i:Nat} (hi:i < P.length) (hn:n≤120) (h0:0≤P[i].At) (h1:P[i].At+P[i].Old.length≤n) {z:List Int} {S:Int→Bool} (hz:Mks n z S) :
  ∃ z',C7 (fun s=>A5.l3 P (i:Int) s.1 s.2) (P[i].At,z)=some z'∧Mks n z' (fun k=>S k || mkH k P[i]):=by
 obtain ⟨a,ha⟩:∃ a:Nat,P[i].At=(a:Int):=⟨P[i].At.toNat,by omega⟩
 rw [ha];refine inv_loopE a (a+P[i].Old.length+1) (by omega) (fun k z=>Mks n z fun j=>S j || (decide (P[i].At≤j) && decide (j < (k:Int)))) (fun z'=>Mks n z' (fun k=>S k || mkH k P[i])) ?_ ?_ z ?_
 ·intro k w hk1 hk2 hw;have hlw:=hw.len;refine .inl ⟨w.set k 1,?_,by rw [Ls];exact hlw,fun j hj=>?_⟩
  ·unfold A5.l3;simp only;rw [Bg hi,Aa,rend_f _ (by omega) (by omega) (by omega),Aa,Al,Ad (by omega),Bg (by omega),Aa,Aa,Ay,Br (by omega) (by omega),Aa];rfl
  ·rw [Ls] at hj;rw [List.getElem_set];by_cases hjk:k=j
   ·subst hjk;rw [Ad rfl,Ad (by simp only [Gd,Cv,Bs];right;omega)]
   ·rw [Ac hjk,hw.at_ j hj];have:(decide ((j:Int) < (k:Int)))=decide ((j:Int) < ((k+1:Nat):Int)):=Ch.2 (by omega)
    simp only [this]
 ·intro w hw;have hlw:=hw.len;refine ⟨w,?_,hw.ext fun k hk=>?_⟩
  ·unfold A5.l3;simp only;rw [Bg hi,Aa,rend_f _ (by omega) (by omega) (by omega),Aa,Al,Ac (by omega)]
  ·unfold mkH;have:(decide ((k:Int) < ((a+P[i].Old.length+1:Nat):Int)))=decide ((k:Int)≤P[i].At+P[i].Old.length):=Ch.2 (by omega)
   rw [this]
 ·exact hz.ext fun k hk=>by
   have:(decide (P[i].At≤(k:Int)) && decide ((k:Int) < (a:Int)))=false:=by
    rw [Bool.and_eq_false_iff];simp only [Ep];omega
   rw [this,N2]
theorem marks_l2 {t:Ab} (ht:t.length≤120) {P:A7} (hP:Side t P) {z:List Int} {S:Int→Bool} (hz:Mks t.length z S) :
  ∃ z',C7 (fun s=>A5.l2 P s.1 s.2) (0,z)=some z'∧Mks t.length z' (fun k=>S k || mkB P k):=by
 have hl:=hP.len;refine La P.length (fun k z=>Mks t.length z fun j=>S j || mkB (P.take k) j) _ ?_ ?_ z (hz.ext fun k _=>by simp [mkB])
 ·intro k w hk hw;obtain ⟨h1,h2,_⟩:=hP.ins _ (Ar hk);obtain ⟨z',e,hz'⟩:=marks_l3 hk ht h1 h2 hw;refine ⟨z',?_,hz'.ext fun j _=>?_⟩
  ·unfold A5.l2;simp only;rw [Al,Ad (by omega),Bg hk,Aa,e,Aa]
   unfold A5.j6 A5.j5;rw [Br (by omega) (by omega),Aa];rfl
  ·rw [As hk];unfold mkB;rw [Hh];simp [Bool.or_assoc]
 ·intro w hw;refine ⟨w,?_,by rw [Bw] at hw;exact hw⟩
  unfold A5.l2;simp only;rw [Al,Ac (by omega)]
theorem joined_f {t:Ab} (ht:t.length≤120) {P Q:A7} (hP:Side t P) (hQ:Side t Q):∃ z,A5 t ⟨P⟩ ⟨Q⟩=some z∧Mks t.length z fun k=>mkB P k || mkB Q k:=by
 have h0:Mks t.length (List.replicate (t.length+1) 0) fun _=>false:=⟨by simp,fun k h=>by simp⟩
 obtain ⟨z1,e1,h1⟩:=marks_l2 ht hP h0;obtain ⟨z2,e2,h2⟩:=marks_l2 ht hQ h1;refine ⟨z2,?_,h2.ext fun k _=>by simp⟩
 have hj:∀ (x:Int) w,0≤x→x≤5→A5.j4 x w=some (.next (x+1,w)):=by
  intro x w hx hx5;unfold A5.j4 A5.j2;rw [Br (by omega) (by omega),Aa]
 have s0:A5.l1 ⟨P⟩ ⟨Q⟩ 0 (List.replicate (t.length+1) 0)=some (.next (1,z1)):=by
  unfold A5.l1;rw [Al,Ad (by omega),Al,Ac (by omega)]
  unfold A5.j3;rw [e1,Aa,hj 0 z1 (by omega) (by omega)];rfl
 have s1:A5.l1 ⟨P⟩ ⟨Q⟩ 1 z1=some (.next (2,z2)):=by
  unfold A5.l1;rw [Al,Ad (by omega),Al,Ad (by omega)]
  unfold A5.j3;rw [e2,Aa,hj 1 z2 (by omega) (by omega)];rfl
 have s2:A5.l1 ⟨P⟩ ⟨Q⟩ 2 z2=some (.done z2):=by
  unfold A5.l1;rw [Al,Ac (by omega)]
 unfold A5;rw [Br (by omega) (by omega),Aa,mk_eq (by omega) (by omega),Aa,show ((t.length:Int)+1).toNat=t.length+1 by omega]
 rw [Bz (m:=fun s:Int×List Int=>A5.l1 ⟨P⟩ ⟨Q⟩ s.1 s.2) s0,Bz (m:=fun s:Int×List Int=>A5.l1 ⟨P⟩ ⟨Q⟩ s.1 s.2) s1,Bm (m:=fun s:Int×List Int=>A5.l1 ⟨P⟩ ⟨Q⟩ s.1 s.2) s2,Aa]
def nwL (P:A7) (k:Int):Ab:=(P.filter fun h=>decide (h.At=k)).flatMap (·.New)
def nwB (P:A7) (k:Int):Bool:=P.any fun h=>decide (h.At=k)
def vT (t:Ab) (N:Int→Ab) (C:Int→Bool):Nat→Nat→Ab
 | k,0=>N k
 | k,n+1=>N k++((if C k=true then [] else (t.drop k).take 1)++vT t N C (k+1) n)
theorem vT_ext {t:Ab} {N N':Int→Ab} {C C':Int→Bool}:∀ (n k:Nat),(∀ j:Nat,k≤j→j≤k+n→N j=N' j)→(∀ j:Nat,k≤j→j < k+n→C j=C' j)→vT t N C k n=vT t N' C' k n
 | 0,k,h1,_=>by rw [vT,vT,h1 k (B7 _) (B7 _)]
 | n+1,k,h1,h2=>by
  rw [vT,vT,h1 k (B7 _) (by omega),h2 k (B7 _) (by omega),vT_ext n (k+1) (fun j h3 h4=>h1 j (by omega) (by omega)) fun j h3 h4=>h2 j (by omega) (by omega)]
theorem vT_free {t:Ab} {N:Int→Ab} {C:Int→Bool}:∀ (m k n:Nat),(∀ j:Nat,k≤j→j < k+m→N j=[]∧C j=false)→vT t N C k (m+n)=(t.drop k).take m++vT t N C (k+m) n
 | 0,k,n,_=>by simp
 | m+1,k,n,h=>by
  obtain ⟨h1,h2⟩:=h k (B7 _) (by omega)
  have ih:=vT_free (t:=t) (N:=N) (C:=C) m (k+1) n fun j h3 h4=>h j (by omega) (by omega)
  rw [show m+1+n=(m+n)+1 by omega,vT,h1,h2,Ac Ae,A8,ih,← Am,show k+1+m=k+(m+1) by omega]
  congr 1;rw [show m+1=1+m by omega,U4,Gu]
theorem vT_gone {t:Ab} {N:Int→Ab} {C:Int→Bool}:∀ (m k n:Nat),(∀ j:Nat,k≤j→j < k+m→C j=true)→(∀ j:Nat,k < j→j < k+m→N j=[])→0 < m→vT t N C k (m+n)=N k++vT t N C (k+m) n
 | 1,k,n,h,_,_=>by
  rw [show 1+n=n+1 by omega,vT,h k (B7 _) (by omega),Ad rfl,A8]
 | m+2,k,n,h,h2,_=>by
  have ih:=vT_gone (t:=t) (N:=N) (C:=C) (m+1) (k+1) n (fun j h3 h4=>h j (by omega) (by omega)) (fun j h3 h4=>h2 j (by omega) (by omega)) (by omega)
  rw [show m+2+n=(m+1+n)+1 by omega,vT,h k (B7 _) (by omega),Ad rfl,A8,ih,h2 (k+1) (by omega) (by omega),A8,show k+1+(m+1)=k+(m+2) by omega]
theorem nwL_nil {P:A7} {k:Int} (h:∀ x∈P,x.At≠k):nwL P k=[]:=by
 unfold nwL;rw [List.filter_eq_nil_iff.2 fun x hx=>by simpa using h x hx];rfl
theorem cvB_no {P:A7} {k:Int} (h:∀ x∈P,k < x.At∨x.At+x.Old.length≤k):cvB P k=false:=by
 rw [Bool.eq_false_iff];intro e;obtain ⟨x,hx,h1,h2⟩:=cvB_iff.1 e;have:=h x hx;omega
theorem vT_raw {t:Ab}:∀ (hs:A7) (e:Int) (k n:Nat),Chn e hs→(∀ h∈hs,(k:Int)≤h.At)→(∀ h∈hs,h.At+h.Old.length≤((k+n:Nat):Int))→vT t (nwL hs) (cvB hs) k n=rawIn t hs k (k+n)
 | [],e,k,n,_,_,_=>by
  have:=vT_free (t:=t) (N:=nwL []) (C:=cvB []) n k 0 fun j _ _=>⟨rfl,rfl⟩;rw [Eg] at this;rw [this,rawIn,vT,show k+n - k=n by omega]
  show _++[]=_;rw [Bh]
 | h::hs,e,k,n,hc,h0,h1=>by
  obtain ⟨c1,c2⟩:=hc;have a0:=h0 h Ce;have a1:=h1 h Ce;have hlt:=chn_lt c2 fun x hx=>by have:=h0 x (Bk _ hx);omega
  obtain ⟨a,ha⟩:∃ a:Nat,h.At=(a:Int):=⟨h.At.toNat,by omega⟩
  rw [ha] at a0 a1 hlt;have hfar:∀ x∈hs,(a:Int)+h.Old.length < x.At:=fun x hx=>hlt x hx;obtain ⟨m,rfl⟩:∃ m,a=k+m:=⟨a - k,by omega⟩
  obtain ⟨n2,rfl⟩:∃ n2,n=m+(h.Old.length+n2):=⟨n - m - h.Old.length,by omega⟩
  rw [vT_free m k _ fun j h3 h4=>⟨nwL_nil fun x hx=>by
   rcases Bf.1 hx with rfl | hx
   ·omega
   ·have:=hfar x hx;omega,cvB_no fun x hx=>by
   rcases Bf.1 hx with rfl | hx
   ·omega
   ·have:=hfar x hx;omega⟩,rawIn,show h.At.toNat=k+m by omega,show k+m - k=m by omega]
  congr 1
  have hN:nwL (h::hs) ((k+m:Nat):Int)=h.New:=by
   unfold nwL;rw [Nt,Ad (by simpa using ha),Nj,List.filter_eq_nil_iff.2 fun x hx=>by have:=hfar x hx;simp;omega]
   simp
  have hrest:vT t (nwL (h::hs)) (cvB (h::hs)) (k+m) (h.Old.length+n2)=h.New++vT t (nwL hs) (cvB hs) (k+m+h.Old.length) n2:=by
   have hC:∀ j:Nat,k+m+h.Old.length≤j→cvB (h::hs) (j:Int)=cvB hs j:=by
    intro j hj;unfold cvB;rw [Lc]
    have:cvH (j:Int) h=false:=by
     unfold cvH;rw [Bool.and_eq_false_iff];simp only [Ep];omega
    rw [this,Ki]
   have hNw:∀ j:Nat,k+m < j→nwL (h::hs) (j:Int)=nwL hs j:=by
    intro j hj;unfold nwL;rw [Nt,Ac (by simp;omega)]
   by_cases hz:h.Old.length=0
   ·rw [hz,Gc,Eg];cases n2 with
    | zero =>
     rw [vT,vT,hN,nwL_nil fun x hx=>by have:=hfar x hx;omega];simp
    | succ n2 =>
     rw [vT,vT,hN,nwL_nil (P:=hs) fun x hx=>by have:=hfar x hx;omega,A8,hC _ (by omega),vT_ext n2 (k+m+1) (fun j h3 _=>hNw j (by omega)) fun j h3 _=>hC j (by omega)]
   ·rw [vT_gone h.Old.length (k+m) n2 (fun j h3 h4=>cvB_iff.2 ⟨h,Ce,by omega,by omega⟩) (fun j h3 h4=>by
     rw [hNw j (by omega)]
     exact nwL_nil fun x hx=>by have:=hfar x hx;omega) (by omega),hN,vT_ext n2 _ (fun j h3 _=>hNw j (by omega)) fun j h3 _=>hC j (by omega)]
  rw [hrest,vT_raw hs _ _ n2 c2 (fun x hx=>by have:=hfar x hx;omega) (fun x hx=>by have:=h1 x (Bk _ hx);omega)]
  congr 2;omega
theorem nwL_len {t:Ab} {P:A7} (hP:Side t P) (k:Int):∀ i,(nwL (P.take i) k).length≤130 * 120:=by
 intro i
 have h1:∀ l:A7,(∀ h∈l,h.New.length≤120)→(nwL l k).length≤l.length * 120:=by
  intro l
  induction l with
  | nil=>intro _;simp [nwL]
  | cons x l ih =>
   intro h;have:=ih fun y hy=>h y (Bk _ hy);have:=h x Ce;unfold nwL at *;rw [Nt,Eb];split
   ·rw [Nj,Aj];omega
   ·omega
 have h2:=h1 (P.take i) fun x hx=>(hP.ins x (C4 hx)).2.2.1;have h3:=hP.len;have:(P.take i).length≤P.length:=by rw [Bl];omega
 have:(P.take i).length * 120≤130 * 120:=Aq _ (by omega)
 omega
theorem var_l3 {t:Ab} {P:A7} (hP:Side t P) (k:Int) (a:Bool) (o:Ab) (ho:o.length≤10000000) :
  C7 (fun s=>A1.l3 ⟨P⟩ k s.1 s.2.1 s.2.2) (0,a,o)=some (a || nwB P k,o++nwL P k):=by
 have hl:=hP.len
 obtain ⟨r,e,rfl⟩:=La (f:=fun s=>A1.l3 ⟨P⟩ k s.1 s.2.1 s.2.2) P.length (fun i s=>s=(a || nwB (P.take i) k,o++nwL (P.take i) k)) (fun r=>r=(a || nwB P k,o++nwL P k)) (by
  rintro i s hi rfl;have h0:=nwL_len hP k i;have h1:=(hP.ins _ (Ar hi)).2.2.1;refine ⟨_,?_,rfl⟩
  have eN:nwL (P.take (i+1)) k=nwL (P.take i) k++if P[i].At=k then P[i].New else []:=by
   unfold nwL;rw [As hi,M0,List.flatMap_append];by_cases h:P[i].At=k <;> simp [h]
  have eB:nwB (P.take (i+1)) k=(nwB (P.take i) k || decide (P[i].At=k)):=by
   unfold nwB;rw [As hi,Hh];simp
  unfold A1.l3;simp only;rw [Al,Ad (by omega),Bg hi,Aa,Al,eN,eB]
  have hj:∀ (b:Bool) w,A1.j6 (i:Int) b w=some (.next (((i+1:Nat):Int),b,w)):=by
   intro b w;unfold A1.j6;rw [Br (by omega) (by omega),Aa];rfl
  by_cases h:P[i].At=k
  ·rw [Ad h,Ad h,Aa,Dp (by rw [Aj];omega),Aa,hj,Ag h,V6,V6,Am]
  ·rw [Ac h,Ac h,hj,Af h,N2,Bh]) (by
  rintro s rfl;unfold A1.l3;simp only;rw [Al,Ac (by omega),Bw]
  exact ⟨_,rfl,rfl⟩) (a,o) (by simp [nwB,nwL])
 exact e
theorem var_l2 {t:Ab} (ht:t.length≤120) {P:A7} (hP:Side t P) (k:Int):C7 (fun s=>A1.l2 ⟨P⟩ k s.1 s.2) (0,false)=some (cvB P k):=by
 have hl:=hP.len
 obtain ⟨r,e,rfl⟩:=La (f:=fun s=>A1.l2 ⟨P⟩ k s.1 s.2) P.length (fun i s=>s=cvB (P.take i) k) (fun r=>r=cvB P k) (by
  rintro i s hi rfl;obtain ⟨h1,h2,_⟩:=hP.ins _ (Ar hi);refine ⟨_,?_,rfl⟩
  have eB:cvB (P.take (i+1)) k=(cvB (P.take i) k || cvH k P[i]):=by
   unfold cvB;rw [As hi,Hh];simp
  have hc:(if decide (P[i].At≤k)=true then (some P[i]).bind fun y=>(Gv y).bind fun z=>some (decide (k < z)) else some false)=some (cvH k P[i]):=by
   rw [Aa,rend_f _ (by omega) (by omega) (by omega),Aa]
   unfold cvH;by_cases h:P[i].At≤k <;> simp [h]
  have hj:∀ (b:Bool),A1.j5 (i:Int) b=some (.next (((i+1:Nat):Int),b)):=by
   intro b;unfold A1.j5;rw [Br (by omega) (by omega),Aa];rfl
  unfold A1.l2;simp only;rw [Al,Ad (by omega),Bg hi,Aa,hc,Aa,eB,hj,hj]
  cases cvH k P[i]
  ·rw [Ac Ae,N2]
  ·rw [Ad rfl,V6]) (by
  rintro s rfl;unfold A1.l2;simp only;rw [Al,Ac (by omega),Bw]
  exact ⟨_,rfl,rfl⟩) false rfl
 exact e
theorem variant_f {t:Ab} (ht:t.length≤120) {P:A7} (hP:Side t P) {lo hi:Nat} (hlh:lo≤hi) (hh:hi≤t.length) :
  ∃ b,A1 t ⟨P⟩ (lo:Int) (hi:Int)=some (vT t (nwL P) (cvB P) lo (hi - lo),b)∧(b=true↔∃ h∈P,(lo:Int)≤h.At∧h.At≤hi):=by
 obtain ⟨r,e,hr1,hr2⟩:=inv_loopE (f:=fun s=>A1.l1 t ⟨P⟩ (hi:Int) s.1 s.2.1 s.2.2) lo (hi+1) (by omega)
  (fun k s=>(k≤hi→s.2++vT t (nwL P) (cvB P) k (hi - k)=vT t (nwL P) (cvB P) lo (hi - lo))∧(k=hi+1→s.2=vT t (nwL P) (cvB P) lo (hi - lo))∧(s.1=true↔∃ h∈P,(lo:Int)≤h.At∧h.At < (k:Int))∧s.2.length≤k * 20000)
  (fun r=>r.2=vT t (nwL P) (cvB P) lo (hi - lo)∧(r.1=true↔∃ h∈P,(lo:Int)≤h.At∧h.At≤hi)) (by
  rintro k ⟨a,o⟩ hk1 hk2 ⟨i1,_,i3,i4⟩;simp only at i1 i3 i4;have i1:=i1 (by omega)
  have hnl:=nwL_len hP (k:Int) P.length;rw [Bw] at hnl;have hk9:k * 20000≤120 * 20000:=Aq _ (by omega)
  left
  have hj:∀ (b:Bool) w,A1.j2 (k:Int) w b=some (.next (((k+1:Nat):Int),b,w)):=by
   intro b w;unfold A1.j2;rw [Br (by omega) (by omega),Aa];rfl
  have hb:(a || nwB P (k:Int))=true↔∃ h∈P,(lo:Int)≤h.At∧h.At < ((k+1:Nat):Int):=by
   rw [Gd,i3];unfold nwB;rw [Ke];simp only [Bs];constructor
   ·rintro (⟨h,h1,h2,h3⟩ | ⟨h,h1,h2⟩)
    ·exact ⟨h,h1,h2,by omega⟩
    ·exact ⟨h,h1,by omega,by omega⟩
   ·rintro ⟨h,h1,h2,h3⟩;by_cases h4:h.At=(k:Int)
    ·exact .inr ⟨h,h1,h4⟩
    ·exact .inl ⟨h,h1,h2,by omega⟩
  have e0:A1.l1 t ⟨P⟩ (hi:Int) (k:Int) a o=if k < hi∧cvB P (k:Int)=false then some (.next (((k+1:Nat):Int),a || nwB P k,o++nwL P k++(t.drop k).take 1)) else some (.next (((k+1:Nat):Int),a || nwB P k,o++nwL P k)):=by
   unfold A1.l1;rw [Al,Ad (by omega),var_l3 hP _ _ _ (by omega),Aa]
   simp only;unfold A1.j3;rw [var_l2 ht hP,Aa];unfold A1.j4;by_cases h1:k < hi
   ·rw [Al,Ad (by omega),Aa]
    cases cvB P (k:Int)
    ·rw [Ad (show (!false)=true from rfl),Ad ⟨h1,rfl⟩,Bg (by omega),Aa,Dp (by rw [Aj,Ak];omega),Aa,hj]
     rw [Cq (by omega),List.take_succ_cons,G6]
    ·rw [Ac (show ¬ (!true)=true by decide),Ac (fun h=>Bool.noConfusion h.2),hj]
   ·rw [Al,Ac (by omega),Aa,Ac Ae,Ac (fun h=>h1 h.1),hj]
  simp only;rw [e0];by_cases h1:k < hi
  ·obtain ⟨d,hd⟩:∃ d,hi - k=d+1:=⟨hi - k - 1,by omega⟩
   rw [hd,vT] at i1;cases hc:cvB P (k:Int)
   ·rw [Ad ⟨h1,rfl⟩];rw [hc,Ac Ae] at i1;refine ⟨_,rfl,fun _=>?_,fun h=>by omega,hb,?_⟩
    ·simp only;rw [show hi - (k+1)=d by omega,← i1]
     simp only [Am]
    ·simp only [Aj,Bl,Cd];omega
   ·rw [Ac (fun h=>Bool.noConfusion h.2)];rw [hc,Ad rfl,A8] at i1;refine ⟨_,rfl,fun _=>?_,fun h=>by omega,hb,?_⟩
    ·simp only;rw [show hi - (k+1)=d by omega,← i1]
     simp only [Am]
    ·simp only [Aj];omega
  ·have hkh:k=hi:=by omega
   subst hkh;rw [Ac (fun h=>h1 h.1)];rw [Mb,vT] at i1;refine ⟨_,rfl,fun h=>by omega,fun _=>?_,hb,?_⟩
   ·simp only;exact i1
   ·simp only [Aj];omega) (by
  rintro ⟨a,o⟩ ⟨_,i2,i3,_⟩;refine ⟨(a,o),?_,i2 rfl,?_⟩
  ·unfold A1.l1;simp only;rw [Al,Ac (by omega)]
  ·simp only at i3 ⊢;rw [i3];exact ⟨fun ⟨h,h1,h2,h3⟩=>⟨h,h1,h2,by omega⟩,fun ⟨h,h1,h2,h3⟩=>⟨h,h1,h2,by omega⟩⟩) (false,[]) ⟨fun _=>by simp,fun h=>by omega,by
   simp only [A6,false_iff];rintro ⟨h,_,h2,h3⟩;omega,by simp⟩
 obtain ⟨b,o⟩:=r;simp only at hr1 hr2;subst hr1;refine ⟨b,?_,hr2⟩;unfold A1;rw [e,Aa]
def Cvd (all:List RX) (r:RX):Prop:=∀ k:Int,r.Low≤k→k≤r.High→∃ a∈all,a.Low≤k∧k≤a.High∧(k < r.High→k < a.High)
theorem Cvd.mono {all all':List RX} {r:RX} (h:Cvd all r) (hs:∀ a∈all,a∈all'):Cvd all' r:=fun k h1 h2=>by
 obtain ⟨a,ha,hx⟩:=h k h1 h2;exact ⟨a,hs a ha,hx⟩
theorem cvd_fold {all:List RX}:∀ (rest out:List RX),(∀ r∈out,Cvd all r)→(∀ r∈rest,r∈all)→∀ r∈rest.foldl Vw out,Cvd all r
 | [],out,h,_=>h
 | x::rest,out,h,ha=>by
  rw [Hg];refine cvd_fold rest _ ?_ fun r hr=>ha r (Bk _ hr);have hxa:=ha x Ce;have hx:Cvd all x:=fun k h1 h2=>⟨x,hxa,h1,h2,fun h=>h⟩;rcases Ld out with rfl | ⟨o,l,rfl⟩
  ·intro r hr;rw [show Vw [] x=[x] from rfl,A2] at hr;subst hr;exact hx
  ·rw [Ma] at *;have hl:=h l (by simp)
   have est:Vw (o++[l]) x=if touchB l x=true then o++[⟨l.Low,max l.High x.High,l.Growth⟩] else o++[l]++[x]:=by
    unfold Vw;rw [show (o++[l]).getLast? = some l by simp]
    simp only [Mm]
   rw [est];by_cases ht:touchB l x=true
   ·rw [Ad ht];unfold touchB at ht;simp only [Cv,Bs] at ht;intro r hr;rcases Az.1 hr with hr | hr
    ·exact h r (D4 _ hr)
    ·rw [A2] at hr;subst hr;intro k h1 h2;simp only at h1 h2;rcases Int.lt_or_le k l.High with h3 | h3
     ·obtain ⟨a,q1,q2,q3,q4⟩:=hl k h1 (by omega)
      exact ⟨a,q1,q2,q3,fun _=>q4 h3⟩
     ·rcases Int.lt_or_le x.High k with h4 | h4
      ·obtain ⟨a,q1,q2,q3,q4⟩:=hl k h1 (by omega)
       exact ⟨a,q1,q2,q3,fun h5=>by simp only at h5;omega⟩
      ·exact ⟨x,hxa,by omega,h4,fun h5=>by simp only at h5;omega⟩
   ·rw [Ac ht];intro r hr;rcases Az.1 hr with hr | hr
    ·exact h r hr
    ·rw [A2] at hr;subst hr;exact hx
theorem reg_cvd {t:Ab} {P Q:A7}:∀ r∈regF P Q,Cvd (P.map rx++Q.map rx) r:=by
 have hperm:=List.mergeSort_perm (P.map rx++Q.map rx) fun x y=>!ltM G7 y x;unfold regF;exact cvd_fold _ [] (by simp) fun r hr=>hperm.mem_iff.1 hr
theorem both_iff {P Q:A7} {p:RX→Prop}:(∃ a∈P.map rx++Q.map rx,p a)↔(∃ h∈P,p (rx h))∨∃ h∈Q,p (rx h):=by
 constructor
 ·rintro ⟨a,ha,hp⟩;rcases Az.1 ha with ha | ha
  ·obtain ⟨h,hh,rfl⟩:=G9.1 ha;exact .inl ⟨h,hh,hp⟩
  ·obtain ⟨h,hh,rfl⟩:=G9.1 ha;exact .inr ⟨h,hh,hp⟩
 ·rintro (⟨h,hh,hp⟩ | ⟨h,hh,hp⟩)
  ·exact ⟨_,D4 _ (Kp hh),hp⟩
  ·exact ⟨_,Es _ (Kp hh),hp⟩
structure Gaps (t:Ab) (P Q:A7) (R:List RX):Prop where
 sep:R.Pairwise fun a b=>a.High < b.Low
 bd:∀ r∈R,0≤r.Low∧r.Low≤r.High∧r.High≤t.length
 mrk:∀ k:Int,(mkB P k || mkB Q k)=true↔∃ r∈R,r.Low≤k∧k≤r.High
 cv:∀ r∈R,∀ k:Int,r.Low≤k→k < r.High→(cvB P k || cvB Q k)=true
 en:∀ r∈R,(cvB P r.High || cvB Q r.High)=false
 inP:∀ r∈R,∀ h∈P,inB r h=true∨h.At+h.Old.length < r.Low∨r.High < h.At
 inQ:∀ r∈R,∀ h∈Q,inB r h=true∨h.At+h.Old.length < r.Low∨r.High < h.At
theorem sep_two {R:List RX} (h:R.Pairwise fun a b=>a.High < b.Low) {a b:RX} (ha:a∈R) (hb:b∈R):a=b∨a.High < b.Low∨b.High < a.Low:=by
 obtain ⟨i,hi,rfl⟩:=Ci ha;obtain ⟨j,hj,rfl⟩:=Ci hb;rw [B0] at h;rcases Ou i j with h1 | h1 | h1
 ·exact .inr (.inl (h i j hi hj h1))
 ·subst h1;exact .inl rfl
 ·exact .inr (.inr (h j i hj hi h1))
theorem gaps {t:Ab} (ht:t.length≤120) {P Q:A7} (hP:Side t P) (hQ:Side t Q):Gaps t P Q (regF P Q):=by
 have ok:=regF_ok ht hP hQ;obtain ⟨cP,cQ⟩:=reg_cov ht hP hQ;have hcv:=reg_cvd (t:=t) (P:=P) (Q:=Q)
 have hin:∀ {S:A7},(∀ h∈S,∃ r∈regF P Q,r.Low≤h.At∧h.At+h.Old.length≤r.High)→∀ r∈regF P Q,∀ h∈S,inB r h=true∨h.At+h.Old.length < r.Low∨r.High < h.At:=by
  intro S hS r hr h hh;obtain ⟨q,hq,q1,q2⟩:=hS h hh;rcases sep_two ok.sep hr hq with rfl | h3 | h3
  ·left;unfold inB;rw [Ag q1,Ag q2];rfl
  ·right;right;omega
  ·right;left;omega
 refine ⟨ok.sep,ok.bd,fun k=>?_,fun r hr k h1 h2=>?_,fun r hr=>?_,hin cP,hin cQ⟩
 ·rw [Gd,mkB_iff,mkB_iff];constructor
  ·rintro (⟨h,hh,h1,h2⟩ | ⟨h,hh,h1,h2⟩)
   ·obtain ⟨r,hr,q1,q2⟩:=cP h hh;exact ⟨r,hr,by omega,by omega⟩
   ·obtain ⟨r,hr,q1,q2⟩:=cQ h hh;exact ⟨r,hr,by omega,by omega⟩
  ·rintro ⟨r,hr,h1,h2⟩;obtain ⟨a,ha,q1,q2,_⟩:=hcv r hr k h1 h2;rcases (both_iff (p:=fun a=>a.Low≤k∧k≤a.High)).1 ⟨a,ha,q1,q2⟩ with ⟨h,hh,h3⟩ | ⟨h,hh,h3⟩
   ·exact .inl ⟨h,hh,h3⟩
   ·exact .inr ⟨h,hh,h3⟩
 ·obtain ⟨a,ha,q1,q2,q3⟩:=hcv r hr k h1 (by omega)
  rw [Gd,cvB_iff,cvB_iff];rcases (both_iff (p:=fun a=>a.Low≤k∧k < a.High)).1 ⟨a,ha,q1,q3 h2⟩ with ⟨h,hh,h3⟩ | ⟨h,hh,h3⟩
  ·exact .inl ⟨h,hh,h3⟩
  ·exact .inr ⟨h,hh,h3⟩
 ·have hno:∀ {S:A7},(∀ r∈regF P Q,∀ h∈S,inB r h=true∨h.At+h.Old.length < r.Low∨r.High < h.At)→cvB S r.High=false:=by
   intro S hS;refine cvB_no fun x hx=>?_;have hb:=ok.bd r hr;rcases hS r hr x hx with h | h | h
   ·unfold inB at h;simp only [Cv,Bs] at h;exact .inr h.2
   ·right;omega
   ·left;exact h
  rw [hno (hin cP),hno (hin cQ)];rfl
theorem var_reg {t:Ab} (ht:t.length≤120) {P:A7} (hP:Side t P) {r:RX} (hb:0≤r.Low∧r.Low≤r.High∧r.High≤t.length) (hi:∀ h∈P,inB r h=true∨h.At+h.Old.length < r.Low∨r.High < h.At) :
  A1 t ⟨P⟩ r.Low r.High=some (AA t P r,!decide (wi P r=[])):=by
 obtain ⟨lo,hlo⟩:∃ n:Nat,r.Low=(n:Int):=⟨r.Low.toNat,by omega⟩
 obtain ⟨hi',hhi⟩:∃ n:Nat,r.High=(n:Int):=⟨r.High.toNat,by omega⟩
 obtain ⟨b,e,hbb⟩:=variant_f ht hP (lo:=lo) (hi:=hi') (by omega) (by omega)
 rw [hlo,hhi,e]
 have hin:∀ h:Hunk,inB r h=true↔(lo:Int)≤h.At∧h.At+h.Old.length≤(hi':Int):=by
  intro h;unfold inB;simp only [Cv,Bs,hlo,hhi]
 have hmem:∀ h∈P,(lo:Int)≤h.At→h.At≤(hi':Int)→inB r h=true:=by
  intro h hh h1 h2;rcases hi h hh with h3 | h3 | h3
  ·exact h3
  ·omega
  ·omega
 have hbe:b = !decide (wi P r=[]):=by
  rw [Kr,hbb];simp only [Bool.not_eq_true',Ep];constructor
  ·rintro ⟨h,hh,h1,h2⟩ hw;have:h∈wi P r:=Gt.2 ⟨hh,hmem h hh h1 h2⟩;rw [hw] at this;cases this
  ·intro hw;cases hwc:wi P r with
   | nil=>exact absurd hwc hw
   | cons h l =>
    have:h∈wi P r:=by rw [hwc];exact Ce
    obtain ⟨h1,h2⟩:=Gt.1 this;have:=(hin h).1 h2;exact ⟨h,h1,this.1,by omega⟩
 have hvt:vT t (nwL P) (cvB P) lo (hi' - lo)=vT t (nwL (wi P r)) (cvB (wi P r)) lo (hi' - lo):=by
  refine vT_ext _ _ (fun j h1 h2=>?_) fun j h1 h2=>?_
  ·unfold nwL wi;rw [List.filter_filter];congr 1;refine List.filter_congr fun h hh=>?_;by_cases h3:h.At=(j:Int)
   ·rw [Ag h3,hmem h hh (by omega) (by omega)];rfl
   ·rw [Af h3];rfl
  ·rw [Kr,cvB_iff,cvB_iff];constructor
   ·rintro ⟨h,hh,h3,h4⟩;refine ⟨h,Gt.2 ⟨hh,?_⟩,h3,h4⟩;rcases hi h hh with h5 | h5 | h5
    ·exact h5
    ·omega
    ·omega
   ·rintro ⟨h,hh,h3,h4⟩;exact ⟨h,(Gt.1 hh).1,h3,h4⟩
 have hraw:=vT_raw (t:=t) (wi P r) (-1) lo (hi' - lo) (chn_filter hP.chn) (fun h hh=>((hin h).1 (Gt.1 hh).2).1) (fun h hh=>by have:=((hin h).1 (Gt.1 hh).2).2;omega)
 rw [hvt,hraw,hbe];unfold AA;rw [show r.Low.toNat=lo by omega,show r.High.toNat=hi' by omega,show lo+(hi' - lo)=hi' by omega]
theorem rm_high {t:Ab} (ht:t.length≤120) {P Q:A7} (hP:Side t P) (hQ:Side t Q) {hi:Nat} (hh:hi≤t.length) (hen:(cvB P (hi:Int) || cvB Q (hi:Int))=false):∀ (n k:Nat),k+n=hi→(∀ j:Nat,k≤j→j < hi→(cvB P (j:Int) || cvB Q (j:Int))=true) →
  C7 (fun s=>Ax.l2 t ⟨P⟩ ⟨Q⟩ s) (k:Int)=some (hi:Int):=by
 intro n
 induction n with
 | zero =>
  intro k hk _;have hk:k=hi:=by omega
  subst hk;refine Bm ?_;unfold Ax.l2;by_cases h:k < t.length
  ·rw [Al,Ad (by omega),covers_f ht hP hQ,Aa,hen,Aa,Ac Ae]
  ·rw [Al,Ac (by omega),Aa,Ac Ae]
 | succ n ih =>
  intro k hk h
  have e:Ax.l2 t ⟨P⟩ ⟨Q⟩ (k:Int)=some (.next ((k+1:Nat):Int)):=by
   unfold Ax.l2;rw [Al,Ad (by omega),covers_f ht hP hQ,Aa,h k (B7 _) (by omega),Aa,Ad rfl,Br (by omega) (by omega),Aa];rfl
  rw [Bz e];exact ih (k+1) (by omega) fun j h1 h2=>h j (by omega) h2
def RmP (x:Ab) (out:Bo) (y:Option Ab) (r:Ab×Bo):Prop :=
 if U0 out=true then U0 r.2=true else match y with
 | some y=>r.2=[]∧r.1=x++y
 | Option.none=>U0 r.2=true
theorem rm_loop {t:Ab} (ht:t.length≤120) {P Q:A7} (hP:Side t P) (hQ:Side t Q) {R:List RX} (hg:Gaps t P Q R) {z:List Int} (hz:Mks t.length z fun k=>mkB P k || mkB Q k) :
  ∀ (n k at_:Nat) (Rs pre:List RX) (x calm:Ab) (out:Bo),t.length+1 - k≤n→R=pre++Rs→(∀ r∈pre,r.High < (k:Int))→(∀ r∈Rs,(k:Int)≤r.Low)→at_≤k→at_≤t.length→k≤t.length+1 →
   (U0 out=false→out=[]∧calm=x++(t.drop at_).take (k - at_))→calm.length≤k * 90000→Csm (2 * k) (k * 90000) out →
   ∃ r,C7 (fun s=>Ax.l1 t ⟨P⟩ ⟨Q⟩ z s.1 s.2.1 s.2.2) ((k:Int),calm,out)=some r∧RmP x out (cmT t P Q Rs at_) r∧r.1.length≤20000000∧Csm 300 20000000 r.2:=by
 intro n
 induction n with
 | zero =>
  intro k at_ Rs pre x calm out hn hR hpre hRs hak hat hk hcal hcl hcs;have hk1:k=t.length+1:=by omega
  have:Rs=[]:=by
   cases Rs with
   | nil=>rfl
   | cons r Rs =>
    have h1:=hg.bd r (by rw [hR];simp)
    have h2:=hRs r Ce;omega
  subst this;have h9:k * 90000≤121 * 90000:=Aq _ (by omega)
  refine ⟨(calm,out),Bm ?_,?_,by simp only;omega,Csm.le hcs (by omega) (by omega)⟩
  ·unfold Ax.l1;simp only;rw [Al,Ac (by omega)]
  ·unfold RmP;cases hc:U0 out
   ·rw [Ac Ae,cmT];obtain ⟨h1,h2⟩:=hcal hc;refine ⟨h1,?_⟩;simp only;rw [h2,Cn (by simp;omega)]
   ·rw [Ad rfl]
 | succ n ih =>
  intro k at_ Rs pre x calm out hn hR hpre hRs hak hat hk hcal hcl hcs;by_cases hkt:k=t.length+1
  ·have:Rs=[]:=by
    cases Rs with
    | nil=>rfl
    | cons r Rs =>
     have h1:=hg.bd r (by rw [hR];simp)
     have h2:=hRs r Ce;omega
   subst this;have h9:k * 90000≤121 * 90000:=Aq _ (by omega)
   refine ⟨(calm,out),Bm ?_,?_,by simp only;omega,Csm.le hcs (by omega) (by omega)⟩
   ·unfold Ax.l1;simp only;rw [Al,Ac (by omega)]
   ·unfold RmP;cases hc:U0 out
    ·rw [Ac Ae,cmT];obtain ⟨h1,h2⟩:=hcal hc;refine ⟨h1,?_⟩;simp only;rw [h2,Cn (by simp;omega)]
    ·rw [Ad rfl]
  have hkl:k≤t.length:=by omega
  have h9:k * 90000≤120 * 90000:=Aq _ (by omega)
  have hzk:=hz.at_ k (by rw [hz.len];omega)
  have hcs1:=hcs.len
  have h3:∀ (m:Nat) (w:Ab) (o:Bo),m≤130→Ax.j3 w (m:Int) o=some (.next (((m+1:Nat):Int),w,o)):=by
   intro m w o hm;unfold Ax.j3;rw [Br (by omega) (by omega),Aa];rfl
  by_cases hmk:(mkB P (k:Int) || mkB Q (k:Int))=true
  ·rw [Ad hmk] at hzk;obtain ⟨r0,hr0,g1,g2⟩:=(hg.mrk k).1 hmk
   have hr0s:r0∈Rs:=by
    rw [hR] at hr0;rcases Az.1 hr0 with h | h
    ·have:=hpre r0 h;omega
    ·exact h
   obtain ⟨r,rest,rfl⟩:∃ r rest,Rs=r::rest:=by
    cases Rs with
    | nil=>cases hr0s
    | cons r rest=>exact ⟨r,rest,rfl⟩
   have hsep:=hg.sep;rw [hR,Gy,D9] at hsep
   have hrk:r.Low=(k:Int):=by
    have h1:=hRs r Ce;rcases Bf.1 hr0s with rfl | h
    ·omega
    ·have:=hsep.2.1.1 r0 h;have h2:=hg.bd r (by rw [hR];simp)
     omega
   have hrR:r∈R:=by rw [hR];simp
   have hb:=hg.bd r hrR;obtain ⟨hi,hhi⟩:∃ n:Nat,r.High=(n:Int):=⟨r.High.toNat,by omega⟩
   have hkh:k≤hi:=by omega
   have hht:hi≤t.length:=by omega
   have e2:=rm_high ht hP hQ (hi:=hi) hht (by have:=hg.en r hrR;rw [hhi] at this;exact this) (hi - k) k (by omega) fun j h1 h2=>hg.cv r hrR j (by omega) (by omega)
   have vP:=var_reg ht hP hb (hg.inP r hrR);have vQ:=var_reg ht hQ hb (hg.inQ r hrR);rw [hrk,hhi] at vP vQ;have lA:=AA_len ht hP r;have lB:=AA_len ht hQ r
   have hj6:∀ (w:Ab) (o:Bo),w.length≤20000000→Ax.j6 t (hi:Int) w o=some (.next (((hi+1:Nat):Int),w++(t.drop hi).take 1,o)):=by
    intro w o hw;unfold Ax.j6;by_cases h:hi < t.length
    ·rw [Al,Ad (by omega),Bg h,Aa,Dp (by rw [Ak];omega),Aa,h3 _ _ _ (by omega),Cq h,List.take_succ_cons,G6]
    ·rw [Al,Ac (by omega),h3 _ _ _ (by omega),Lu (by omega),List.take_nil,Bh]
   have hbase:((t.take hi).drop k).length≤120:=by simp;omega
   have e1:Ax.l1 t ⟨P⟩ ⟨Q⟩ z (k:Int) calm out=if wi Q r=[]∨AA t P r=AA t Q r then some (.next (((hi+1:Nat):Int),calm++AA t P r++(t.drop hi).take 1,out))
     else if wi P r=[] then some (.next (((hi+1:Nat):Int),calm++AA t Q r++(t.drop hi).take 1,out))
     else some (.next (((hi+1:Nat):Int),[]++(t.drop hi).take 1,(if calm=[] then out else out++[Qf calm])++[⟨true,[],(t.take hi).drop k,AA t P r,AA t Q r⟩])):=by
    unfold Ax.l1;rw [Al,Ad (by omega),Bg (by rw [hz.len];omega),Aa,hzk,Al,Ac (by omega),e2,Aa]
    unfold Ax.j5;rw [vP,Aa,vQ,Aa];simp only;rw [requal_f _ _ (by omega),Aa]
    have ec:(if (!!decide (wi Q r=[]))=true then some true else some (decide (AA t P r=AA t Q r)))=some (decide (wi Q r=[]∨AA t P r=AA t Q r)):=by
     by_cases h:wi Q r=[] <;> simp [h]
    rw [ec,Aa,Al];by_cases c1:wi Q r=[]∨AA t P r=AA t Q r
    ·rw [Ad c1,Ad c1,Dp (by omega),Aa,hj6 _ _ (by rw [Aj];omega)]
    ·rw [Ac c1,Ac c1,Bool.not_not,Al];by_cases c2:wi P r=[]
     ·rw [Ad c2,Ad c2,Dp (by omega),Aa,hj6 _ _ (by rw [Aj];omega)]
     ·rw [Ac c2,Ac c2,Al]
      have hj7:∀ (w:Ab) (o:Bo),w.length≤20000000→o.length≤1000→Ax.j7 t (k:Int) (hi:Int) (AA t P r,!decide (wi P r=[])) (AA t Q r,!decide (wi Q r=[])) w o=some (.next (((hi+1:Nat):Int),w++(t.drop hi).take 1,o++[⟨true,[],(t.take hi).drop k,AA t P r,AA t Q r⟩])):=by
       intro w o hw ho;unfold Ax.j7;rw [Tr (by omega) (by omega) (by omega),Aa,Ay,Ay,Dp (by rw [Ak];omega),Aa,hj6 _ _ hw]
      by_cases c3:calm=[]
      ·subst c3;rw [Ac (by simp),Ad rfl,hj7 _ _ (by simp) (by omega)]
      ·have:0 < calm.length:=K7.2 c3;rw [Ad (by omega),Ac c3,Dp (by rw [Ak];omega),Aa,hj7 _ _ (by simp) (by rw [Aj,Ak];omega)]
       rfl
   have hR':R=(pre++[r])++rest:=by rw [hR];simp
   have hpre':∀ q∈pre++[r],q.High < ((hi+1:Nat):Int):=by
    intro q hq;rcases Az.1 hq with h | h
    ·have:=hpre q h;omega
    ·rw [A2] at h;subst h;omega
   have hRs':∀ q∈rest,((hi+1:Nat):Int)≤q.Low:=fun q hq=>by
    have:=hsep.2.1.1 q hq;omega
   have hHi:r.High.toNat=hi:=by omega
   have hLo:r.Low.toNat=k:=by omega
   have htk:((t.drop hi).take 1).length≤1:=by rw [Bl];omega
   have hkh9:k * 90000≤hi * 90000:=Aq _ hkh
   have next:∀ (x' calm':Ab) (out':Bo) (Y:Option Ab),Ax.l1 t ⟨P⟩ ⟨Q⟩ z (k:Int) calm out=some (.next (((hi+1:Nat):Int),calm',out')) →
     (U0 out'=false→out'=[]∧calm'=x'++(t.drop hi).take (hi+1 - hi))→calm'.length≤(hi+1) * 90000→Csm (2 * (hi+1)) ((hi+1) * 90000) out' →
     (∀ r,RmP x' out' (cmT t P Q rest hi) r→RmP x out Y r)→∃ r,C7 (fun s=>Ax.l1 t ⟨P⟩ ⟨Q⟩ z s.1 s.2.1 s.2.2) ((k:Int),calm,out)=some r∧RmP x out Y r∧r.1.length≤20000000∧Csm 300 20000000 r.2:=by
    intro x' calm' out' Y h1 h2 h4 h5 h6;obtain ⟨q,q1,q2,q3,q4⟩:=ih (hi+1) hi rest (pre++[r]) x' calm' out' (by omega) hR' hpre' hRs' (by omega) hht (by omega) h2 h4 h5
    exact ⟨q,by rw [Bz (m:=fun s:Int×Ab×Bo=>Ax.l1 t ⟨P⟩ ⟨Q⟩ z s.1 s.2.1 s.2.2) h1];exact q1,h6 q q2,q3,q4⟩
   have hk90:k * 90000≤(hi+1) * 90000:=Aq _ (by omega)
   have hcsm':Csm (2 * (hi+1)) ((hi+1) * 90000) out:=Csm.le hcs (by omega) hk90
   rw [cmT,hHi,hLo];by_cases c1:wi Q r=[]∨AA t P r=AA t Q r
   ·rw [Ad c1] at e1 ⊢;refine next (x++(t.drop at_).take (k - at_)++AA t P r) _ _ _ e1 (fun h=>?_) ?_ hcsm' ?_
    ·obtain ⟨h1,h2⟩:=hcal h;exact ⟨h1,by rw [h2,show hi+1 - hi=1 by omega]⟩
    ·simp only [Aj];omega
    ·intro q hq;unfold RmP at hq ⊢;split
     ·rename_i hc;rw [Ad hc] at hq;exact hq
     ·rename_i hc;rw [Ac hc] at hq
      cases hy:cmT t P Q rest hi with
      | none=>rw [hy] at hq;exact hq
      | some y=>rw [hy] at hq;simp only [N7] at hq ⊢;exact ⟨hq.1,by rw [hq.2];simp⟩
   ·rw [Ac c1] at e1 ⊢;by_cases c2:wi P r=[]
    ·rw [Ad c2] at e1 ⊢;refine next (x++(t.drop at_).take (k - at_)++AA t Q r) _ _ _ e1 (fun h=>?_) ?_ hcsm' ?_
     ·obtain ⟨h1,h2⟩:=hcal h;exact ⟨h1,by rw [h2,show hi+1 - hi=1 by omega]⟩
     ·simp only [Aj];omega
     ·intro q hq;unfold RmP at hq ⊢;split
      ·rename_i hc;rw [Ad hc] at hq;exact hq
      ·rename_i hc;rw [Ac hc] at hq
       cases hy:cmT t P Q rest hi with
       | none=>rw [hy] at hq;exact hq
       | some y=>rw [hy] at hq;simp only [N7] at hq ⊢;exact ⟨hq.1,by rw [hq.2];simp⟩
    ·rw [Ac c2] at e1 ⊢
     have hhc:U0 ((if calm=[] then out else out++[Qf calm])++[⟨true,[],(t.take hi).drop k,AA t P r,AA t Q r⟩])=true:=by
      unfold U0;rw [Hh];simp
     refine next [] _ _ _ e1 (fun h=>?_) ?_ ⟨?_,fun c hc=>?_,fun c hc=>?_⟩ ?_
     ·rw [hhc] at h;cases h
     ·simp only [Aj,Ey];omega
     ·rw [Aj,Ak];split
      ·omega
      ·rw [Aj,Ak];omega
     ·rcases Az.1 hc with h | h
      ·split at h
       ·exact Bx (hcs.lin c h) hk90
       ·rcases Az.1 h with h | h
        ·exact Bx (hcs.lin c h) hk90
        ·rw [A2] at h;subst h;exact Bx hcl hk90
      ·rw [A2] at h;subst h;simp
     ·rcases Az.1 hc with h | h
      ·split at h
       ·exact hcs.oth c h
       ·rcases Az.1 h with h | h
        ·exact hcs.oth c h
        ·rw [A2] at h;subst h;simp [Qf]
      ·rw [A2] at h;subst h;exact ⟨by simp only;omega,lA,lB⟩
     ·intro q hq;unfold RmP at hq ⊢;rw [Ad hhc] at hq;split
      ·exact hq
      ·exact hq
  ·rw [Ac hmk] at hzk
   have e1:Ax.l1 t ⟨P⟩ ⟨Q⟩ z (k:Int) calm out=some (.next (((k+1:Nat):Int),calm++(t.drop k).take 1,out)):=by
    unfold Ax.l1;rw [Al,Ad (by omega),Bg (by rw [hz.len];omega),Aa,hzk,Al,Ad rfl,Al]
    unfold Ax.j4;by_cases h:k < t.length
    ·rw [Ad (by omega),Bg h,Aa,Dp (by rw [Ak];omega),Aa,h3 _ _ _ (by omega),Cq h,List.take_succ_cons,G6]
    ·rw [Ac (by omega),h3 _ _ _ (by omega),Lu (by omega),List.take_nil,Bh]
   obtain ⟨q,q1,q2,q3,q4⟩:=ih (k+1) at_ Rs pre x (calm++(t.drop k).take 1) out (by omega) hR (fun r hr=>by have:=hpre r hr;omega) (fun r hr=>by
    have h1:=hRs r hr;have h2:¬ r.Low=(k:Int):=fun e=>hmk ((hg.mrk k).2 ⟨r,by rw [hR];exact Es _ hr,by omega,by have:=hg.bd r (by rw [hR];exact Es _ hr);omega⟩)
    omega) (by omega) hat (by omega) (fun h=>by
    obtain ⟨h1,h2⟩:=hcal h;refine ⟨h1,?_⟩;rw [h2,Am,show k+1 - at_=(k - at_)+1 by omega,U4,Gu,show at_+(k - at_)=k by omega]) (by rw [Aj,Bl];omega) (Csm.le hcs (by omega) (Aq _ (by omega)))
   exact ⟨q,by rw [Bz (m:=fun s:Int×Ab×Bo=>Ax.l1 t ⟨P⟩ ⟨Q⟩ z s.1 s.2.1 s.2.2) e1];exact q1,q2,q3,q4⟩
theorem RTwo_ok {a b:Ab} (ha:Kb a) (hb:Kb b):Hm a b=some ⟨0,0⟩:=by
 have h1:=(Hr a).1 ha;have h2:=(Hr b).1 hb;unfold Hm Hm.j1;rw [linesFault_f,Aa,Nz,h1];simp only [C3,E4,Aa];rw [h2];rfl
theorem RMerge_f {b l r:Ab} (hb:Kb b) (hl:Kb l) (hr:Kb r):∃ o,Ax b l r=some (o,⟨0,0⟩)∧Csm 301 20000000 o ∧
  ((∃ y,cmT b (H3 b l) (H3 b r) (regF (H3 b l) (H3 b r)) 0=some y∧o=nrm y∧∀ s∈y,Xp s)∨(cmT b (H3 b l) (H3 b r) (regF (H3 b l) (H3 b r)) 0=Option.none∧U0 o=true)):=by
 have ht:=hb.1;have hP:=Wm hb hl;have hQ:=Wm hb hr;have tr:=(Er r).1 ((Hr r).1 hr);have hg:=gaps ht hP hQ;obtain ⟨z,e1,hz⟩:=joined_f ht hP hQ;obtain ⟨⟨calm,out⟩,e2,h1,h2,h3⟩:=rm_loop ht hP hQ hg hz _ 0 0 (regF (H3 b l) (H3 b r)) [] [] [] [] (B7 _) rfl (by simp) (fun r hr=>(hg.bd r hr).1) (B7 _) (Cs _) (by omega) (fun _=>by simp) (by simp) ⟨by simp,by simp,by simp⟩
 have hline:=fun y=>cmT_line (t:=b) hb.2 hP hQ (regF (H3 b l) (H3 b r)) 0 y;unfold Ax;rw [RTwo_ok hb hl,Aa];simp only [C3,Ct];rw [Ac Ae,Nz,Aa,tr];simp only [C3,Ct];rw [Ac Ae,rscript_f (by have:=hb.1;omega) (by have:=hl.1;omega),Aa,rscript_f (by have:=hb.1;omega) (by have:=hr.1;omega),Aa,e1,Aa]
 rw [show ((0:Nat):Int)=0 from rfl] at e2;rw [e2,Aa];simp only at h2 h3;have hlen:=h3.len
 have hfin:Ax.j1 calm out=some (if calm=[] then out else out++[Qf calm],⟨0,0⟩):=by
  unfold Ax.j1 Ax.j2;rw [Al];by_cases hc:calm=[]
  ·subst hc;rw [Ac (by simp),Ad rfl]
  ·have:0 < calm.length:=K7.2 hc;rw [Ad (by omega),Ac hc,Dp (by rw [Ak];omega),Aa];rfl
 rw [hfin];refine ⟨_,rfl,?_,?_⟩
 ·by_cases hc:calm=[]
  ·rw [Ad hc];exact Csm.le h3 (by omega) (B7 _)
  ·rw [Ac hc];refine ⟨by rw [Aj,Ak];omega,fun c hh=>?_,fun c hh=>?_⟩
   ·rcases Az.1 hh with hh | hh
    ·exact h3.lin c hh
    ·rw [A2] at hh;subst hh;exact h2
   ·rcases Az.1 hh with hh | hh
    ·exact h3.oth c hh
    ·rw [A2] at hh;subst hh;simp [Qf]
 ·unfold RmP at h1;rw [show U0 []=false from rfl,Ac Ae] at h1;cases hy:cmT b (H3 b l) (H3 b r) (regF (H3 b l) (H3 b r)) 0 with
  | none =>
   rw [hy] at h1;simp only at h1;refine .inr ⟨rfl,?_⟩;split
   ·exact h1
   ·unfold U0 at *;rw [Hh,h1];rfl
  | some y =>
   rw [hy] at h1;simp only [A8] at h1;obtain ⟨rfl,rfl⟩:=h1;exact .inl ⟨_,rfl,rfl,hline _ hy⟩
end Go.Dc
set_option linter.unusedSimpArgs false
set_option linter.unusedVariables false
set_option maxRecDepth 4000
namespace Go.Dc
open Go
def WSrt (l:Ai):Prop:=l.Pairwise fun a b=>sLt b.Path a.Path=false
theorem ordG_inner {L m:Ai} {k:Nat} (hk:k < L.length) (hm:WSrt m) (hl:m.length≤1000):∀ (j:Nat) (gb:File),j≤m.length→(∀ i (hi:i < m.length),j≤i→sLt L[k].Path m[i].Path=true) →
  ∃ p gb',p≤m.length∧C7 (fun s=>A4.l2 L (k:Int) s.1 s.2) ((j:Int),Od m j gb)=some ((p:Int),Od m p gb')∧(∀ i (hi:i < m.length),p≤i→sLt L[k].Path m[i].Path=true)∧∀ i (hi:i < m.length),i < p→sLt L[k].Path m[i].Path=false:=by
 intro j
 induction j with
 | zero =>
  intro gb hj h;refine ⟨0,gb,Cs _,Bm ?_,h,fun i _ h=>by omega⟩
  show A4.l2 L (k:Int) ((0:Nat):Int) (Od m 0 gb)=_;unfold A4.l2;rw [Af (by omega),Ac Ae,Aa,Ac Ae]
 | succ j ih =>
  intro gb hjl h;have hz:ckK .i64 (((j+1:Nat):Int) - 1)=some (j:Int):=by rw [Br (by omega) (by omega)];congr 1;omega
  cases hlt:sLt L[k].Path m[j].Path
  ·refine ⟨j+1,gb,hjl,Bm ?_,h,fun i hi h2=>?_⟩
   ·show A4.l2 L (k:Int) ((j+1:Nat):Int) (Od m (j+1) gb)=_;unfold A4.l2;rw [Ag (by omega),Ad rfl,Bg hk,Aa,hz,Aa,Bg (by rw [Ub hjl];omega),Aa,hole_get hjl (by omega),hlt,Aa,Ac Ae]
   ·rcases Hf (Ng h2) with h3 | h3
    ·exact sLt_not_trans hlt (B0.1 hm i j hi (by omega) h3)
    ·subst h3;exact hlt
  ·have hstep:A4.l2 L (k:Int) ((j+1:Nat):Int) (Od m (j+1) gb)=some (Step.next ((j:Int),Od m j m[j])):=by
    unfold A4.l2
    rw [Ag (by omega),Ad rfl,Bg hk,Aa,hz,Aa,Bg (by rw [Ub hjl];omega),Aa,hole_get hjl (by omega),hlt,Aa,Ad rfl,Aa,
     Bg (by rw [Ub hjl];omega),Aa,hole_get hjl (by omega),Bg (by rw [Ub hjl];omega),Aa,Aa,Aa,Ay,hole_set hjl,hole_shift (by omega)]
   obtain ⟨p,gb',h1,h2,h3,h4⟩:=ih m[j] (by omega) fun i hi hji=>by
    rcases Hf hji with h5 | h5
    ·exact h i hi h5
    ·subst h5;exact hlt
   exact ⟨p,gb',h1,by rw [Bz (s':=((j:Int),Od m j m[j])) hstep];exact h2,h3,h4⟩
theorem ordG_step {L m:Ai} {k:Nat} (hk:k < L.length) (hL:L.length≤1000) (hm:WSrt m) (hl:m.length≤1000) :
  ∃ w,A4.l1 L (k:Int) m=some (Step.next (((k+1:Nat):Int),w))∧WSrt w∧w.Perm (m++[L[k]]):=by
 have e0:m++[L[k]]=Od m m.length L[k]:=by unfold Od;simp
 obtain ⟨p,gb',hp,e,h1,h2⟩:=ordG_inner hk hm hl m.length L[k] (B7 _) fun i hi h=>by omega
 refine ⟨Od m p L[k],?_,?_,?_⟩
 ·unfold A4.l1;rw [Ag (by omega),Ad rfl,Bg hk,Aa,Dp (by simp;omega),Aa]
  rw [e0,e,Aa];unfold A4.j3 A4.j2;rw [Bg hk,Aa,Bg (by rw [Ub hp];omega),Aa,Aa,Ay,hole_set hp,Br (by omega) (by omega),Aa]
  rfl
 ·unfold WSrt Od;rw [Am,Gy,List.singleton_append,D9];refine ⟨hm.sublist (List.take_sublist _ _),⟨fun b hb=>?_,hm.sublist (List.drop_sublist _ _)⟩,fun a ha b hb=>?_⟩
  ·obtain ⟨i,hi,rfl⟩:=Ci hb;rw [Cd] at hi;rw [D3];exact Qj (h1 _ (by omega) (by omega))
  ·obtain ⟨i,hi,rfl⟩:=Ci ha;rw [Bl] at hi;rw [Ew];rcases Bf.1 hb with rfl | hb
   ·exact h2 i (by omega) (by omega)
   ·obtain ⟨q,hq,rfl⟩:=Ci hb;rw [Cd] at hq;rw [D3];exact B0.1 hm i (p+q) (by omega) (by omega) (by omega)
 ·unfold Od
  have h3:(m.take p++[L[k]]++m.drop p).Perm (m.take p++(m.drop p++[L[k]])):=by
   rw [Am];exact Ee _ E5
  rw [← Am,Hj] at h3;exact h3
theorem Ordered_g {l:Ai} (hl:l.length≤900):∃ z,A4 l=some ⟨z⟩∧z.Perm l∧WSrt z:=by
 obtain ⟨z,e,h1,h2⟩:=La (f:=fun s=>A4.l1 l s.1 s.2) l.length (fun k m=>WSrt m∧m.Perm (l.take k)) (fun z=>z.Perm l∧WSrt z) (by
  rintro k m hk ⟨h1,h2⟩;have hlm:=h2.length_eq;rw [Bl] at hlm;obtain ⟨w,e,w1,w2⟩:=ordG_step hk (by omega) h1 (by omega)
  refine ⟨w,e,w1,w2.trans ?_⟩;rw [As hk];exact E2 _ h2) (by
  rintro m ⟨h1,h2⟩;rw [Bw] at h2;refine ⟨m,?_,h2,h1⟩;show A4.l1 l _ _=_;unfold A4.l1;rw [Af (by omega),Ac Ae]) [] ⟨O3,by simp⟩
 refine ⟨z,?_,h1,h2⟩;unfold A4;rw [e,Aa]
theorem wsrt_srt {l:Ai} (h:WSrt l) (hn:(l.map (·.Path)).Nodup):Mq l:=by
 unfold WSrt at h;unfold Mq;rw [B0] at h ⊢;intro i j hi hj hij;rcases sLt_not (h i j hi hj hij) with e | e
 ·have:=(B0.1 hn) i j (by simpa using hi) (by simpa using hj) hij
  rw [List.getElem_map,List.getElem_map] at this;exact absurd e.symm this
 ·exact e
theorem fa_lk {l:Ai} (h:TrOk l) (p:ByteArray):(B4 ⟨l⟩ p=some (-1)∧lk l p=Option.none)∨∃ k,∃ hk:k < l.length,B4 ⟨l⟩ p=some (k:Int)∧l[k].Path=p∧lk l p=some l[k].Lines:=by
 have hl:=h.len;rw [FileAt_f h.srt (by omega)]
 unfold lk;cases hh:Lb l p
 ·left;exact ⟨rfl,rfl⟩
 ·right;obtain ⟨hp,e⟩:=Ww h.srt hh;exact ⟨H9 l p,hp,rfl,e,by rw [Ad rfl,A3 hp];rfl⟩
theorem sameAt_f {a b:Ai} (ha:TrOk a) (hb:TrOk b) (p:ByteArray):K8 ⟨a⟩ ⟨b⟩ p=some (decide (lk a p=lk b p)):=by
 unfold K8;rcases fa_lk ha p with ⟨e1,l1⟩ | ⟨i,hi,e1,_,l1⟩
 ·rcases fa_lk hb p with ⟨e2,l2⟩ | ⟨j,hj,e2,_,l2⟩
  ·rw [e1,Aa,e2,Aa,l1,l2];rfl
  ·rw [e1,Aa,e2,Aa,l1,l2,Ad (by decide),Aa,Ad rfl,Ad (by decide),Aa,Af (by omega)]
   simp
 ·rcases fa_lk hb p with ⟨e2,l2⟩ | ⟨j,hj,e2,_,l2⟩
  ·rw [e1,Aa,e2,Aa,l1,l2,Al,Ac (by omega),Aa,Ad (by decide),Al,Ac (by omega),Aa]
   simp
  ·have:=ha.text_len (Ar hi);rw [e1,Aa,e2,Aa,l1,l2,Al,Ac (by omega),Aa,Af (by omega),Ac Ae]
   simp only;rw [Bg hi,Aa,Bg hj,Aa,requal_f _ _ (by omega),Aa]
   congr 1;exact Ch.2 ⟨fun h=>by rw [h],fun h=>Gg h⟩
def ccL (c:Chunk):Int:=if (B5 c.Lines).Code=0 then (if (B5 c.Base).Code=0 then (if (B5 c.Left).Code=0 then (B5 c.Right).Code else (B5 c.Left).Code) else (B5 c.Base).Code) else (B5 c.Lines).Code
def ccF (c:Chunk):Int:=if ccL c=0∧(c.Conflict≠decide (c.Lines=[])∨(c.Conflict=false∧(c.Base.length+c.Left.length+c.Right.length > 0))) then 5 else ccL c
theorem rcheck_step {o:Bo} {k:Nat} (hk:k < o.length) (hn:o.length≤100000) (h1:o[k].Base.length≤40000) (h2:o[k].Left.length≤40000) (h3:o[k].Right.length≤40000) :
  Bb.l1 o (k:Int)=if ccF o[k]=0 then some (.next ((k+1:Nat):Int)) else some (.done (.inl ⟨ccF o[k],k⟩)):=by
 have hj5:∀ x:Int,Bb.j5 (k:Int) x=if x=0 then some (.next ((k+1:Nat):Int)) else some (.done (.inl ⟨x,k⟩)):=by
  intro x;unfold Bb.j5 Bd;rw [Lm];by_cases h:x=0
  ·rw [Ad h,Ad h,Br (by omega) (by omega),Aa];rfl
  ·rw [Ac h,Ac h,Aa]
 have hj4:Bb.j4 (k:Int) o[k] (ccL o[k])=Bb.j5 (k:Int) (ccF o[k]):=by
  generalize o[k]=c at h1 h2 h3;unfold Bb.j4;rw [Al,Al];have hd:decide ((c.Lines.length:Int)=0)=decide (c.Lines=[]):=len0 _;rw [hd];unfold ccF;by_cases hz:ccL c=0
  ·rw [Ad hz,Aa,Br (by omega) (by omega),Aa,Br (by omega) (by omega),Aa,Ad hz,Aa]
   by_cases c1:c.Conflict=decide (c.Lines=[])
   ·rw [Ag c1,Ct,Ac Ae];cases hc:c.Conflict
    ·rw [Ad (show (!false)=true from rfl),Aa,Aa];rw [hc] at c1;by_cases c2:c.Base.length+c.Left.length+c.Right.length > 0
     ·rw [Ag (by omega),Ad rfl,Ad ⟨hz,.inr ⟨rfl,c2⟩⟩]
     ·rw [Af (by omega),Ac Ae,Ac (by rintro ⟨_,h | h⟩;exact h c1;exact c2 h.2)]
    ·rw [Ac (show ¬ (!true)=true by decide),Aa,Aa,Ac Ae]
     rw [hc] at c1;rw [Ac (by rintro ⟨_,h | h⟩;exact h c1;exact Bool.noConfusion h.1)]
   ·rw [Af c1,Bool.not_false,Ad rfl,Aa,Ad rfl,Ad ⟨hz,.inl c1⟩]
  ·rw [Ac hz,Aa,Ac Ae,Ac hz,Aa,Ac Ae,Aa,Aa,Ac Ae,Ac (fun h=>hz h.1)]
 rw [hj5] at hj4;unfold Bb.l1;rw [Al,Ad (by omega),Bg hk,Aa,Nz,Aa,Al]
 unfold ccL at hj4;by_cases a1:(B5 o[k].Lines).Code=0
 ·rw [Ad a1] at hj4 ⊢;rw [Nz,Aa];unfold Bb.j2;rw [Al];by_cases a2:(B5 o[k].Base).Code=0
  ·rw [Ad a2] at hj4 ⊢;rw [Nz,Aa];unfold Bb.j3;rw [Al];by_cases a3:(B5 o[k].Left).Code=0
   ·rw [Ad a3] at hj4 ⊢;rw [Nz,Aa,hj4]
   ·rw [Ac a3] at hj4 ⊢;exact hj4
  ·rw [Ac a2] at hj4 ⊢;unfold Bb.j3;rw [Al,Ac a2,hj4]
 ·rw [Ac a1] at hj4 ⊢;unfold Bb.j2 Bb.j3;rw [Al,Ac a1,Al,Ac a1,hj4]
theorem rcheck_tot {k B:Nat} {o:Bo} (h:Csm k B o) (hk:k≤100000):∃ f,Bb o=some f∧(o.length≤240→(∀ c∈o,ccF c=0)→f=⟨0,0⟩):=by
 have hlen:=h.len;unfold Bb;rw [Al];by_cases h240:o.length > 240
 ·rw [Ad (by omega)]
  unfold Bd;exact ⟨_,rfl,fun h=>by omega⟩
 rw [Ac (by omega)]
 rw [Xh o (fun i c=>if ccF c=0 then Option.none else some (⟨ccF c,((i:Nat):Int)⟩:Fault)) (fun i hi _=>by
  have:=h.oth _ (Ar hi);rw [rcheck_step hi (by omega) this.1 this.2.1 this.2.2]
  by_cases hc:ccF o[i]=0
  ·rw [Ad hc,Ad hc]
  ·rw [Ac hc,Ac hc]) (by
  unfold Bb.l1;rw [Al,Ac (by omega)]),Aa]
 cases hs:K1 (fun i c=>if ccF c=0 then Option.none else some (⟨ccF c,((i:Nat):Int)⟩:Fault)) 0 o with
 | none=>exact ⟨_,rfl,fun _ _=>rfl⟩
 | some f =>
  refine ⟨f,rfl,fun _ hz=>?_⟩;obtain ⟨j,hj,e⟩:=M1 hs;rw [Ad (hz _ (Ar hj))] at e;cases e
theorem conflicts_f {o:Bo} (h:o.length≤100000):∃ n:Nat,Cz o=some (n:Int)∧(0 < n↔U0 o=true):=by
 obtain ⟨r,e,n,rfl,hn⟩:=La (f:=fun s=>Cz.l1 o s.1 s.2) o.length (fun k s=>∃ n:Nat,s=(n:Int)∧n≤k∧(0 < n↔U0 (o.take k)=true)) (fun r=>∃ n:Nat,r=(n:Int)∧(0 < n↔U0 o=true)) (by
  rintro k s hk ⟨n,rfl,h1,h2⟩
  have hj:∀ w:Int,Cz.j2 (k:Int) w=some (.next (((k+1:Nat):Int),w)):=by
   intro w;unfold Cz.j2;rw [Br (by omega) (by omega),Aa];rfl
  have hh:U0 (o.take (k+1))=(U0 (o.take k) || o[k].Conflict):=by
   unfold U0;rw [As hk,Hh];simp
  unfold Cz.l1;simp only;rw [Al,Ad (by omega),Bg hk,Aa]
  cases hc:o[k].Conflict
  ·rw [Ac Ae,hj];refine ⟨_,rfl,n,rfl,by omega,?_⟩
   rw [hh,hc,N2];exact h2
  ·rw [Ad rfl,Br (by omega) (by omega),Aa,hj]
   refine ⟨_,rfl,n+1,rfl,by omega,?_⟩
   rw [hh,hc,V6]
   simp) (by
  rintro s ⟨n,rfl,h1,h2⟩;unfold Cz.l1;simp only;rw [Al,Ac (by omega)]
  rw [Bw] at h2;exact ⟨_,rfl,n,rfl,h2⟩) 0 ⟨0,rfl,B7 _,by simp [U0]⟩
 refine ⟨n,?_,hn⟩;unfold Cz;rw [e,Aa]
theorem ccF_lin {y:Ab} (h:Kb y) (h0:y≠[]):ccF (Qf y)=0:=by
 have h1:=(Er y).1 ((Hr y).1 h);have hn:(B5 []).Code=0:=by decide +kernel
 have h2:ccL (Qf y)=0:=by
  unfold ccL Qf;simp only;rw [Ad h1,Ad hn,Ad hn,hn]
 unfold ccF
 rw [h2,Ac (by
  unfold Qf;simp only;rw [Af h0]
  simp)]
theorem resolve_nrm {y:Ab} (hy:y.length≤20000000) {f:Fault} (hf:Bb (nrm y)=some f) (h0:f.Code=0):Be (nrm y) []=some (if y.length > 120 then ([],⟨10,-1⟩) else (y,⟨0,0⟩)):=by
 obtain ⟨n,e,hn⟩:=conflicts_f (o:=nrm y) (by unfold nrm;split <;> simp)
 have hc:U0 (nrm y)=false:=by unfold U0 nrm Qf;split <;> simp
 rw [hc] at hn
 have hn0:n=0:=by
  rcases Nat.eq_zero_or_pos n with h | h
  ·exact h
  ·have:=hn.1 h;cases this
 subst hn0
 have hj2:Be.j2 y=some (if y.length > 120 then ([],⟨10,-1⟩) else (y,⟨0,0⟩)):=by
  unfold Be.j2 Bd;rw [Al];by_cases h:y.length > 120
  ·rw [Ad (by omega),Ad h];rfl
  ·rw [Ac (by omega),Ac h]
 have hl2:Be.l2 [] 0=some (.done (.inr ())):=by
  unfold Be.l2;rw [Al,Ac (by simp)]
 unfold Be;rw [hf,Aa,h0];simp only [C3,Ct];rw [Ac Ae,e,Aa];simp only [Ey,C3,Ct];rw [Ac Ae,Bm (m:=fun s:Int=>Be.l2 [] s) hl2,Aa];simp only;unfold Be.j1 nrm;by_cases hy0:y=[]
 ·subst hy0;rw [Ad rfl];have e1:Be.l1 [] [] 0 0 []=some (.done []):=by unfold Be.l1;rw [Al,Ac (by simp)]
  rw [Bm (m:=fun s:Int×Int×Ab=>Be.l1 [] [] s.1 s.2.1 s.2.2) e1,Aa,hj2]
 ·rw [Ac hy0]
  have e1:Be.l1 [Qf y] [] 0 0 []=some (.next (1,0,y)):=by
   unfold Be.l1;rw [Al,Ad (by simp),show at? [Qf y] 0=some (Qf y) from rfl,Aa,Aa]
   unfold Qf;simp only;rw [Ad (show (!false)=true from rfl),Dp (by simp;omega),Aa]
   unfold Be.j3;rw [Br (by omega) (by omega),Aa];rfl
  have e2:Be.l1 [Qf y] [] 1 0 y=some (.done y):=by unfold Be.l1;rw [Al,Ac (by simp)]
  rw [Bz (m:=fun s:Int×Int×Ab=>Be.l1 [Qf y] [] s.1 s.2.1 s.2.2) e1,Bm (m:=fun s:Int×Int×Ab=>Be.l1 [Qf y] [] s.1 s.2.1 s.2.2) e2,Aa,hj2]
theorem tmT {b l r:Ab} (hb:Kb b) (hl:Kb l) (hr:Kb r):∃ y7,Ax b l r=some y7∧∃ s ok,Gw.j1 y7=some (s,ok)∧((clean3 b l r=some s∧ok=true)∨(clean3 b l r=Option.none∧ok=false)):=by
 obtain ⟨o,e,hsm,hc⟩:=RMerge_f hb hl hr;refine ⟨_,e,?_⟩;unfold Gw.j1;simp only [C3,Ct];rw [Ac Ae];obtain ⟨f,ef,hf⟩:=rcheck_tot hsm (by omega)
 obtain ⟨n,en,hn⟩:=conflicts_f (o:=o) (by have:=hsm.len;omega)
 unfold clean3;rcases hc with ⟨y,hy,rfl,hline⟩ | ⟨hy,hh⟩
 ·rw [hy];simp only;have hc0:U0 (nrm y)=false:=by unfold U0 nrm Qf;split <;> simp
  rw [hc0] at hn
  have hn0:n=0:=by
   rcases Nat.eq_zero_or_pos n with h | h
   ·exact h
   ·have:=hn.1 h;cases this
  subst hn0
  have hyl:y.length≤20000000:=by
   by_cases hy0:y=[]
   ·subst hy0;simp
   ·have:=hsm.lin (Qf y) (by unfold nrm;rw [Ac hy0];simp)
    exact this
  by_cases h0:f.Code=0
  ·have hres:=resolve_nrm hyl ef h0;unfold L3;rw [ef,Aa,h0];simp only [C3,Ct];rw [Ac Ae,en,Aa,Af (by omega),Ac Ae]
   by_cases h120:y.length≤120
   ·rw [Ac (by omega)] at hres
    rw [hres,Aa,Aa,Ad h120];exact ⟨y,true,rfl,.inl ⟨rfl,rfl⟩⟩
   ·rw [Ad (by omega)] at hres
    rw [hres,Aa,Aa,Ac h120];exact ⟨[],false,rfl,.inr ⟨rfl,rfl⟩⟩
  ·have h120:¬ y.length≤120:=fun h=>h0 (by
    rw [hf (by unfold nrm;split <;> simp) (fun c hc=>by
     unfold nrm at hc;by_cases hy0:y=[]
     ·rw [Ad hy0] at hc;cases hc
     ·rw [Ac hy0,A2] at hc;subst hc;exact ccF_lin ⟨h,hline⟩ hy0)])
   unfold L3;rw [ef,Aa,Af h0,Ad (show (!false)=true from rfl),Aa,Ac h120];exact ⟨[],false,rfl,.inr ⟨rfl,rfl⟩⟩
 ·rw [hy];simp only;unfold L3;rw [ef,Aa];by_cases h0:f.Code=0
  ·rw [h0];simp only [C3,Ct];have:=hn.2 hh;rw [Ac Ae,en,Aa,Ag (by omega),Ad rfl,Aa]
   exact ⟨_,_,rfl,.inr ⟨trivial,rfl⟩⟩
  ·rw [Af h0,Ad (show (!false)=true from rfl),Aa];exact ⟨_,_,rfl,.inr ⟨trivial,rfl⟩⟩
theorem textMerge_f {B L R:Ai} (hB:TrOk B) (hL:TrOk L) (hR:TrOk R) (p:ByteArray):∃ s ok,Gw ⟨B⟩ ⟨L⟩ ⟨R⟩ p=some (s,ok) ∧
  match lk B p,lk L p,lk R p with
  | some x,some y,some z=>(clean3 x y z=some s∧ok=true)∨(clean3 x y z=Option.none∧ok=false)
  | _,_,_=>ok=false:=by
 unfold Gw;rcases fa_lk hB p with ⟨e1,l1⟩ | ⟨i,hi,e1,_,l1⟩
 ·rw [e1,Aa,l1];obtain ⟨j,ej⟩:∃ j,B4 ⟨L⟩ p=some j:=by rcases fa_lk hL p with ⟨e,_⟩ | ⟨_,_,e,_⟩ <;> exact ⟨_,e⟩
  obtain ⟨k,ek⟩:∃ j,B4 ⟨R⟩ p=some j:=by rcases fa_lk hR p with ⟨e,_⟩ | ⟨_,_,e,_⟩ <;> exact ⟨_,e⟩
  rw [ej,Aa,ek,Aa,Ad (by decide),Aa,Ad rfl,Aa,Ad rfl]
  exact ⟨_,_,rfl,rfl⟩
 rw [e1,Aa,l1];rcases fa_lk hL p with ⟨e2,l2⟩ | ⟨j,hj,e2,_,l2⟩
 ·rw [e2,Aa,l2];obtain ⟨k,ek⟩:∃ j,B4 ⟨R⟩ p=some j:=by rcases fa_lk hR p with ⟨e,_⟩ | ⟨_,_,e,_⟩ <;> exact ⟨_,e⟩
  rw [ek,Aa,Al,Ac (by omega),Aa,Ad (by decide),Aa,Ad rfl]
  exact ⟨_,_,rfl,rfl⟩
 rw [e2,Aa,l2];rcases fa_lk hR p with ⟨e3,l3⟩ | ⟨k,hk,e3,_,l3⟩
 ·rw [e3,Aa,l3,Al,Ac (by omega),Aa,Af (by omega),Ac Ae,Aa,Ad (by decide)]
  exact ⟨_,_,rfl,rfl⟩
 rw [e3,Aa,l3,Al,Ac (by omega),Aa,Af (by omega),Ac Ae,Aa,Af (by omega),Ac Ae]
 simp only;rw [Bg hi,Aa,Bg hj,Aa,Bg hk,Aa];obtain ⟨y7,e7,s,ok,ej1,hc⟩:=tmT (hB.text _ (Ar hi)) (hL.text _ (Ar hj)) (hR.text _ (Ar hk));rw [e7,Aa,ej1];exact ⟨s,ok,rfl,hc⟩
def LastP (p:TreePatch) (path:ByteArray) (x:Int):Prop:=(x = -1∧∀ c∈p.Changes,Wr path c=false)∨∃ k,∃ h:k < p.Changes.length,x=(k:Int)∧Wr path p.Changes[k]=true∧∀ j (hj:j < p.Changes.length),k < j→Wr path p.Changes[j]=false
theorem LastP.uniq {p:TreePatch} {path:ByteArray} {x y:Int} (hx:LastP p path x) (hy:LastP p path y):x=y:=by
 rcases hx with ⟨rfl,h1⟩ | ⟨k,hk,rfl,h1,h2⟩
 ·rcases hy with ⟨rfl,h3⟩ | ⟨j,hj,rfl,h3,h4⟩
  ·rfl
  ·rw [h1 _ (Ar hj)] at h3;cases h3
 ·rcases hy with ⟨rfl,h3⟩ | ⟨j,hj,rfl,h3,h4⟩
  ·rw [h3 _ (Ar hk)] at h1;cases h1
  ·rcases Ou k j with h | h | h
   ·rw [h2 j hj h] at h3;cases h3
   ·rw [h]
   ·rw [h4 k hk h] at h1;cases h1
theorem last_g {p:TreePatch} (hp:∀ c∈p.Changes,OkCh c) (hl:p.Changes.length≤30) {path:ByteArray} (hs:path.size≤1000000):LastP p path (Yd p path):=by
 have key:∀ k,k≤p.Changes.length→(∀ j (h:j < p.Changes.length),k≤j→Wr path p.Changes[j]=false) →
   ∃ r,C7 (fun s=>Dk.l1 p path s) ((k:Int) - 1)=some r∧((r=.inr ()∧∀ c∈p.Changes,Wr path c=false)∨∃ j,∃ h:j < p.Changes.length,r=.inl (j:Int)∧Wr path p.Changes[j]=true∧∀ i (hi:i < p.Changes.length),j < i→Wr path p.Changes[i]=false):=by
  intro k
  induction k with
  | zero =>
   intro _ h;refine ⟨.inr (),Bm ?_,.inl ⟨rfl,fun c hc=>?_⟩⟩
   ·unfold Dk.l1;rw [Al,Ac (by omega)]
   ·obtain ⟨j,hj,rfl⟩:=Ci hc;exact h j hj (Cs _)
  | succ k ih =>
   intro hk h;have hlt:k < p.Changes.length:=by omega
   have e1:((k+1:Nat):Int) - 1=(k:Int):=by omega
   rw [e1]
   have hs1:Dk.l1 p path (k:Int)=if Wr path p.Changes[k]=true then some (.done (.inl (k:Int))) else some (.next ((k:Int) - 1)):=by
    unfold Dk.l1;rw [Al,Ad (by omega),Bg hlt,Aa,touches_f hs (hp _ (Ar hlt)).size,Aa]
    split
    ·rfl
    ·rw [Br (by omega) (by omega),Aa]
   by_cases ht:Wr path p.Changes[k]=true
   ·rw [Ad ht] at hs1;exact ⟨_,Bm hs1,.inr ⟨k,hlt,rfl,ht,fun i hi h2=>h i hi h2⟩⟩
   ·rw [Ac ht] at hs1;rw [Bz hs1];refine ih (by omega) fun j hj hkj=>?_
    rcases Hf hkj with h2 | h2
    ·exact h j hj h2
    ·subst h2;simpa using ht
 obtain ⟨r,e,hr⟩:=key p.Changes.length (B7 _) fun j hj h=>by omega
 have e0:∃ x,Dk p path=some x∧LastP p path x:=by
  unfold Dk;rw [Br (by omega) (by omega),Aa,e,Aa]
  rcases hr with ⟨rfl,h2⟩ | ⟨j,hj,rfl,h2⟩
  ·exact ⟨_,rfl,.inl ⟨rfl,h2⟩⟩
  ·exact ⟨_,rfl,.inr ⟨j,hj,rfl,h2⟩⟩
 obtain ⟨x,e1,h1⟩:=e0;have ex:Yd p path=x:=by unfold Yd;rw [e1];rfl
 rw [ex];exact h1
theorem Aa2 {p:TreePatch} (hp:∀ c∈p.Changes,OkCh c) (hl:p.Changes.length≤30) {path:ByteArray} (hs:path.size≤1000000):Co p path=some (Yd p path):=by
 obtain ⟨r,e,hr⟩:=La (f:=fun s=>Co.l1 p path s.1 s.2) p.Changes.length (fun k s=>(s = -1∧∀ j (hj:j < p.Changes.length),j < k→Wr path p.Changes[j]=false)∨∃ i,∃ h:i < p.Changes.length,i < k∧s=(i:Int)∧Wr path p.Changes[i]=true∧∀ j (hj:j < p.Changes.length),i < j→j < k→Wr path p.Changes[j]=false) (fun r=>LastP p path r) (by
  rintro k s hk hI
  have hj:∀ w:Int,Co.j2 (k:Int) w=some (.next (((k+1:Nat):Int),w)):=by
   intro w;unfold Co.j2;rw [Br (by omega) (by omega),Aa];rfl
  unfold Co.l1;simp only;rw [Al,Ad (by omega),Bg hk,Aa,Touches_f,Aa]
  cases ht:Wr path p.Changes[k]
  ·rw [Ac Ae,hj];refine ⟨_,rfl,?_⟩;rcases hI with ⟨rfl,h1⟩ | ⟨i,hi,hik,rfl,h1,h2⟩
   ·refine .inl ⟨rfl,fun j hj hjk=>?_⟩;rcases Hf (Ng hjk) with h3 | h3
    ·exact h1 j hj h3
    ·subst h3;exact ht
   ·refine .inr ⟨i,hi,by omega,rfl,h1,fun j hj hij hjk=>?_⟩
    rcases Hf (Ng hjk) with h3 | h3
    ·exact h2 j hj hij h3
    ·subst h3;exact ht
  ·rw [Ad rfl,hj];exact ⟨_,rfl,.inr ⟨k,hk,by omega,rfl,ht,fun j hj h3 h4=>by omega⟩⟩) (by
  rintro s hI;refine ⟨s,?_,?_⟩
  ·unfold Co.l1;simp only;rw [Al,Ac (by omega)]
  ·rcases hI with ⟨rfl,h1⟩ | ⟨i,hi,hik,rfl,h1,h2⟩
   ·refine .inl ⟨rfl,fun c hc=>?_⟩;obtain ⟨j,hj,rfl⟩:=Ci hc;exact h1 j hj hj
   ·exact .inr ⟨i,hi,rfl,h1,fun j hj h3=>h2 j hj h3 hj⟩) (-1) (.inl ⟨rfl,fun j hj h=>by omega⟩)
 unfold Co;rw [e,Aa,LastP.uniq (last_g hp hl hs) hr]
theorem ref_walk {B L R:Ai} (hB:TrOk B) (hL:TrOk L) (hR:TrOk R) {left right:TreePatch} (hcl:∀ c∈left.Changes,OkCh c) (hll:left.Changes.length≤30) (hcr:∀ c∈right.Changes,OkCh c) (hrl:right.Changes.length≤30) {fl fr:Fault}
  {z:Ai} (hz:WSrt z) (hp:z.Perm (B++L++R)) :
  C7 (fun s=>Ao.l3 ⟨B⟩ left right (⟨L⟩,fl) (⟨R⟩,fr) ⟨z⟩ s.1 s.2.1 s.2.2.1 s.2.2.2) (0,[],[],[])=some (O9 B L R,W8 B L R,tmFst B L R left right):=by
 have hzl:z.length≤72:=by
  have:=hp.length_eq;have h1:=hB.len;have h2:=hL.len;have h3:=hR.len;rw [Aj,Aj] at this;omega
 have hzs:∀ f∈z,f.Path.size≤60:=by
  intro f hf;have:=hp.mem_iff.1 hf;rw [Az,Az] at this;rcases this with (h | h) | h
  ·exact Mu (hB.path f h)
  ·exact Mu (hL.path f h)
  ·exact Mu (hR.path f h)
 have hfin:∀ K,SAsc K→(∀ p,p∈K↔∃ f∈z,f.Path=p)→K=tmK B L R:=by
  intro K h1 h2;refine sasc_uniq h1 (ksort_asc _) fun p=>?_;rw [h2,mem_K,Tg,Tg,Tg];constructor
  ·rintro ⟨f,hf,rfl⟩;have:=hp.mem_iff.1 hf;rw [Az,Az] at this;rcases this with (h | h) | h
   ·exact .inl ⟨f,h,rfl⟩
   ·exact .inr (.inl ⟨f,h,rfl⟩)
   ·exact .inr (.inr ⟨f,h,rfl⟩)
  ·rintro (⟨f,h,rfl⟩ | ⟨f,h,rfl⟩ | ⟨f,h,rfl⟩)
   ·exact ⟨f,hp.mem_iff.2 (by simp [h]),rfl⟩
   ·exact ⟨f,hp.mem_iff.2 (by simp [h]),rfl⟩
   ·exact ⟨f,hp.mem_iff.2 (by simp [h]),rfl⟩
 obtain ⟨r,e,rfl⟩:=La (f:=fun s=>Ao.l3 ⟨B⟩ left right (⟨L⟩,fl) (⟨R⟩,fr) ⟨z⟩ s.1 s.2.1 s.2.2.1 s.2.2.2) z.length
  (fun k s=>∃ K,SAsc K∧(∀ p,p∈K↔∃ f∈z.take k,f.Path=p)∧K.length≤k∧s=(K.filterMap (Vi B L R),K.filterMap (outO B L R),K.filterMap (fstO B L R left right)))
  (fun r=>r=(O9 B L R,W8 B L R,tmFst B L R left right)) (by
  rintro k s hk ⟨K,k1,k2,k3,rfl⟩;have hsz:=hzs _ (Ar hk);have lo:(K.filterMap (outO B L R)).length≤k:=Bx (Cj _ _) k3;have ll:(K.filterMap (Vi B L R)).length≤k:=Bx (Cj _ _) k3;have lf:(K.filterMap (fstO B L R left right)).length≤k:=Bx (Cj _ _) k3
  have hj6:∀ (a b:Ai) (c:Bq),Ao.j6 (k:Int) a b c=some (.next (((k+1:Nat):Int),a,b,c)):=by
   intro a b c;unfold Ao.j6;rw [Br (by omega) (by omega),Aa];rfl
  have hcond:∃ b:Bool,(if decide ((k:Int) > 0)=true then (ckK .i64 ((k:Int) - 1)).bind fun z4=>(at? z z4).bind fun y26=>some (decide (y26.Path=z[k].Path)) else some false)=some b∧(b=true↔z[k].Path∈K):=by
   by_cases h0:k=0
   ·subst h0;refine ⟨false,by rw [Al,Ac (by omega)],?_⟩
    simp only [A6,false_iff];intro h;obtain ⟨f,hf,_⟩:=(k2 _).1 h;cases hf
   ·have hk1:k - 1 < z.length:=by omega
    refine ⟨decide (z[k - 1].Path=z[k].Path),by rw [Al,Ad (by omega),Br (by omega) (by omega),Aa,show (k:Int) - 1=((k - 1:Nat):Int) by omega,Bg hk1,Aa],?_⟩
    rw [Bs];constructor
    ·intro e;exact (k2 _).2 ⟨z[k - 1],Hv.2 ⟨k - 1,by omega,rfl⟩,e⟩
    ·intro h;obtain ⟨f,hf,e⟩:=(k2 _).1 h;rw [Hv] at hf;obtain ⟨i,hi,rfl⟩:=hf;have h1:sLt z[k].Path z[k - 1].Path=false:=B0.1 hz (k - 1) k (by omega) hk (by omega)
     have h2:sLt z[k - 1].Path z[k].Path=false:=by
      rw [← e];rcases Hf (show i≤k - 1 by omega) with h3 | h3
      ·exact B0.1 hz i (k - 1) (by omega) (by omega) h3
      ·subst h3;exact Qz _
     rcases sLt_not h1 with h3 | h3
     ·exact h3.symm
     ·rw [h2] at h3;cases h3
  obtain ⟨bk,hcond,hbk⟩:=hcond
  have hc2:∀ y25:File,y25=z[k]→(if decide ((k:Int) > 0)=true then (ckK .i64 ((k:Int) - 1)).bind fun z4=>(at? z z4).bind fun y26=>some (decide (y26.Path=y25.Path)) else some false)=some bk:=by
   rintro _ rfl;exact hcond
  unfold Ao.l3;simp only;rw [Al,Ad (by omega),Bg hk,Aa,hc2 _ rfl,Aa]
  by_cases hin:z[k].Path∈K
  ·rw [Ad (hbk.2 hin),hj6];refine ⟨_,rfl,K,k1,fun p=>?_,by omega,rfl⟩
   rw [k2,As hk];constructor
   ·rintro ⟨f,hf,e⟩;exact ⟨f,D4 _ hf,e⟩
   ·rintro ⟨f,hf,e⟩;rcases Az.1 hf with hf | hf
    ·exact ⟨f,hf,e⟩
    ·rw [A2] at hf;subst hf;subst e;exact (k2 _).1 hin
  ·rw [Ac (fun h=>hin (hbk.1 h))];clear hbk hc2 hcond;generalize hpp:z[k].Path=p at hin hsz
   have hnext:∀ a b c,a=K.filterMap (Vi B L R)++(Vi B L R p).toList→b=K.filterMap (outO B L R)++(outO B L R p).toList→c=K.filterMap (fstO B L R left right)++(fstO B L R left right p).toList →
     ∃ s',some (Step.next (((k+1:Nat):Int),a,b,c))=some (Step.next (σ:=Int×Ai×Ai×Bq) (ρ:=Ai×Ai×Bq) (((k+1:Nat):Int),s'))∧∃ K,SAsc K∧(∀ q,q∈K↔∃ f∈z.take (k+1),f.Path=q)∧K.length≤k+1∧s'=(K.filterMap (Vi B L R),K.filterMap (outO B L R),K.filterMap (fstO B L R left right)):=by
    rintro a b c rfl rfl rfl;refine ⟨_,rfl,K++[p],?_,fun q=>?_,by rw [Aj,Ak];omega,by rw [fm_snoc,fm_snoc,fm_snoc]⟩
    ·unfold SAsc;rw [Gy];refine ⟨k1,Hs _ _,fun a ha b hb=>?_⟩;rw [A2] at hb;subst hb;obtain ⟨f,hf,rfl⟩:=(k2 a).1 ha;rw [Hv] at hf;obtain ⟨i,hi,rfl⟩:=hf;have h1:sLt z[k].Path z[i].Path=false:=B0.1 hz i k (by omega) hk (by omega)
     rw [hpp] at h1;rcases sLt_not h1 with h3 | h3
     ·rw [← h3] at ha;exact absurd ha hin
     ·exact h3
    ·rw [Az,A2,k2,As hk];constructor
     ·rintro (⟨f,hf,e⟩ | rfl)
      ·exact ⟨f,D4 _ hf,e⟩
      ·exact ⟨z[k],Es _ (A2.2 rfl),hpp⟩
     ·rintro ⟨f,hf,e⟩;rcases Az.1 hf with hf | hf
      ·exact .inl ⟨f,hf,e⟩
      ·rw [A2] at hf;subst hf;exact .inr (by rw [← e,hpp])
   have t1:=Aa2 hcl hll (path:=p) (by omega)
   have t2:=Aa2 hcr hrl (path:=p) (by omega)
   obtain ⟨s,ok,et,htm⟩:=textMerge_f hB hL hR p;simp only [sameAt_f hR hB,sameAt_f hL hR,sameAt_f hL hB,t1,t2,et,Aa]
   have ec:(if decide (lk R p=lk B p)=true then some true else some (decide (lk L p=lk R p)))=some (decide (lk R p=lk B p∨lk R p=lk L p)):=by
    by_cases h:lk R p=lk B p <;> simp [h,eq_comm]
   simp only [ec,Aa]
   have fin:∀ (X:OT) (f:Bool) (l:OT),lk L p=l→mgO (lk B p) l (lk R p)=(X,f)→∀ a b c,a=K.filterMap (Vi B L R)++(match X,l with | some v,Option.none=>some (⟨p,v⟩:File) | _,_=>Option.none).toList →
     b=K.filterMap (outO B L R)++(match X,l with | some v,some _=>some (⟨p,v⟩:File) | _,_=>Option.none).toList→c=K.filterMap (fstO B L R left right)++(if f=true then Option.none else some (⟨Yd left p,Yd right p⟩:Arr2_Int)).toList →
     ∃ s',some (Step.next (((k+1:Nat):Int),a,b,c))=some (Step.next (σ:=Int×Ai×Ai×Bq) (ρ:=Ai×Ai×Bq) (((k+1:Nat):Int),s'))∧∃ K,SAsc K∧(∀ q,q∈K↔∃ f∈z.take (k+1),f.Path=q)∧K.length≤k+1∧s'=(K.filterMap (Vi B L R),K.filterMap (outO B L R),K.filterMap (fstO B L R left right)):=by
    intro X f l hl hm a b c ha hb hc;subst hl;refine hnext a b c ?_ ?_ ?_
    ·rw [ha];unfold Vi vF;rw [hm]
     try (cases X <;> cases lk L p <;> rfl)
    ·rw [hb];unfold outO vF;rw [hm]
     try (cases X <;> cases lk L p <;> rfl)
    ·rw [hc];unfold fstO vF;rw [hm]
   clear hnext;rcases fa_lk hL p with ⟨e2,l2⟩ | ⟨j,hj,e2,hjp,l2⟩
   ·rw [e2,Aa];rcases fa_lk hR p with ⟨e3,l3⟩ | ⟨i,hi,e3,hip,l3⟩
    ·rw [e3,Aa,Ag (.inr (by rw [l2,l3])),Ad rfl,Al,Ac (by omega),hj6]
     exact fin Option.none true Option.none l2 (by unfold mgO;rw [Ad (.inr l3)]) _ _ _ (by simp) (by simp) (by simp)
    ·rw [e3,Aa];by_cases c1:lk R p=lk B p
     ·rw [Ag (.inl c1),Ad rfl,Al,Ac (by omega),hj6]
      exact fin Option.none true Option.none l2 (by unfold mgO;rw [Ad (.inl c1)]) _ _ _ (by simp) (by simp) (by simp)
     ·have c1':¬ (lk R p=lk B p∨lk R p=lk L p):=by
       rintro (h | h)
       ·exact c1 h
       ·rw [l3,l2] at h;cases h
      rw [Af c1',Ac Ae];rw [l2] at c1';by_cases c2:lk L p=lk B p
      ·rw [Ag c2,Ad rfl,Al,Ac (by omega),Aa,Ac Ae]
       unfold Ao.j7;rw [Ag (by omega),Ad rfl]
       simp only;rw [Bg hi,Aa,Dp (by rw [Ak];omega),Aa,hj6]
       exact fin (some R[i].Lines) true Option.none l2 (by unfold mgO;rw [Ac c1',Ad (by rw [← c2,l2]),l3]) _ _ _ (by simp [← hip]) (by simp) (by simp)
      ·rw [Af c2,Ac Ae];rw [l2] at c2 htm
       obtain ⟨x,hx⟩:∃ x,lk B p=some x:=by
        cases h:lk B p with
        | none=>exact absurd h.symm c2
        | some x=>exact ⟨x,rfl⟩
       rw [hx,l3] at htm;simp only at htm;subst htm;rw [Ac Ae,Dp (by rw [Ak];omega),Aa,Al,Ac (by omega),hj6]
       exact fin Option.none false Option.none l2 (by unfold mgO;rw [Ac c1',Ac c2,hx,l3]) _ _ _ (by simp) (by simp) (by simp)
   ·have hLf:L[j]=(⟨p,L[j].Lines⟩:File):=by rw [← hjp]
    rw [e2,Aa];obtain ⟨i3,e3⟩:∃ i,B4 ⟨R⟩ p=some i:=by rcases fa_lk hR p with ⟨e,_⟩ | ⟨_,_,e,_⟩ <;> exact ⟨_,e⟩
    by_cases c1:lk R p=lk B p∨lk R p=lk L p
    ·rw [e3,Aa,Ag c1,Ad rfl,Al,Ad (by omega),Bg hj,Aa,Dp (by rw [Ak];omega),Aa,hj6]
     rw [l2] at c1;exact fin (some L[j].Lines) true (some L[j].Lines) l2 (by unfold mgO;rw [Ad c1]) _ _ _ (by simp) (by simp only [Option.toList_some];rw [← hLf]) (by simp)
    ·simp only [Af c1,A6,Cg];rw [l2] at c1;by_cases c2:lk L p=lk B p
     ·simp only [Ag c2,E4];rw [l2] at c2;rcases fa_lk hR p with ⟨e3,l3⟩ | ⟨i,hi,e3,hip,l3⟩
      ·rw [e3,Aa,Al,Ad (by omega),Af (by omega),Aa,Ac Ae]
       unfold Ao.j7;rw [Af (by omega),Ac Ae,hj6]
       exact fin Option.none true (some L[j].Lines) l2 (by unfold mgO;rw [Ac c1,Ad c2,l3]) _ _ _ (by simp) (by simp) (by simp)
      ·rw [e3,Aa,Al,Ad (by omega),Ag (by omega),Aa,Ad rfl,Bg hi,Aa,Dp (by rw [Ak];omega),Aa]
       unfold Ao.j7;rw [Af (by omega),Ac Ae,hj6]
       exact fin (some R[i].Lines) true (some L[j].Lines) l2 (by unfold mgO;rw [Ac c1,Ad c2,l3]) _ _ _ (by simp) (by simp only [Option.toList_some];rw [show R[i]=(⟨p,R[i].Lines⟩:File) by rw [← hip]]) (by simp)
     ·rw [e3,Aa,Af c2,Ac Ae];rw [l2] at c2 htm
      have hbad:ok=false→mgO (lk B p) (some L[j].Lines) (lk R p)=(some L[j].Lines,false):=by
       intro hok;subst hok;unfold mgO;rw [Ac c1,Ac c2];cases hb:lk B p with
       | none=>rfl
       | some x =>
        cases hr:lk R p with
        | none=>rfl
        | some w =>
         rw [hb,hr] at htm;simp only at htm ⊢;rcases htm with ⟨_,h⟩ | ⟨h,_⟩
         ·cases h
         ·rw [h]
      cases ok
      ·rw [Ac Ae,Dp (by rw [Ak];omega),Aa,Al,Ad (by omega),Bg hj,Aa,Dp (by rw [Ak];omega),Aa,hj6]
       exact fin _ _ _ l2 (hbad rfl) _ _ _ (by simp) (by simp only [Option.toList_some];rw [← hLf]) (by simp)
      ·rw [Ad rfl,Dp (by rw [Ak];omega),Aa,hj6]
       have hgood:mgO (lk B p) (some L[j].Lines) (lk R p)=(some s,true):=by
        unfold mgO;rw [Ac c1,Ac c2];cases hb:lk B p with
        | none=>rw [hb] at htm;simp at htm
        | some x =>
         cases hr:lk R p with
         | none=>rw [hb,hr] at htm;simp at htm
         | some w =>
          rw [hb,hr] at htm;simp only at htm ⊢;rcases htm with ⟨h,_⟩ | ⟨_,h⟩
          ·rw [h]
          ·cases h
       exact fin _ _ _ l2 hgood _ _ _ (by simp) (by simp) (by simp)) (by
  rintro s ⟨K,k1,k2,k3,rfl⟩;rw [Bw] at k2;have:=hfin K k1 k2;subst this;unfold Ao.l3;simp only;rw [Al,Ac (by omega)]
  exact ⟨_,rfl,rfl⟩) ([],[],[]) ⟨[],O3,fun p=>by simp,by simp,rfl⟩
 exact e
theorem ref_block {R mine new:Ai} (hR:TrOk R) (hm:mine.length≤1000) {i:Nat} (hi:i < new.length) {fr:Fault} :
  C7 (fun s=>Ao.l2 (⟨R⟩,fr) new mine (i:Int) s.1 s.2) (0,false)=some (G0 (Xo R mine) new[i].Path):=by
 have hl:=hR.len
 obtain ⟨r,e,rfl⟩:=La (f:=fun s=>Ao.l2 (⟨R⟩,fr) new mine (i:Int) s.1 s.2) mine.length (fun k s=>s=G0 (Xo R (mine.take k)) new[i].Path) (fun r=>r=G0 (Xo R mine) new[i].Path) (by
  rintro k s hk rfl;refine ⟨_,?_,rfl⟩
  have e1:G0 (Xo R (mine.take (k+1))) new[i].Path=(G0 (Xo R (mine.take k)) new[i].Path || (!Lb R mine[k].Path && Oc mine[k].Path new[i].Path)):=by
   unfold G0 Xo;rw [As hk,M0,Hh];congr 1;cases h:Lb R mine[k].Path <;> simp [h]
  unfold Ao.l2;simp only;rw [Al,Ad (by omega),e1]
  have hfa:∃ a:Int,B4 ⟨R⟩ mine[k].Path=some a∧decide (a < 0) = !Lb R mine[k].Path:=by
   rw [FileAt_f hR.srt (by omega)]
   cases Lb R mine[k].Path
   ·exact ⟨_,rfl,by rw [Ac Ae];rfl⟩
   ·exact ⟨_,rfl,by rw [Ad rfl,Af (by omega)];rfl⟩
  obtain ⟨a,ea,ha⟩:=hfa;rw [Bg hk,Aa,ea,Aa,Bg hi,Aa,Aa,Z2,Aa,ha];have hz:ckK .i64 ((k:Int)+1)=some ((k+1:Nat):Int):=by rw [Br (by omega) (by omega)];rfl
  cases G0 (Xo R (mine.take k)) new[i].Path
  ·cases Lb R mine[k].Path
   ·simp [hz]
   ·simp [hz]
  ·simp [hz]) (by
  rintro s rfl;unfold Ao.l2;simp only;rw [Al,Ac (by omega),Bw]
  exact ⟨_,rfl,rfl⟩) false rfl
 exact e
theorem ref_late {R mine new:Ai} (hR:TrOk R) (hm:mine.length≤1000) (hn:new.length≤1000) (hsz:∀ f∈new,f.Path.size≤60) {left right:TreePatch} (hcl:∀ c∈left.Changes,OkCh c) (hll:left.Changes.length≤30) (hcr:∀ c∈right.Changes,OkCh c) (hrl:right.Changes.length≤30) {fr:Fault}
  {bad:Bq} (hb:bad.length≤1000) :
  C7 (fun s=>Ao.l1 left right (⟨R⟩,fr) new mine s.1 s.2.1 s.2.2) (0,mine,bad)=some (mine++new.filter (fun x=>!G0 (Xo R mine) x.Path),bad++new.filterMap (secO left right (Xo R mine))):=by
 obtain ⟨r,e,rfl⟩:=La (f:=fun s=>Ao.l1 left right (⟨R⟩,fr) new mine s.1 s.2.1 s.2.2) new.length
  (fun k s=>s=(mine++(new.take k).filter (fun x=>!G0 (Xo R mine) x.Path),bad++(new.take k).filterMap (secO left right (Xo R mine))))
  (fun r=>r=(mine++new.filter (fun x=>!G0 (Xo R mine) x.Path),bad++new.filterMap (secO left right (Xo R mine)))) (by
  rintro k s hk rfl;have h1:((new.take k).filter (fun x=>!G0 (Xo R mine) x.Path)).length≤k:=Bx (Ks _ _) (by rw [Bl];omega)
  have h2:((new.take k).filterMap (secO left right (Xo R mine))).length≤k:=Bx (Cj _ _) (by rw [Bl];omega)
  have hs:=hsz _ (Ar hk);have t1:=Aa2 hcl hll (path:=new[k].Path) (by omega)
  have t2:=Aa2 hcr hrl (path:=new[k].Path) (by omega)
  have hj4:∀ a b,Ao.j4 (k:Int) a b=some (.next (((k+1:Nat):Int),b,a)):=by
   intro a b;unfold Ao.j4;rw [Br (by omega) (by omega),Aa];rfl
  refine ⟨_,?_,rfl⟩;rw [As hk,fm_snoc,M0];unfold Ao.l1;simp only;rw [Al,Ad (by omega),ref_block hR hm hk,Aa]
  unfold Ao.j5;cases h:G0 (Xo R mine) new[k].Path
  ·rw [Ac Ae,Bg hk,Aa,Dp (by rw [Aj,Ak];omega),Aa,hj4]
   simp [h,secO]
  ·rw [Ad rfl,Bg hk,Aa,Aa,t1,Aa,t2,Aa,Dp (by rw [Aj,Ak];omega),Aa,hj4]
   simp [h,secO]) (by
  rintro s rfl;unfold Ao.l1;simp only;rw [Al,Ac (by omega),Bw]
  exact ⟨_,rfl,rfl⟩) (mine,bad) (by simp)
 exact e
noncomputable def mgT (B:Ai) (left right:TreePatch):FileTree×Bq×Fault :=
 if (Ek B).Code≠0 then (⟨[]⟩,[],Ek B)
 else if (Gx left.Changes B).2.Code≠0 then (⟨[]⟩,[],⟨(Gx left.Changes B).2.Code,-2⟩)
 else if (Gx right.Changes B).2.Code≠0 then (⟨[]⟩,[],⟨(Gx right.Changes B).2.Code,-3⟩)
 else if (tmFin B (Gx left.Changes B).1 (Gx right.Changes B).1).length > 24 then (⟨[]⟩,[],⟨10,-1⟩)
 else (⟨tmFin B (Gx left.Changes B).1 (Gx right.Changes B).1⟩,tmFst B (Gx left.Changes B).1 (Gx right.Changes B).1 left right++tmSec B (Gx left.Changes B).1 (Gx right.Changes B).1 left right,⟨0,0⟩)
theorem apply_zero {p:Ap} {B:Ai} (h:(Gx p B).2.Code=0):(Gx p B).2=⟨0,0⟩:=by
 obtain ⟨_,c2,c3,c4,_⟩:=U6 h;rw [c4] at h ⊢;exact (run_ok _ _ _ c3 c2 h).2
theorem impl_mgT (B:Ai) (left right:TreePatch):A9 ⟨B⟩ left right=some (mgT B left right):=by
 unfold mgT;by_cases h0:(Ek B).Code=0
 ·rw [Ac (fun h=>h h0)];have hB:=(Hz B).1 h0
  have eB:Ek B=⟨0,0⟩:=by
   rcases Ut B with h | h
   ·exact h
   ·exact absurd h0 h
  by_cases h1:(Gx left.Changes B).2.Code=0
  ·rw [Ac (fun h=>h h1)];by_cases h2:(Gx right.Changes B).2.Code=0
   ·rw [Ac (fun h=>h h2)];exact tmerge hB h1 h2
   ·rw [Ad h2];have e1:=apply_zero h1;unfold A9;rw [Xq,Aa];simp only;rw [eB];simp only [C3,Gk,Ct,A6,Cg];rw [Apply_f,Aa];simp only;rw [e1];simp only [C3,Gk,Ct,A6,Cg];rw [Apply_f,Aa];simp only;rw [Ad (by simp [h2])]
  ·rw [Ad h1];unfold A9;rw [Xq,Aa];simp only;rw [eB];simp only [C3,Gk,Ct,A6,Cg];rw [Apply_f,Aa];simp only;rw [Ad (by simp [h1])]
 ·rw [Ad h0];unfold A9;rw [Xq,Aa];simp only;rw [Ad (by simp [h0])]
theorem ref_mgT (B:Ai) (left right:TreePatch):Ao ⟨B⟩ left right=some (mgT B left right):=by
 unfold mgT Ao Bd;rw [Aai,Aa];simp only;rw [Lm];by_cases h0:(Ek B).Code=0
 ·rw [Ad h0,Ac (fun h=>h h0),RApply_f,Aa];simp only;rw [Lm];have hB:=(Hz B).1 h0;by_cases h1:(Gx left.Changes B).2.Code=0
  ·rw [Ad h1,Ac (fun h=>h h1),RApply_f,Aa];simp only;rw [Lm];by_cases h2:(Gx right.Changes B).2.Code=0
   ·rw [Ad h2,Ac (fun h=>h h2)];obtain ⟨a1,a2,_,_,hL⟩:=U6 h1;obtain ⟨b1,b2,_,_,hR⟩:=U6 h2;generalize (Gx left.Changes B).1=L at hL ⊢;generalize (Gx right.Changes B).1=R at hR ⊢;generalize (Gx left.Changes B).2=fl;generalize (Gx right.Changes B).2=fr;have lB:=hB.len;have lL:=hL.len;have lR:=hR.len;obtain ⟨z,ez,z1,z2⟩:=Ordered_g (l:=B++L++R) (by rw [Aj,Aj];omega)
    rw [Dp (by simp;omega),Aa,A8,Dp (by omega),Aa,Dp (by rw [Aj];omega),Aa,ez,Aa]
    unfold Ao.j1;rw [ref_walk hB hL hR a2 a1 b2 b1 z2 z1,Aa];simp only;have lK:=K_len hB hL hR;have sK:=K_size hB hL hR;have lo:(W8 B L R).length≤72:=Bx (Cj _ _) lK;have ll:(O9 B L R).length≤72:=Bx (Cj _ _) lK;have lf:(tmFst B L R left right).length≤72:=Bx (Cj _ _) lK
    have hsz:∀ f∈O9 B L R,f.Path.size≤60:=by
     intro f hf;have hv:=((mem_late hB.srt hL.srt hR.srt).1 hf).1;by_cases hk:f.Path∈tmK B L R
     ·exact sK _ hk
     ·rw [not_K hB.srt hL.srt hR.srt hk] at hv;cases hv
    unfold Ao.j2;rw [Dp (by simp;omega),Aa,A8,ref_late hR (by omega) (by omega) hsz a2 a1 b2 b1 (by omega),Aa]
    simp only;rw [show Xo R (W8 B L R)=Wu B L R from rfl,show (O9 B L R).filterMap (secO left right (Wu B L R))=tmSec B L R left right from rfl];have hfl:((O9 B L R).filter (fun x=>!G0 (Wu B L R) x.Path)).length≤72:=Bx (Ks _ _) ll;obtain ⟨w,ew,w1,w2⟩:=Ordered_g (l:=W8 B L R++(O9 B L R).filter (fun x=>!G0 (Wu B L R) x.Path)) (by rw [Aj];omega)
    have hnd:((W8 B L R++(O9 B L R).filter (fun x=>!G0 (Wu B L R) x.Path)).map (·.Path)).Nodup:=by
     rw [Hx,List.nodup_append]
     have hs:∀ {l:Ai},Mq l→(l.map (·.Path)).Nodup:=by
      intro l h;unfold List.Nodup;rw [List.pairwise_map];exact h.imp fun h=>sLt_ne h
     refine ⟨hs (out_srt B L R),hs ((late_srtT B L R).sublist List.filter_sublist),fun a ha b hb e=>?_⟩;subst e;obtain ⟨f,hf,rfl⟩:=G9.1 ha;obtain ⟨g,hg,e⟩:=G9.1 hb;have h1:=late_no hB.srt hL.srt hR.srt g (Gt.1 hg).1;rw [Tg.2 ⟨f,hf,e.symm⟩] at h1;cases h1
    have hw:w=tmFin B L R:=by
     refine res_eq (wsrt_srt w2 ((w1.map _).nodup_iff.2 hnd)) (fin_srt hB.srt hL.srt hR.srt) fun f=>?_;rw [w1.mem_iff,fin_mem,Az,Gt];simp
    have hlw:=w1.length_eq;rw [hw] at ew hlw;unfold Ao.j3 Bd;rw [Al,ew];by_cases h24:(tmFin B L R).length > 24
    ·rw [Ad (by omega),Ad h24];rfl
    ·rw [Ac (by omega),Ac h24];rfl
   ·rw [Ac h2,Ad h2];rfl
  ·rw [Ac h1,Ad h1];rfl
 ·rw [Ac h0,Ad h0]
end Go.Dc
set_option linter.unusedSimpArgs false
set_option linter.unusedVariables false
set_option maxRecDepth 4000
namespace Go.Dc
open Go
theorem diff2_iter {a b:Ai} (ha:TrOk a) (hb:TrOk b):∀ (r:Ai) (k:Nat) (e d:Ap),a.drop k=r→e.length≤k→d.length≤k →
  C7 (fun s=>Cf.l2 ⟨a⟩ ⟨b⟩ s.1 s.2.1 s.2.2) ((k:Int),e,d)=some (e++r.filterMap (edOf b),d++r.filterMap (rmOf b)):=by
 intro r
 induction r with
 | nil =>
  intro k e d hk _ _;have:=Kt hk;refine Bm ?_;show Cf.l2 ⟨a⟩ ⟨b⟩ _ _ _=_;unfold Cf.l2;simp only;rw [Af (by omega),Ac Ae]
  simp
 | cons f r ih =>
  intro k e d hk he hd;obtain ⟨hlt,hx,hr⟩:=K9 hk;have hfm:f∈a:=hx ▸ Ar hlt;have hft:=ha.text_len hfm;have hal:=ha.len;have hbl:=hb.len
  have j4:∀ (u v:Ap),Cf.j4 (k:Int) u v=some (Step.next (((k+1:Nat):Int),v,u)):=by
   intro u v;unfold Cf.j4;rw [Br (by omega) (by omega),Aa];rfl
  have hs:Cf.l2 ⟨a⟩ ⟨b⟩ (k:Int) e d=some (Step.next (((k+1:Nat):Int),e++(edOf b f).toList,d++(rmOf b f).toList)):=by
   unfold Cf.l2 edOf rmOf;simp only;rw [Ag (by omega),Ad rfl,Bg hlt,Aa,hx,Find_f hb.srt (by omega),Aa]
   simp only;cases hh:Lb b f.Path with
   | false =>
    rw [Ad (by rfl),clone_f _ (by omega),Aa,Dp (by simp;omega),Aa,j4]
    simp
   | true =>
    obtain ⟨hp,hpe⟩:=Ww hb.srt hh;have hgm:=Ar hp;rw [Ac (show ¬ ((!true)=true) by decide),Bg hp,Aa,script_f,Aa]
    have h1:=text0 (ha.text f hfm);have h2:=text0 (hb.text _ hgm);rw [Ac (fun hn=>hn h1),Ac (fun hn=>hn h2)]
    have hla:Qh b f.Path=b[H9 b f.Path].Lines:=by
     unfold Qh;rw [A3 hp]
    rw [hla];unfold Cf.j5;simp only;by_cases hsc:H3 f.Lines b[H9 b f.Path].Lines=[]
    ·rw [Af (by rw [hsc];simp),Ac Ae,j4]
     simp [hsc]
    ·have:0 < (H3 f.Lines b[H9 b f.Path].Lines).length:=K7.2 hsc;rw [Ag (by omega),Ad rfl,Dp (by simp;omega),Aa,j4]
     simp [hsc,edF]
  rw [Bz (s':=(((k+1:Nat):Int),e++(edOf b f).toList,d++(rmOf b f).toList)) hs];have l1:(edOf b f).toList.length≤1:=by cases edOf b f <;> simp
  have l2:(rmOf b f).toList.length≤1:=by cases rmOf b f <;> simp
  rw [ih (k+1) _ _ hr (by rw [Aj];omega) (by rw [Aj];omega)]
  rw [Am,Am];cases h1:edOf b f <;> cases h2:rmOf b f <;> simp [List.filterMap_cons,h1,h2]
theorem diff1_iter {a b:Ai} (ha:TrOk a) (hb:TrOk b):∀ (r:Ai) (k:Nat) (e:Ap),b.drop k=r→e.length≤k →
  C7 (fun s=>Cf.l1 ⟨a⟩ ⟨b⟩ s.1 s.2) ((k:Int),e)=some (e++r.filterMap (adOf a)):=by
 intro r
 induction r with
 | nil =>
  intro k e hk _;have:=Kt hk;refine Bm ?_;show Cf.l1 ⟨a⟩ ⟨b⟩ _ _=_;unfold Cf.l1;simp only;rw [Af (by omega),Ac Ae]
  simp
 | cons f r ih =>
  intro k e hk he;obtain ⟨hlt,hx,hr⟩:=K9 hk;have hfm:f∈b:=hx ▸ Ar hlt;have hft:=hb.text_len hfm;have hal:=ha.len;have hbl:=hb.len
  have j3:∀ (u:Ap),Cf.j3 (k:Int) u=some (Step.next (((k+1:Nat):Int),u)):=by
   intro u;unfold Cf.j3;rw [Br (by omega) (by omega),Aa];rfl
  have hs:Cf.l1 ⟨a⟩ ⟨b⟩ (k:Int) e=some (Step.next (((k+1:Nat):Int),e++(adOf a f).toList)):=by
   unfold Cf.l1 adOf;simp only;rw [Ag (by omega),Ad rfl,Bg hlt,Aa,hx,Find_f ha.srt (by omega),Aa]
   simp only;cases hh:Lb a f.Path with
   | false =>
    rw [Ad (by rfl),clone_f _ (by omega),Aa,Dp (by simp;omega),Aa,j3]
    simp
   | true =>
    rw [Ac (show ¬ ((!true)=true) by decide),j3]
    simp
  rw [Bz (s':=(((k+1:Nat):Int),e++(adOf a f).toList)) hs];have l1:(adOf a f).toList.length≤1:=by cases adOf a f <;> simp
  rw [ih (k+1) _ hr (by rw [Aj];omega),Am]
  cases h1:adOf a f <;> simp [List.filterMap_cons,h1]
theorem concat3 {x y z:Ap} (hx:x.length≤100) (hy:y.length≤100) (hz:z.length≤100):Di [x,y,z]=some (x++y++z):=by
 unfold Di
 have s0:∀ (k:Nat) (v:Ap) (n:Nat),[x,y,z][k]? = some v→v.length≤100→n≤1000→Di.l2 [x,y,z] (k:Int) (n:Int)=some (Step.next (((k+1:Nat):Int),((n+v.length:Nat):Int))):=by
  intro k v n hv hl hn;have hk:k < 3:=by have:=List.getElem?_eq_some_iff.1 hv;obtain ⟨h,_⟩:=this;simpa using h
  unfold Di.l2 Di.j3;have:at? [x,y,z] (k:Int)=some v:=by unfold at?;rw [Ad (by omega),Ay,hv]
  rw [Ad (by simp;omega),this,Aa,Br (by omega) (by omega),Aa,Ac (by simp;omega),Br (by omega) (by omega),Aa];rfl
 have t0:∀ (k:Nat) (v w:Ap),[x,y,z][k]? = some v→v.length≤100→w.length≤1000→Di.l1 [x,y,z] (k:Int) w=some (Step.next (((k+1:Nat):Int),w++v)):=by
  intro k v w hv hl hn;have hk:k < 3:=by have:=List.getElem?_eq_some_iff.1 hv;obtain ⟨h,_⟩:=this;simpa using h
  unfold Di.l1;have:at? [x,y,z] (k:Int)=some v:=by unfold at?;rw [Ad (by omega),Ay,hv]
  rw [Ad (by simp;omega),this,Aa,Dp (by omega),Aa,Br (by omega) (by omega),Aa];rfl
 have e1:C7 (fun s=>Di.l2 [x,y,z] s.1 s.2) ((0:Int),(0:Int))=some ((0+x.length+y.length+z.length:Nat):Int):=by
  rw [Bz (s':=(((0+1:Nat):Int),((0+x.length:Nat):Int))) (s0 0 x 0 rfl hx (by omega))]
  rw [Bz (s':=(((1+1:Nat):Int),((0+x.length+y.length:Nat):Int))) (s0 1 y _ rfl hy (by omega))]
  rw [Bz (s':=(((2+1:Nat):Int),((0+x.length+y.length+z.length:Nat):Int))) (s0 2 z _ rfl hz (by omega))]
  refine Bm ?_;show Di.l2 [x,y,z] _ _=_;unfold Di.l2;rw [Ac (by simp)]
 rw [e1,Aa];unfold Di.j1 Di.j2
 have e2:grow0 TreeChange 88 ((0+x.length+y.length+z.length:Nat):Int)=some []:=by
  unfold grow0;rw [Ad ⟨by omega,by omega⟩]
 rw [e2,Aa]
 have e3:C7 (fun s=>Di.l1 [x,y,z] s.1 s.2) ((0:Int),([]:Ap))=some (x++y++z):=by
  rw [Bz (s':=(((0+1:Nat):Int),[]++x)) (t0 0 x [] rfl hx (by simp))]
  rw [Bz (s':=(((1+1:Nat):Int),[]++x++y)) (t0 1 y _ rfl hy (by simp;omega))]
  rw [Bz (s':=(((2+1:Nat):Int),[]++x++y++z)) (t0 2 z _ rfl hz (by simp;omega))]
  refine Bm ?_;show Di.l1 [x,y,z] _ _=_;unfold Di.l1;rw [Ac (by simp)];simp
 rw [e3,Aa]
theorem linesAt_of {a:Ai} (ha:Mq a) {f:File} (hf:f∈a):Qh a f.Path=f.Lines:=by
 obtain ⟨hp,h1,h2⟩:=mem_has ha (P:=f.Path) (L:=f.Lines) (by cases f;exact hf)
 unfold Qh;rw [A3 hp,h2]
def edO (a:Ai) (f:File):Option TreeChange:=if Lb a f.Path=true∧Qh a f.Path≠f.Lines then some (edF f.Path ⟨H3 (Qh a f.Path) f.Lines⟩) else Option.none
theorem ed_pw {b:Ai} {F:File→Option TreeChange} (hF:∀ f c,F f=some c→c.Path=f.Path) {a:Ai} (ha:Mq a):(a.filterMap F).Pairwise fun c d=>sLt c.Path d.Path=true:=by
 rw [List.pairwise_filterMap];refine ha.imp ?_;intro f g h c hc d hd;rw [hF f c hc,hF g d hd];exact h
theorem ed_eq {a b:Ai} (ha:TrOk a) (hb:TrOk b):a.filterMap (edOf b)=b.filterMap (edO a):=by
 refine pw_ext (R:=fun c d:TreeChange=>sLt c.Path d.Path=true) (fun x y h h2=>?_) (ed_pw (b:=b) ?_ ha.srt) (ed_pw (b:=a) ?_ hb.srt) ?_
 ·have:=Xx h h2;rw [Qz] at this;cases this
 ·intro f c h;unfold edOf at h;split at h
  ·cases h;rfl
  ·cases h
 ·intro f c h;unfold edO at h;split at h
  ·cases h;rfl
  ·cases h
 ·intro c;rw [Hu,Hu];constructor
  ·rintro ⟨f,hf,e⟩;unfold edOf at e;split at e
   ·rename_i hh
    cases e;have hl:=linesAt_of ha.srt hf;refine ⟨⟨f.Path,Qh b f.Path⟩,linesAt_mem hb hh.1,?_⟩;unfold edO;simp only;rw [Ad ⟨has_mem hf,fun e=>hh.2 (by rw [← hl,e];exact script_self _)⟩,hl]
   ·cases e
  ·rintro ⟨g,hg,e⟩;unfold edO at e;split at e
   ·rename_i hh
    cases e;have hl:=linesAt_of hb.srt hg;have hm:=linesAt_mem ha hh.1;refine ⟨⟨g.Path,Qh a g.Path⟩,hm,?_⟩;unfold edOf;simp only;have hne:H3 (Qh a g.Path) g.Lines≠[]:=fun e=>hh.2 ((script_ok (ha.text _ hm) (hb.text _ hg)).2.2 e);rw [hl,Ad ⟨has_mem hg,hne⟩]
   ·cases e
def M5 (a b:Ai):TreePatch×Fault :=
 if (Ek a).Code≠0 then (⟨[]⟩,Ek a) else if (Ek b).Code≠0 then (⟨[]⟩,⟨(Ek b).Code,-2⟩) else if (difL a b).length > 30 then (⟨[]⟩,⟨10,-1⟩) else (⟨difL a b⟩,⟨0,0⟩)
theorem tdifT_f (a b:Ai):Cf ⟨a⟩ ⟨b⟩=some (M5 a b):=by
 unfold Cf M5;rw [Xq,Aa];simp only;rcases Ut a with h | h
 ·have ha:=(Hz a).1 (by rw [h])
  rw [Ac (by rw [h];decide),tsecond_f,Aa,Ac (show ¬ (Ek a).Code≠0 by rw [h];decide)]
  simp only;by_cases hb0:(Ek b).Code=0
  ·have hb:=(Hz b).1 hb0;have hal:=ha.len;have hbl:=hb.len;have i2:=diff2_iter ha hb a 0 [] [] rfl (B7 _) (B7 _);have i1:=diff1_iter ha hb b 0 [] rfl (B7 _);rw [show ((0:Nat):Int)=0 from rfl] at i1 i2;have f1:=Cj (edOf b) a;have f2:=Cj (rmOf b) a;have f3:=Cj (adOf a) b;rw [Ad hb0,Ac (by decide),i2,Aa,Ac (fun hn=>hn hb0)]
   unfold Cf.j1 Cf.j2 difL;rw [i1,Aa];simp only [A8];rw [concat3 (by omega) (by omega) (by omega),Aa]
   by_cases h30:((a.filterMap (rmOf b)++a.filterMap (edOf b)++b.filterMap (adOf a)).length:Int) > 30
   ·rw [Ag h30,Ad rfl,Ad (by omega)]
   ·rw [Af h30,Ac Ae,Ac (by omega)]
  ·rw [Ac hb0,Ad (by simp [hb0]),Ad hb0]
 ·rw [Ad (by simp [h]),Ad h]
theorem twoTrees_f (a b:Ai):H4 ⟨a⟩ ⟨b⟩=some (if (Ek a).Code≠0 then Ek a else if (Ek b).Code≠0 then ⟨(Ek b).Code,-2⟩ else ⟨0,0⟩):=by
 unfold H4;rw [Aai,Aa];simp only;rcases Ut a with h | h
 ·rw [Ac (show ¬ (Ek a).Code≠0 by rw [h];decide),Ag (show (Ek a).Code=0 by rw [h]),Ad rfl,Aai,Aa,Aa]
  simp only;by_cases h2:(Ek b).Code=0
  ·rw [Ac (by simp [h2]),Ac (fun hn=>hn h2),h]
  ·rw [Ad (by simp [h2]),Ad h2,Aa];rfl
 ·rw [Ad h,Af h,Ac Ae,Aa,Ac Ae]
theorem rdif3_iter {a b:Ai} (ha:TrOk a) (hb:TrOk b):∀ (r:Ai) (k:Nat) (e:Ap),a.drop k=r→e.length≤k →
  C7 (fun s=>Au.l3 ⟨a⟩ ⟨b⟩ s.1 s.2) ((k:Int),e)=some (e++r.filterMap (rmOf b)):=by
 intro r
 induction r with
 | nil =>
  intro k e hk _;have:=Kt hk;refine Bm ?_;show Au.l3 ⟨a⟩ ⟨b⟩ _ _=_;unfold Au.l3;simp only;rw [Af (by omega),Ac Ae]
  simp
 | cons f r ih =>
  intro k e hk he;obtain ⟨hlt,hx,hr⟩:=K9 hk;have hal:=ha.len;have hbl:=hb.len
  have j3:∀ (u:Ap),Au.j6 (k:Int) u=some (Step.next (((k+1:Nat):Int),u)):=by
   intro u;unfold Au.j6;rw [Br (by omega) (by omega),Aa];rfl
  have hs:Au.l3 ⟨a⟩ ⟨b⟩ (k:Int) e=some (Step.next (((k+1:Nat):Int),e++(rmOf b f).toList)):=by
   unfold Au.l3 rmOf;simp only;rw [Ag (by omega),Ad rfl,Bg hlt,Aa,hx,FileAt_f hb.srt (by omega),Aa]
   cases hh:Lb b f.Path with
   | false =>
    rw [Ac Ae,Ag (by omega),Ad rfl,Aa,Aa,Dp (by simp;omega),Aa,j3]
    simp
   | true =>
    rw [Ad rfl,Af (by omega),Ac Ae,j3]
    simp
  rw [Bz (s':=(((k+1:Nat):Int),e++(rmOf b f).toList)) hs];have l1:(rmOf b f).toList.length≤1:=by cases rmOf b f <;> simp
  rw [ih (k+1) _ hr (by rw [Aj];omega),Am]
  cases h1:rmOf b f <;> simp [List.filterMap_cons,h1]
theorem rdif2_iter {a b:Ai} (ha:TrOk a) (hb:TrOk b):∀ (r:Ai) (k:Nat) (e:Ap),b.drop k=r→e.length≤100+k →
  C7 (fun s=>Au.l2 ⟨a⟩ ⟨b⟩ s.1 s.2) ((k:Int),e)=some (e++r.filterMap (edO a)):=by
 intro r
 induction r with
 | nil =>
  intro k e hk _;have:=Kt hk;refine Bm ?_;show Au.l2 ⟨a⟩ ⟨b⟩ _ _=_;unfold Au.l2;simp only;rw [Af (by omega),Ac Ae]
  simp
 | cons f r ih =>
  intro k e hk he;obtain ⟨hlt,hx,hr⟩:=K9 hk;have hfm:f∈b:=hx ▸ Ar hlt;have hft:=hb.text_len hfm;have hal:=ha.len;have hbl:=hb.len
  have j3:∀ (u:Ap),Au.j5 (k:Int) u=some (Step.next (((k+1:Nat):Int),u)):=by
   intro u;unfold Au.j5;rw [Br (by omega) (by omega),Aa];rfl
  have hs:Au.l2 ⟨a⟩ ⟨b⟩ (k:Int) e=some (Step.next (((k+1:Nat):Int),e++(edO a f).toList)):=by
   unfold Au.l2 edO;simp only;rw [Ag (by omega),Ad rfl,Bg hlt,Aa,hx,FileAt_f ha.srt (by omega),Aa]
   cases hh:Lb a f.Path with
   | false =>
    rw [Ac Ae,Af (by omega),Ac Ae,Aa,Ac Ae,j3]
    simp
   | true =>
    obtain ⟨hp,hpe⟩:=Ww ha.srt hh;have hgm:=Ar hp;have hgt:=ha.text_len hgm
    have hla:Qh a f.Path=a[H9 a f.Path].Lines:=by
     unfold Qh;rw [A3 hp]
    rw [Ad rfl,Ag (by omega),Ad rfl,Bg hp,Aa,Aa,requal_f _ _ (by omega),Aa,Aa,hla]
    by_cases he2:a[H9 a f.Path].Lines=f.Lines
    ·rw [Ag he2,Ac (by decide),j3,Ac (fun hn=>hn.2 he2)]
     simp
    ·rw [Af he2,Ad (by decide),Aa,Aa,Aa,rscript_f (by omega) (by omega),Aa,Dp (by simp;omega),Aa,j3,Ad ⟨rfl,he2⟩]
     simp [edF]
  rw [Bz (s':=(((k+1:Nat):Int),e++(edO a f).toList)) hs];have l1:(edO a f).toList.length≤1:=by cases edO a f <;> simp
  rw [ih (k+1) _ hr (by rw [Aj];omega),Am]
  cases h1:edO a f <;> simp [List.filterMap_cons,h1]
theorem rdif1_iter {a b:Ai} (ha:TrOk a) (hb:TrOk b):∀ (r:Ai) (k:Nat) (e:Ap),b.drop k=r→e.length≤200+k →
  C7 (fun s=>Au.l1 ⟨a⟩ ⟨b⟩ s.1 s.2) ((k:Int),e)=some (e++r.filterMap (adOf a)):=by
 intro r
 induction r with
 | nil =>
  intro k e hk _;have:=Kt hk;refine Bm ?_;show Au.l1 ⟨a⟩ ⟨b⟩ _ _=_;unfold Au.l1;simp only;rw [Af (by omega),Ac Ae]
  simp
 | cons f r ih =>
  intro k e hk he;obtain ⟨hlt,hx,hr⟩:=K9 hk;have hal:=ha.len;have hbl:=hb.len
  have j3:∀ (u:Ap),Au.j4 (k:Int) u=some (Step.next (((k+1:Nat):Int),u)):=by
   intro u;unfold Au.j4;rw [Br (by omega) (by omega),Aa];rfl
  have hs:Au.l1 ⟨a⟩ ⟨b⟩ (k:Int) e=some (Step.next (((k+1:Nat):Int),e++(adOf a f).toList)):=by
   unfold Au.l1 adOf;simp only;rw [Ag (by omega),Ad rfl,Bg hlt,Aa,hx,FileAt_f ha.srt (by omega),Aa]
   cases hh:Lb a f.Path with
   | false =>
    rw [Ac Ae,Ag (by omega),Ad rfl,Aa,Aa,Dp (by simp;omega),Aa,j3]
    simp
   | true =>
    rw [Ad rfl,Af (by omega),Ac Ae,j3]
    simp
  rw [Bz (s':=(((k+1:Nat):Int),e++(adOf a f).toList)) hs];have l1:(adOf a f).toList.length≤1:=by cases adOf a f <;> simp
  rw [ih (k+1) _ hr (by rw [Aj];omega),Am]
  cases h1:adOf a f <;> simp [List.filterMap_cons,h1]
theorem rdifT_f (a b:Ai):Au ⟨a⟩ ⟨b⟩=some (M5 a b):=by
 unfold Au M5;rw [twoTrees_f,Aa];by_cases h1:(Ek a).Code=0
 ·by_cases h2:(Ek b).Code=0
  ·have ha:=(Hz a).1 h1;have hb:=(Hz b).1 h2;have hal:=ha.len;have hbl:=hb.len;have f1:=Cj (rmOf b) a;have f2:=Cj (edO a) b;have i3:=rdif3_iter ha hb a 0 [] rfl (B7 _);have i2:=rdif2_iter ha hb b 0 (a.filterMap (rmOf b)) rfl (by omega)
   have i1:=rdif1_iter ha hb b 0 (a.filterMap (rmOf b)++b.filterMap (edO a)) rfl (by rw [Aj];omega)
   rw [show ((0:Nat):Int)=0 from rfl] at i1 i2 i3;have g1:¬ (Ek a).Code≠0:=fun hn=>hn h1;have g2:¬ (Ek b).Code≠0:=fun hn=>hn h2;simp only [Ac g1,Ac g2];rw [Ac (by decide),i3,Aa,A8]
   unfold Au.j1 Au.j2 Au.j3 difL;rw [i2,Aa,i1,Aa,← ed_eq ha hb];by_cases h30:((a.filterMap (rmOf b)++a.filterMap (edOf b)++b.filterMap (adOf a)).length:Int) > 30
   ·rw [Ag h30,Ad rfl,Ad (by omega)];rfl
   ·rw [Af h30,Ac Ae,Ac (by omega)]
  ·have g1:¬ (Ek a).Code≠0:=fun hn=>hn h1;have g2:(Ek b).Code≠0:=h2;simp only [Ac g1,Ad g2];rw [Ad (by simp [h2])]
 ·have g1:(Ek a).Code≠0:=h1;simp only [Ad g1];rw [Ad (by simp [h1])]
theorem tp_refl {l:Ap} (h:∀ c∈l,OkCh c) (hl:l.length≤1000):Ed ⟨l⟩ ⟨l⟩=some true:=by
 unfold Ed;simp only;rw [Ac (by simp),Xh l (fun _ _=>(Option.none:Option Bool)) ?_ ?_,Aa]
 ·have:K1 (fun _ _=>(Option.none:Option Bool)) 0 l=Option.none:=by rw [O6];intro j hj;rfl
  rw [this];rfl
 ·intro k hk _;unfold Ed.l1;simp only;rw [Ag (by omega),Ad rfl,Bg hk,Aa,Aa,refl_ok (h _ (Ar hk)),Aa,Ac (by decide),Br (by omega) (by omega),Aa];rfl
 ·unfold Ed.l1;rw [Af (by simp),Ac Ae]
theorem difL_ok {a b:Ai} (ha:TrOk a) (hb:TrOk b):∀ c∈difL a b,OkCh c:=by
 intro c hc;unfold difL at hc;rw [Az,Az,Hu,Hu,Hu] at hc;rcases hc with (⟨f,hf,e⟩ | ⟨f,hf,e⟩) | ⟨f,hf,e⟩
 ·unfold rmOf at e;split at e
  ·cases e
  ·cases e;exact ch_ok (.inr rfl) (ha.path f hf) (ha.text f hf)
 ·unfold edOf at e;split at e
  ·rename_i hh
   cases e;exact okCh_ed (ha.path f hf) hh.2 (script_ok (ha.text f hf) (hb.text _ (linesAt_mem hb hh.1))).1
  ·cases e
 ·unfold adOf at e;split at e
  ·cases e
  ·cases e;exact ch_ok (.inl rfl) (hb.path f hf) (hb.text f hf)
theorem ints_eq (a b:List Int) (hb:a.length≤1000000):Gl a b=some (decide (a=b)):=by
 unfold Gl;rw [Lm];by_cases hl:(a.length:Int)=(b.length:Int)
 ·rw [Ad hl];have hl':a.length=b.length:=by omega
  obtain ⟨r,h1,h2⟩:=U5 (m:=fun s=>Gl.l1 a b s) (fun s=>∃ k:Nat,s=(k:Int)∧k≤a.length∧a.take k=b.take k) (fun s=>a.length - s.toNat)
   (fun r=>(r=.inr ()∧a=b)∨(r=.inl false∧a≠b)) (by
    rintro s ⟨k,rfl,hk,hall⟩;unfold Gl.l1;rw [Al];by_cases hlt:k < a.length
    ·rw [Ad (by omega),Bg hlt,Aa,Bg (by omega),Aa,Lm]
     by_cases he:a[k]=b[k]
     ·rw [Ad he,Br (by omega) (by omega),Aa]
      exact .inl ⟨_,rfl,⟨k+1,by omega,hlt,by rw [As hlt,As (by omega),hall,he]⟩,by omega⟩
     ·rw [Ac he];exact .inr ⟨_,rfl,.inr ⟨rfl,fun h=>he (by subst h;rfl)⟩⟩
    ·rw [Ac (by omega)]
     refine .inr ⟨_,rfl,.inl ⟨rfl,?_⟩⟩;rw [Cn (by omega),Cn (by omega)] at hall
     exact hall) 0 ⟨0,rfl,Cs _,by simp⟩
  rw [h1,Aa];rcases h2 with ⟨rfl,h⟩ | ⟨rfl,h⟩
  ·rw [Ag h]
  ·rw [Af h]
 ·rw [Ac hl,Af (fun h=>hl (by rw [h]))]
theorem Wd {x m:Int} (h0:0≤x) (hm:0 < m):rem? x m=some (x % m):=by
 unfold rem?;rw [Ac (by omega),Int.tmod_eq_emod_of_nonneg h0]
theorem shr1 {b:Int}:shr? .i64 b 1=some (b / 2):=by
 unfold shr?;rw [Ac (by decide)]
 have:(2:Int) ^ (min (1:Int).toNat IntKind.i64.bits)=2:=by decide
 rw [this,Int.fdiv_eq_ediv_of_nonneg _ (by decide)]
def Dig (x:Int):Prop:=0≤x∧x < 2305843009213693951
theorem dig_mod {x:Int}:Dig (x % 2305843009213693951):=⟨Int.emod_nonneg _ (by decide),Int.emod_lt_of_pos _ (by decide)⟩
theorem mul_ok {a b:Int} (ha:Dig a) (hb:0≤b):∃ r,G1 a b=some r∧Dig r:=by
 unfold G1
 obtain ⟨r,h1,h2⟩:=U5 (m:=fun s:Int×Int×Int=>G1.l1 s.1 s.2.1 s.2.2) (fun s=>Dig s.1∧Dig s.2.1∧0≤s.2.2) (fun s=>s.2.2.toNat) Dig (by
  rintro ⟨o,x,y⟩ ⟨h1,h2,h3⟩;simp only at h1 h2 h3 ⊢;obtain ⟨p1,p2⟩:=h1;obtain ⟨q1,q2⟩:=h2;unfold G1.l1;simp only [Al];by_cases hy:y > 0
  ·left;rw [Ad hy]
   have j2:∀ o',Dig o'→∃ s',G1.j2 x y o'=some (.next s')∧(Dig s'.1∧Dig s'.2.1∧0≤s'.2.2)∧s'.2.2.toNat < y.toNat:=by
    intro o' ho;unfold G1.j2;rw [Br (by omega) (by omega),Aa,Wd (by omega) (by decide),Aa,shr1,Aa]
    exact ⟨_,rfl,⟨ho,dig_mod,by simp only;omega⟩,by simp only;omega⟩
   by_cases hc:andI .i64 y 1=1
   ·rw [Ad hc,Br (by omega) (by omega),Aa,Wd (by omega) (by decide),Aa]
    exact j2 _ dig_mod
   ·rw [Ac hc];exact j2 _ ⟨p1,p2⟩
  ·right;rw [Ac hy];exact ⟨_,rfl,p1,p2⟩) (0,a,b) ⟨⟨Int.le_refl 0,(by decide:(0:Int) < 2305843009213693951)⟩,ha,hb⟩
 rw [h1,Aa];exact ⟨r,rfl,h2⟩
theorem dnext_ok {s:Step_digest} {f:Int} (h0:Dig s.e0) (h1:Dig s.e1) (hf:0≤f):∃ r,Oy s f=some r∧Dig r:=by
 obtain ⟨r,h2,h3,h4⟩:=mul_ok h0 hf;unfold Oy;obtain ⟨p1,p2⟩:=h1;rw [h2,Aa,Br (by omega) (by omega),Aa,Wd (by omega) (by decide),Aa]
 exact ⟨_,rfl,dig_mod⟩
theorem of_ok {l:List UInt8} (hl:l.length≤4096):∃ r,H0 l=some (r,⟨0,0⟩)∧Dig r:=by
 unfold H0;rw [Al,Ac (by omega)]
 obtain ⟨r,h1,h2⟩:=U5 (m:=fun s:Int×Int=>H0.l1 l s.1 s.2) (fun s=>∃ k:Nat,s.1=(k:Int)∧k≤l.length∧Dig s.2) (fun s=>l.length - s.1.toNat) Dig (by
  rintro ⟨x,h⟩ ⟨k,hx,hk,hd⟩;simp only at hx hd ⊢;subst hx;unfold H0.l1;rw [Al];by_cases hlt:k < l.length
  ·left;have hb:(l[k]).toNat < 256:=(l[k]).toNat_lt;rw [Ad (by omega),Bg hlt,Aa,Br (by omega) (by omega),Aa,Br (by omega) (by omega),Aa]
   obtain ⟨r,e1,e2⟩:=dnext_ok (s:={ e0:=h,e1:=((l[k]).toNat:Int)+1 }) (f:=257) hd ⟨by simp only;omega,by simp only;omega⟩ (by decide)
   rw [e1,Aa,Br (by omega) (by omega),Aa]
   exact ⟨_,rfl,⟨k+1,by simp,hlt,e2⟩,by simp only;omega⟩
  ·right;rw [Ac (by omega)]
   exact ⟨_,rfl,hd⟩) (0,1) ⟨0,rfl,Cs _,by decide,by decide⟩
 rw [h1,Aa];exact ⟨r,rfl,h2⟩
theorem pair_ok {a b:Int} (ha:Dig a) (hb:Dig b):∃ r,N1 a b=some r∧Dig r:=by
 unfold N1;obtain ⟨r,h1,h2⟩:=dnext_ok (s:={ e0:=b,e1:=7 }) (f:=31) hb ⟨(by decide:(0:Int)≤7),(by decide:(7:Int) < 2305843009213693951)⟩ (by decide)
 rw [h1,Aa];obtain ⟨r',h3,h4⟩:=dnext_ok (s:={ e0:=a,e1:=r }) (f:=1000003) ha h2 (by decide)
 rw [h3];exact ⟨r',rfl,h4⟩
theorem is_eq {a:Int} (h:Dig a):digest_is a=some true:=by
 obtain ⟨h1,h2⟩:=h;unfold digest_is;rw [Al,Ad h1,Aa,Ag h2]
theorem Pair_ok {a b:Int} (ha:Dig a) (hb:Dig b):∃ r,Gp a b=some (r,⟨0,0⟩)∧Dig r:=by
 unfold Gp
 have:C7 (fun s=>Gp.l1 a b s) 0=some (.inr ()):=by
  refine iter_eq_of (fun s=>s=0∨s=1∨s=2) (fun s=>2 - s.toNat) _ ?_ _ (.inl rfl);rintro s (rfl | rfl | rfl)
  ·left;unfold Gp.l1;rw [Al,Ad (by decide),show at? [a,b] 0=some a from rfl,Aa,is_eq ha,Aa,Ac (by decide),Br (by decide) (by decide),Aa]
   exact ⟨_,rfl,.inr (.inl rfl),by decide⟩
  ·left;unfold Gp.l1;rw [Al,Ad (by decide),show at? [a,b] 1=some b from rfl,Aa,is_eq hb,Aa,Ac (by decide),Br (by decide) (by decide),Aa]
   exact ⟨_,rfl,.inr (.inr rfl),by decide⟩
  ·right;unfold Gp.l1;rw [Al,Ac (by decide)]
 rw [this,Aa];simp only;unfold Gp.j1;obtain ⟨r,h1,h2⟩:=pair_ok ha hb;rw [h1,Aa];exact ⟨r,rfl,h2⟩
noncomputable def lineN (k:Nat) (s:ByteArray):Int:=(((H0 s.data.toList).bind fun d=>Gp ((k:Int)+1) d.1).map (·.1)).getD 0
noncomputable def textN (k:Nat):Ab→Int
 | []=>0
 | [s]=>lineN k s
 | s::r=>min (lineN k s) (textN k r)
noncomputable def numsJ (t:Ab):List Int:=(List.range 8).map fun k=>textN k t
theorem and1 {y:Int} (h0:0≤y) (h1:y≤9223372036854775807):andI .i64 y 1=y % 2:=by
 obtain ⟨n,rfl⟩:=Int.eq_ofNat_of_zero_le h0;unfold andI;rw [BitVec.toNat_and]
 have e1:(BitVec.ofInt IntKind.i64.bits (n:Int)).toNat=n:=by
  rw [BitVec.toNat_ofInt];show ((n:Int) % ((2 ^ 64:Nat):Int)).toNat=n;omega
 have e2:(BitVec.ofInt IntKind.i64.bits 1).toNat=1:=by decide
 rw [e1,e2,Nat.and_one_is_mod,i64_wrap (by omega) (by omega)]
 omega
theorem quo2 {x:Int} (h0:0≤x) (h1:x≤9223372036854775807):quo? .i64 x 2=some (x / 2):=by
 unfold quo?;rw [Ac (by decide),Int.tdiv_eq_ediv_of_nonneg h0,Br (by omega) (by omega)]
theorem times_iter:∀ (n:Nat) (o x y:Int),y.toNat=n→Dig o→Dig x→0≤y→y≤9223372036854775807 →
  C7 (fun s:Int×Int×Int=>Cr.l1 s.1 s.2.1 s.2.2) (o,x,y)=C7 (fun s:Int×Int×Int=>G1.l1 s.1 s.2.1 s.2.2) (o,x,y):=by
 intro n
 induction n using Nat.strongRecOn with
 | _ n ih =>
  intro o x y hn ho hx h0 h1;obtain ⟨p1,p2⟩:=ho;obtain ⟨q1,q2⟩:=hx;by_cases hy:y > 0
  ·have s1:∃ o',Dig o'∧Cr.l1 o x y=some (.next (o',(x+x) % 2305843009213693951,y / 2))∧G1.l1 o x y=some (.next (o',(x+x) % 2305843009213693951,y / 2)):=by
    have j1:∀ o',Cr.j2 x y o'=some (.next (o',(x+x) % 2305843009213693951,y / 2)):=by
     intro o';unfold Cr.j2;rw [Br (by omega) (by omega),Aa,Wd (by omega) (by decide),Aa,quo2 h0 h1,Aa]
    have j2:∀ o',G1.j2 x y o'=some (.next (o',(x+x) % 2305843009213693951,y / 2)):=by
     intro o';unfold G1.j2;rw [Br (by omega) (by omega),Aa,Wd (by omega) (by decide),Aa,shr1,Aa,Int.two_mul]
    by_cases hc:y % 2=1
    ·refine ⟨(o+x) % 2305843009213693951,dig_mod,?_,?_⟩
     ·unfold Cr.l1;rw [Al,Ad hy,Wd h0 (by decide),Aa,Al,Ad hc,Br (by omega) (by omega),Aa,Wd (by omega) (by decide),Aa,j1]
     ·unfold G1.l1;rw [Al,Ad hy,Al,and1 h0 h1,Ad hc,Br (by omega) (by omega),Aa,Wd (by omega) (by decide),Aa,j2]
    ·refine ⟨o,⟨p1,p2⟩,?_,?_⟩
     ·unfold Cr.l1;rw [Al,Ad hy,Wd h0 (by decide),Aa,Al,Ac hc,j1]
     ·unfold G1.l1;rw [Al,Ad hy,Al,and1 h0 h1,Ac hc,j2]
   obtain ⟨o',hd,e1,e2⟩:=s1;rw [Bz (m:=fun s:Int×Int×Int=>Cr.l1 s.1 s.2.1 s.2.2) e1,Bz (m:=fun s:Int×Int×Int=>G1.l1 s.1 s.2.1 s.2.2) e2];exact ih (y / 2).toNat (by omega) _ _ _ rfl hd dig_mod (by omega) (by omega)
  ·have e1:Cr.l1 o x y=some (.done o):=by unfold Cr.l1;rw [Al,Ac hy]
   have e2:G1.l1 o x y=some (.done o):=by unfold G1.l1;rw [Al,Ac hy]
   rw [Bm (m:=fun s:Int×Int×Int=>Cr.l1 s.1 s.2.1 s.2.2) e1,Bm (m:=fun s:Int×Int×Int=>G1.l1 s.1 s.2.1 s.2.2) e2]
theorem times_f {a b:Int} (ha:Dig a) (h0:0≤b) (h1:b≤9223372036854775807):Cr a b=G1 a b:=by
 unfold Cr G1;rw [times_iter b.toNat 0 a b rfl ⟨by decide,by decide⟩ ha h0 h1]
theorem next_ref {h z f:Int} (hh:Dig h) (hz:0≤z∧z≤2305843009213693951) (hf:0≤f):∃ r,G1 h f=some r∧Dig r∧Oy ⟨h,z⟩ f=some ((r+z) % 2305843009213693951):=by
 obtain ⟨r,h2,h3,h4⟩:=mul_ok hh hf;refine ⟨r,h2,⟨h3,h4⟩,?_⟩;unfold Oy;simp only;rw [h2,Aa,Br (by omega) (by omega),Aa,Wd (by omega) (by decide),Aa]
theorem of_iter (l:List UInt8) (hl:l.length≤4096):∀ (n k:Nat) (h:Int),l.length - k=n→k≤l.length→Dig h →
  C7 (fun s:Int×Int=>Cu.l1 l s.1 s.2) ((k:Int),h)=C7 (fun s:Int×Int=>H0.l1 l s.1 s.2) ((k:Int),h)
 | 0,k,h,hn,hk,hd=>by
  have e1:Cu.l1 l (k:Int) h=some (.done h):=by unfold Cu.l1;rw [Al,Ac (by omega)]
  have e2:H0.l1 l (k:Int) h=some (.done h):=by unfold H0.l1;rw [Al,Ac (by omega)]
  rw [Bm (m:=fun s:Int×Int=>Cu.l1 l s.1 s.2) e1,Bm (m:=fun s:Int×Int=>H0.l1 l s.1 s.2) e2]
 | n+1,k,h,hn,hk,hd=>by
  have hk:k < l.length:=by omega
  have hb:(l[k].toNat:Int) < 256:=by have:=l[k].toNat_lt;omega
  obtain ⟨r,h1,⟨h2,h3⟩,h4⟩:=next_ref (z:=(l[k].toNat:Int)+1) (f:=257) hd ⟨by omega,by omega⟩ (by decide)
  have e1:Cu.l1 l (k:Int) h=some (.next (((k+1:Nat):Int),(r+((l[k].toNat:Int)+1)) % 2305843009213693951)):=by
   unfold Cu.l1
   rw [Al,Ad (by omega),Bg hk,Aa,Br (by omega) (by omega),Aa,times_f hd (by decide) (by decide),h1,Aa,Br (by omega) (by omega),Aa,Br (by omega) (by omega),Aa,
    Wd (by omega) (by decide),Aa,Br (by omega) (by omega),Aa,Int.add_assoc];rfl
  have e2:H0.l1 l (k:Int) h=some (.next (((k+1:Nat):Int),(r+((l[k].toNat:Int)+1)) % 2305843009213693951)):=by
   unfold H0.l1;rw [Al,Ad (by omega),Bg hk,Aa,Br (by omega) (by omega),Aa,Br (by omega) (by omega),Aa,h4,Aa,Br (by omega) (by omega),Aa];rfl
  rw [Bz (m:=fun s:Int×Int=>Cu.l1 l s.1 s.2) e1,Bz (m:=fun s:Int×Int=>H0.l1 l s.1 s.2) e2];exact of_iter l hl n (k+1) _ (by omega) (by omega) dig_mod
theorem DigestOf_f {l:List UInt8} (hl:l.length≤4096) {d:Int} {f:Fault} (h:H0 l=some (d,f)):Cu l=some d:=by
 unfold H0 at h;rw [Al,Ac (by omega)] at h
 unfold Cu;have:=of_iter l hl _ 0 1 rfl (Cs _) ⟨by decide,by decide⟩
 rw [show ((0:Nat):Int)=0 from rfl] at this;rw [this];generalize C7 (fun s:Int×Int=>H0.l1 l s.1 s.2) (0,1)=x at h;cases x with
 | none=>cases h
 | some v=>rw [Aa] at h ⊢;unfold H0.j1 at h;cases h;rfl
theorem Pair_pair {a b:Int} (ha:Dig a) (hb:Dig b):Gp a b=(N1 a b).bind fun y=>some (y,⟨0,0⟩):=by
 unfold Gp
 have s0:Gp.l1 a b 0=some (.next 1):=by
  unfold Gp.l1;rw [Al,Ad (by decide),show at? [a,b] 0=some a from rfl,Aa,is_eq ha,Aa,Ac (by decide),Br (by decide) (by decide),Aa];rfl
 have s1:Gp.l1 a b 1=some (.next 2):=by
  unfold Gp.l1;rw [Al,Ad (by decide),show at? [a,b] 1=some b from rfl,Aa,is_eq hb,Aa,Ac (by decide),Br (by decide) (by decide),Aa];rfl
 have s2:Gp.l1 a b 2=some (.done (.inr ())):=by
  unfold Gp.l1;rw [Al,Ac (by decide)]
 rw [Bz s0,Bz s1,Bm s2,Aa]
theorem DigestPair_f {a b r:Int} {f:Fault} (ha:Dig a) (hb:Dig b) (h:Gp a b=some (r,f)):Dy a b=some r:=by
 rw [Pair_pair ha hb] at h;obtain ⟨r1,a1,⟨a2,a3⟩,a4⟩:=next_ref (z:=7) (f:=31) hb ⟨by decide,by decide⟩ (by decide)
 obtain ⟨r2,b1,⟨b2,b3⟩,b4⟩:=next_ref (z:=(r1+7) % 2305843009213693951) (f:=1000003) ha ⟨by omega,by omega⟩ (by decide)
 have e:N1 a b=some ((r2+(r1+7) % 2305843009213693951) % 2305843009213693951):=by
  unfold N1;rw [a4,Aa,b4,Aa]
 rw [e,Aa] at h;cases h;unfold Dy;rw [times_f ha (by decide) (by decide),b1,Aa,times_f hb (by decide) (by decide),a1,Aa,Br (by omega) (by omega),Aa,Br (by omega) (by omega),Aa,Wd (by omega) (by decide),Aa]
 congr 1;omega
end Go.Dc
