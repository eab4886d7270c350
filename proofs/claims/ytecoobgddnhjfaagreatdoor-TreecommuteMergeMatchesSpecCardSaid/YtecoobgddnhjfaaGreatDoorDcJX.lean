import Derived.Test.YtecoobgddnhjfaaGreatDoorDcPS
import Derived.Test.YtecoobgddnhjfaaGreatDoorDcM
import Derived.Lib.IndexAny
import Derived.Test.YtecoobgddnhjfaaGreatDoorDcRS
set_option linter.unusedSimpArgs false
set_option linter.unusedVariables false
set_option maxRecDepth 4000
namespace Go.Dc
open Go
def lcs:Ac→Ac→Nat
 | [],_=>0
 | _::_,[]=>0
 | x::a,y::b=>if x=y then lcs a b+1 else max (lcs a (y::b)) (lcs (x::a) b)
 termination_by a b=>a.length+b.length
def N0:Ac→Ac→List Int
 | [],[]=>[]
 | [],_::b=>2::N0 [] b
 | _::a,[]=>1::N0 a []
 | x::a,y::b=>if x=y then 0::N0 a b else if lcs a (y::b) ≥ lcs (x::a) b then 1::N0 a (y::b) else 2::N0 (x::a) b
 termination_by a b=>a.length+b.length
theorem V1 (a:Ac):lcs a []=0:=by cases a <;> simp [lcs]
theorem lcs_nil_l (b:Ac):lcs [] b=0:=by simp [lcs]
theorem Wn (x y:ByteArray) (a b:Ac):lcs (x::a) (y::b)=if x=y then lcs a b+1 else max (lcs a (y::b)) (lcs (x::a) b):=by rw [lcs]
theorem lcs_le:∀ (a b:Ac),lcs a b≤a.length∧lcs a b≤b.length
 | [],b=>by simp [lcs]
 | _::_,[]=>by simp [lcs]
 | x::a,y::b=>by
  rw [Wn];have h1:=lcs_le a b;have h2:=lcs_le a (y::b);have h3:=lcs_le (x::a) b;simp only [Ew] at *;split <;> omega
 termination_by a b=>a.length+b.length
theorem place_inj {w p q i j:Nat} (hq:q < w) (hj:j < w) (h:p * w+q=i * w+j):p=i∧q=j:=by
 have h1:(p * w+q) / w=p:=by rw [Nat.mul_comm,Nat.mul_add_div (by omega)];simp [Nat.div_eq_of_lt hq]
 have h2:(i * w+j) / w=i:=by rw [Nat.mul_comm,Nat.mul_add_div (by omega)];simp [Nat.div_eq_of_lt hj]
 have:p=i:=by rw [← h1,← h2,h]
 subst this;exact ⟨rfl,by omega⟩
theorem place_lt {w p q n:Nat} (hq:q < w) (hp:p≤n):p * w+q < (n+1) * w:=by
 have:p * w≤n * w:=A3 _ hp;rw [Cp,Nat.one_mul];omega
def Tab (a b:Ac) (T:List Int) (K:Nat→Nat→Prop):Prop :=
 T.length=(a.length+1) * (b.length+1)∧∀ p q,p≤a.length→q≤b.length→(K p q∨p=a.length∨q=b.length)→T[p * (b.length+1)+q]? = some (lcs (a.drop p) (b.drop q):Int)
section
variable {a b : Ac} (hs : (a.length + 1) * (b.length + 1) * 8 ≤ 140737488355328) include hs
theorem small_w:a.length+1≤140737488355328∧b.length+1≤140737488355328∧(a.length+1) * (b.length+1)≤140737488355328:=by
 have h1:a.length+1≤(a.length+1) * (b.length+1):=Nat.le_mul_of_pos_right _ (by omega)
 have h2:b.length+1≤(a.length+1) * (b.length+1):=Nat.le_mul_of_pos_left _ (by omega)
 omega
theorem at_place {T:List Int} {K:Nat→Nat→Prop} (h:Tab a b T K) {p q:Nat} (hp:p≤a.length) (hq:q≤b.length) (hk:K p q∨p=a.length∨q=b.length) :
  Ni p q T (b.length+1:Nat)=some (lcs (a.drop p) (b.drop q):Int):=by
 obtain ⟨s1,s2,s3⟩:=small_w hs;have hlt:=place_lt (w:=b.length+1) (q:=q) (n:=a.length) (by omega) hp
 have e:((p:Int) * ((b.length+1:Nat):Int))=((p * (b.length+1):Nat):Int):=by rw [Int.natCast_mul]
 unfold Ni;rw [e,Df (by omega) (by omega)]
 simp only [Aa];rw [show ((p * (b.length+1):Nat):Int)+(q:Int)=((p * (b.length+1)+q:Nat):Int) from by omega,Df (by omega) (by omega)]
 simp only [Aa];have:=h.2 p q hp hq hk;have hl:p * (b.length+1)+q < T.length:=by rw [h.1];exact hlt
 rw [Ch hl];rw [Bv hl] at this;simpa using this
set_option linter.unusedVariables false in omit hs in
theorem tab_set {T:List Int} {K:Nat→Nat→Prop} (h:Tab a b T K) {i j:Nat} (hi:i < a.length) (hj:j < b.length) {x:Int} (hx:x=lcs (a.drop i) (b.drop j)) :
  Tab a b (T.set (i * (b.length+1)+j) x) (fun p q=>K p q∨(p=i∧q=j)):=by
 refine ⟨by rw [List.length_set];exact h.1,fun p q hp hq hk=>?_⟩
 by_cases he:p=i∧q=j
 ·obtain ⟨rfl,rfl⟩:=he;have hlt:=place_lt (w:=b.length+1) (q:=q) (n:=a.length) (by omega) hp
  rw [List.getElem?_set_self (by rw [h.1];exact hlt),hx]
 ·have hne:i * (b.length+1)+j≠p * (b.length+1)+q:=by
   intro e;obtain ⟨h1,h2⟩:=place_inj (by omega) (by omega) e
   exact he ⟨h1.symm,h2.symm⟩
  rw [List.getElem?_set_ne hne];refine h.2 p q hp hq ?_;rcases hk with (hk | hk) | hk
  ·exact .inl hk
  ·exact absurd hk he
  ·exact .inr hk
set_option linter.unusedVariables false in omit hs in
theorem M2 {l:Ac} {i:Nat} (h:i < l.length):l.drop i=l[i]::l.drop (i+1):=Eb h
theorem row_eq {i:Nat} (hi:i < a.length) {T:List Int} (h:Tab a b T (fun p _=>i < p)) :
  ∃ T',Eo (fun s=>Ee.l3 a b (b.length+1:Nat) i s.1 s.2) ((b.length:Int) - 1,T)=some T'∧Tab a b T' (fun p _=>i≤p):=by
 obtain ⟨s1,s2,s3⟩:=small_w hs;refine Y3 (fun s=>∃ k:Nat,k≤b.length∧s.1=(k:Int) - 1∧Tab a b s.2 (fun p q=>i < p∨(p=i∧k≤q))) (fun s=>(s.1+1).toNat) _ ?_ _ ⟨b.length,C1 _,rfl,?_⟩
 ·rintro ⟨x,T⟩ ⟨k,hk,hx,hT⟩;simp only at hx;subst hx;unfold Ee.l3;rw [A5];cases k with
  | zero =>
   rw [Ae (by omega)]
   refine .inr ⟨T,rfl,hT.1,fun p q hp hq hk=>hT.2 p q hp hq ?_⟩;rcases hk with hk | hk
   ·rcases Ht hk with h | h
    ·exact .inl (.inl h)
    ·exact .inl (.inr ⟨h.symm,D3 _⟩)
   ·exact .inr hk
  | succ k =>
   have hkb:k < b.length:=hk;rw [Af (by omega)]
   rw [show ((k+1:Nat):Int) - 1=(k:Int) from by omega]
   rw [Df (by omega) (by omega)]
   simp only [Aa];rw [show ((i:Int)+1)=((i+1:Nat):Int) from by omega,at_place hs hT (p:=i+1) (q:=k) (by omega) (by omega) (.inl (.inl (by omega)))]
   simp only [Aa];rw [Df (by omega) (by omega)]
   simp only [Aa];rw [show ((k:Int)+1)=((k+1:Nat):Int) from by omega,at_place hs hT (p:=i) (q:=k+1) (by omega) (by omega) (.inl (.inr ⟨rfl,by omega⟩))]
   simp only [Aa];rw [Ch hi];simp only [Aa];rw [Ch hkb];simp only [Aa];have hlt:=place_lt (w:=b.length+1) (q:=k) (n:=a.length) (p:=i) (by omega) (by omega)
   have fin:∀ x:Int,x=lcs (a.drop i) (b.drop k)→∃ s',Ee.j5 (b.length+1:Nat) i k T x=some (.next s')∧(∃ k':Nat,k'≤b.length∧s'.1=(k':Int) - 1∧Tab a b s'.2 (fun p q=>i < p∨(p=i∧k'≤q)))∧(s'.1+1).toNat < (((k:Int))+1).toNat:=by
    intro x hx;have e:((i:Int) * ((b.length+1:Nat):Int))=((i * (b.length+1):Nat):Int):=by rw [Int.natCast_mul]
    unfold Ee.j5;rw [e,Df (by omega) (by omega)]
    simp only [Aa];rw [show ((i * (b.length+1):Nat):Int)+(k:Int)=((i * (b.length+1)+k:Nat):Int) from by omega,Df (by omega) (by omega)]
    simp only [Aa];rw [Ch (by rw [hT.1];exact hlt)]
    simp only [Aa];rw [Df (by omega) (by omega)]
    simp only [Aa];refine ⟨_,rfl,⟨k,by omega,rfl,?_⟩,by simp only;omega⟩
    simp only [Bh];have:=tab_set hT hi hkb hx;refine ⟨this.1,fun p q hp hq hk=>this.2 p q hp hq ?_⟩;rcases hk with (hk | ⟨h1,h2⟩) | hk
    ·exact .inl (.inl (.inl hk))
    ·rcases Ht h2 with h | h
     ·exact .inl (.inl (.inr ⟨h1,h⟩))
     ·exact .inl (.inr ⟨h1,h.symm⟩)
    ·exact .inr hk
   left;rw [A5];by_cases heq:a[i]=b[k]
   ·rw [Af heq];rw [at_place hs hT (p:=i+1) (q:=k+1) (by omega) (by omega) (.inl (.inl (by omega)))]
    simp only [Aa];have hb:=(lcs_le (a.drop (i+1)) (b.drop (k+1))).1;rw [Dg] at hb;rw [Df (by omega) (by omega)]
    simp only [Aa]
    obtain ⟨s',h1,h2,h3⟩:=fin (((lcs (a.drop (i+1)) (b.drop (k+1)):Nat):Int)+1) (by
     rw [M2 hi,M2 hkb,Wn,Af heq];omega)
    exact ⟨s',h1,h2,h3⟩
   ·rw [Ae heq]
    obtain ⟨s',h1,h2,h3⟩:=fin (max ((lcs (a.drop (i+1)) (b.drop k):Nat):Int) ((lcs (a.drop i) (b.drop (k+1)):Nat):Int)) (by
     have e1:=M2 hi;have e2:=M2 hkb;rw [e1,e2,Wn,Ae heq,← e1,← e2]
     omega)
    exact ⟨s',h1,h2,h3⟩
 ·refine ⟨h.1,fun p q hp hq hk=>h.2 p q hp hq ?_⟩;rcases hk with (hk | ⟨_,h2⟩) | hk
  ·exact .inl hk
  ·exact .inr (.inr (by omega))
  ·exact .inr hk
theorem table_eq:∃ T',Eo (fun s=>Ee.l2 a b (b.length+1:Nat) s.1 s.2) ((a.length:Int) - 1,List.replicate ((a.length+1) * (b.length+1)) 0)=some T'∧Tab a b T' (fun _ _=>True):=by
 obtain ⟨s1,s2,s3⟩:=small_w hs;refine Y3 (fun s=>∃ k:Nat,k≤a.length∧s.1=(k:Int) - 1∧Tab a b s.2 (fun p _=>k≤p)) (fun s=>(s.1+1).toNat) _ ?_ _ ⟨a.length,C1 _,rfl,?_⟩
 ·rintro ⟨x,T⟩ ⟨k,hk,hx,hT⟩;simp only at hx;subst hx;unfold Ee.l2;rw [A5];cases k with
  | zero =>
   rw [Ae (by omega)]
   exact .inr ⟨T,rfl,hT.1,fun p q hp hq _=>hT.2 p q hp hq (.inl (D3 _))⟩
  | succ k =>
   rw [Af (by omega),show ((k+1:Nat):Int) - 1=(k:Int) from by omega,Df (by omega) (by omega)]
   simp only [Aa]
   obtain ⟨T',h1,h2⟩:=row_eq hs (i:=k) (by omega) (T:=T) ⟨hT.1,fun p q hp hq hk=>hT.2 p q hp hq (by
    rcases hk with hk | hk
    ·exact .inl hk
    ·exact .inr hk)⟩
   rw [h1];simp only [Aa];unfold Ee.j4 Ee.j3;rw [Df (by omega) (by omega)]
   simp only [Aa];exact .inl ⟨_,rfl,⟨k,by omega,rfl,h2⟩,by simp only;omega⟩
 ·refine ⟨by simp,fun p q hp hq hk=>?_⟩
  have hlt:=place_lt (w:=b.length+1) (q:=q) (n:=a.length) (p:=p) (by omega) hp
  have hz:lcs (a.drop p) (b.drop q)=0:=by
   rcases hk with hk | hk | hk
   ·have:p=a.length:=by omega
    subst this;simp [lcs]
   ·subst hk;simp [lcs]
   ·subst hk;simp [V1]
  rw [hz,List.getElem?_replicate,Af hlt];rfl
theorem sum_small:(a.length+b.length) * 8≤140737488355328:=by
 have:a.length+b.length+1≤(a.length+1) * (b.length+1):=by
  rw [Cp,Nat.mul_add,Nat.mul_one,Nat.one_mul];omega
 omega
theorem script_eq {T:List Int} (hT:Tab a b T (fun _ _=>True)):Eo (fun s=>Ee.l1 a b (b.length+1:Nat) T s.1 s.2.1 s.2.2) (0,0,[])=some (N0 a b):=by
 obtain ⟨s1,s2,s3⟩:=small_w hs;have s4:=sum_small hs;refine iter_eq_of (σ:=Int×Int×List Int) (fun s=>∃ i j:Nat,i≤a.length∧j≤b.length∧s.1=(j:Int)∧s.2.1=(i:Int)∧s.2.2.length≤i+j∧s.2.2++N0 (a.drop i) (b.drop j)=N0 a b) (fun s=>(a.length+b.length) - (s.1.toNat+s.2.1.toNat)) _ ?_ _ ⟨0,0,D3 _,D3 _,rfl,rfl,by simp,by simp⟩
 rintro ⟨x,y,out⟩ ⟨i,j,hi,hj,hx,hy,hl,hout⟩;simp only at hx hy hl hout ⊢;subst hx;subst hy;unfold Ee.l1;simp only [A5];by_cases hend:i=a.length∧j=b.length
 ·obtain ⟨rfl,rfl⟩:=hend;right;rw [Ae (by omega)]
  simp only [Aa];rw [Ae (by simp)]
  simp only [List.drop_length] at hout;rw [← hout];simp [N0]
 ·left
  have hgo:(if (i:Int) < (a.length:Int) then some true else some (decide ((j:Int) < (b.length:Int))))=some true:=by
   by_cases h:i < a.length
   ·rw [Af (by omega)]
   ·rw [Ae (by omega),As (by omega)]
  rw [hgo];simp only [Aa,Gi]
  have keepNext:∀ (x:Int) (i' j':Nat),i'≤a.length→j'≤b.length→i+j < i'+j'→out++([x]++N0 (a.drop i') (b.drop j'))=N0 a b →
    ((app? 8 out [x])=some (out++[x]))∧(∃ (i_ j_:Nat),i_≤a.length∧j_≤b.length∧((j':Nat):Int)=j_∧((i':Nat):Int)=i_∧(out++[x]).length≤i_+j_∧(out++[x])++N0 (a.drop i_) (b.drop j_)=N0 a b)∧(a.length+b.length) - (j'+i') < (a.length+b.length) - (j+i):=by
   intro x i' j' h1 h2 h3 h4;refine ⟨Gm (by simp only [Ax];omega),⟨i',j',h1,h2,rfl,rfl,by simp;omega,by rw [Az];exact h4⟩,by omega⟩
  by_cases hia:i < a.length
  ·by_cases hjb:j < b.length
   ·have hda:=M2 hia;have hdb:=M2 hjb
    have hboth:(if (i:Int) < (a.length:Int) then some (decide ((j:Int) < (b.length:Int))) else some false)=some true:=by
     rw [Af (by omega),As (by omega)]
    rw [hboth];simp only [Aa,Gi];rw [Ch hia,Ch hjb];simp only [Aa,Cg];by_cases heq:a[i]=b[j]
    ·rw [Af heq]
     have h4:out++([0]++N0 (a.drop (i+1)) (b.drop (j+1)))=N0 a b:=by
      rw [← hout,hda,hdb]
      conv=>rhs;rw [N0]
      rw [Af heq];rfl
     obtain ⟨e1,e2,e3⟩:=keepNext 0 (i+1) (j+1) (by omega) (by omega) (by omega) h4
     rw [e1];simp only [Aa];rw [Df (by omega) (by omega)]
     simp only [Aa];rw [Df (by omega) (by omega)]
     simp only [Aa];exact ⟨_,rfl,e2,by simp only;omega⟩
    ·rw [Ae heq];have hjn:¬ ((j:Int)=(b.length:Int)):=by omega
     rw [Ae hjn,Af (by omega),Df (by omega) (by omega)]
     simp only [Aa];rw [show ((i:Int)+1)=((i+1:Nat):Int) from by omega,at_place hs hT (p:=i+1) (q:=j) (by omega) (by omega) (.inl trivial)]
     simp only [Aa];rw [Df (by omega) (by omega)]
     simp only [Aa];rw [show ((j:Int)+1)=((j+1:Nat):Int) from by omega,at_place hs hT (p:=i) (q:=j+1) (by omega) (by omega) (.inl trivial)]
     simp only [Aa,Cg];by_cases hge:((lcs (a.drop (i+1)) (b.drop j):Nat):Int) ≥ ((lcs (a.drop i) (b.drop (j+1)):Nat):Int)
     ·rw [Af hge]
      have h4:out++([1]++N0 (a.drop (i+1)) (b.drop j))=N0 a b:=by
       rw [← hout]
       conv=>rhs;rw [hda,hdb,N0]
       rw [Ae heq,← hda,← hdb,Af (by omega)];rfl
      obtain ⟨e1,e2,e3⟩:=keepNext 1 (i+1) j (by omega) (by omega) (by omega) h4
      rw [e1];simp only [Aa];exact ⟨_,rfl,e2,by simp only;omega⟩
     ·rw [Ae hge]
      have h4:out++([2]++N0 (a.drop i) (b.drop (j+1)))=N0 a b:=by
       rw [← hout]
       conv=>rhs;rw [hda,hdb,N0]
       rw [Ae heq,← hda,← hdb,Ae (by omega)];rfl
      obtain ⟨e1,e2,e3⟩:=keepNext 2 i (j+1) (by omega) (by omega) (by omega) h4
      rw [e1];simp only [Aa];exact ⟨_,rfl,e2,by simp only;omega⟩
   ·
    have hj':j=b.length:=by omega
    subst hj';have hda:=M2 hia
    have hboth:(if (i:Int) < (a.length:Int) then some (decide ((b.length:Int) < (b.length:Int))) else some false)=some false:=by
     rw [Af (by omega),Ao (by omega)]
    rw [hboth];simp only [Aa,Cl,Eh,Gi]
    have h4:out++([1]++N0 (a.drop (i+1)) (b.drop b.length))=N0 a b:=by
     rw [← hout,hda,List.drop_length]
     conv=>rhs;rw [N0]
     rfl
    obtain ⟨e1,e2,e3⟩:=keepNext 1 (i+1) b.length (by omega) (by omega) (by omega) h4
    rw [e1];simp only [Aa];rw [Df (by omega) (by omega)]
    simp only [Aa];exact ⟨_,rfl,e2,by simp only;omega⟩
  ·have hi':i=a.length:=by omega
   subst hi';have hjb:j < b.length:=by omega
   have hdb:=M2 hjb
   have hboth:(if (a.length:Int) < (a.length:Int) then some (decide ((j:Int) < (b.length:Int))) else some false)=some false:=by
    rw [Ae (by omega)]
   rw [hboth];simp only [Aa,Cl,Eh];rw [Ae (show ¬ ((j:Int)=(b.length:Int)) by omega),Ae (show ¬ ((a.length:Int) < (a.length:Int)) by omega)]
   simp only [Aa,Cl,Eh]
   have h4:out++([2]++N0 (a.drop a.length) (b.drop (j+1)))=N0 a b:=by
    rw [← hout,hdb,List.drop_length]
    conv=>rhs;rw [N0]
    rfl
   obtain ⟨e1,e2,e3⟩:=keepNext 2 a.length (j+1) (by omega) (by omega) (by omega) h4
   rw [e1];simp only [Aa];rw [Df (by omega) (by omega)]
   simp only [Aa];exact ⟨_,rfl,e2,by simp only;omega⟩
theorem align_eq:Ee a b=some (N0 a b):=by
 obtain ⟨s1,s2,s3⟩:=small_w hs;have c1:ckK .i64 ((b.length:Int)+1)=some (((b.length+1:Nat)):Int):=Df (by omega) (by omega)
 have c2:ckK .i64 ((a.length:Int)+1)=some (((a.length+1:Nat)):Int):=Df (by omega) (by omega)
 have c3:ckK .i64 ((((a.length+1:Nat)):Int) * (((b.length+1:Nat)):Int))=some (((a.length+1) * (b.length+1):Nat):Int):=by
  rw [← Int.natCast_mul];exact Df (by omega) (by omega)
 have c4:mk? 8 ((((a.length+1) * (b.length+1):Nat)):Int) (0:Int)=some (List.replicate ((a.length+1) * (b.length+1)) 0):=by
  rw [mk_eq (Int.natCast_nonneg _) (by omega),Bh]
 have c5:ckK .i64 ((a.length:Int) - 1)=some ((a.length:Int) - 1):=Df (by omega) (by omega)
 obtain ⟨T,h1,h2⟩:=table_eq hs;have h3:=script_eq hs h2;unfold Ee;rw [c1,Aa,c2,Aa,c3,Aa,c4,Aa,c5,Aa,h1,Aa];unfold Ee.j1 Ee.j2;rw [h3,Aa]
end
def V4 (s:ByteArray):Prop:=s.size≤80∧idxB s 10 < 0
def Ll (l:Ac):Prop:=l.length≤120∧∀ s∈l,V4 s
theorem not_okText {l:Ac} {k:Nat} (h:k < l.length) (hs:¬ V4 l[k]):¬ Ll l:=fun ⟨_,hl⟩=>hs (hl _ (Bn h))
theorem validate_eq (l:Ac):∃ f,Gd l=some f∧((f=⟨0,0⟩∧Ll l)∨(f.Code≠0∧¬ Ll l)):=by
 unfold Gd;rw [A5];by_cases h120:(l.length:Int) > 120
 ·rw [Af h120];exact ⟨_,rfl,.inr ⟨by simp,fun h=>by have:=h.1;omega⟩⟩
 ·rw [Ae h120]
  obtain ⟨r,h1,h2⟩:=Y3 (m:=fun s=>Gd.l1 l s) (fun s=>∃ k:Nat,s=(k:Int)∧k≤l.length∧∀ q (hq:q < l.length),q < k→V4 l[q]) (fun s=>l.length - s.toNat)
   (fun r=>(r=.inr ()∧Ll l)∨∃ f,r=.inl f∧f.Code≠0∧¬ Ll l) (by
    rintro s ⟨k,rfl,hk,hall⟩;unfold Gd.l1;rw [A5];by_cases hlt:k < l.length
    ·rw [Af (by omega),Ch hlt,Aa,A5]
     by_cases h80:(l[k].size:Int) > 80
     ·rw [Af h80];exact .inr ⟨_,rfl,.inr ⟨_,rfl,by simp,not_okText hlt (fun h=>by have:=h.1;omega)⟩⟩
     ·rw [Ae h80];unfold O6 L9;simp only [Aa,A5];by_cases h10:idxB l[k] 10 ≥ 0
      ·rw [Af h10];exact .inr ⟨_,rfl,.inr ⟨_,rfl,by simp,not_okText hlt (fun h=>by have:=h.2;omega)⟩⟩
      ·rw [Ae h10,Df (by omega) (by omega),Aa]
       refine .inl ⟨_,rfl,⟨k+1,by omega,hlt,fun q hq hqk=>?_⟩,by omega⟩
       by_cases he:q=k
       ·subst he;exact ⟨by omega,by omega⟩
       ·exact hall q hq (by omega)
    ·rw [Ae (by omega)]
     refine .inr ⟨_,rfl,.inl ⟨rfl,by omega,fun s hs=>?_⟩⟩
     obtain ⟨q,hq,rfl⟩:=Da hs;exact hall q hq (by omega)) 0 ⟨0,rfl,D3 _,fun q hq h=>absurd h (by omega)⟩
  rw [h1,Aa];rcases h2 with ⟨rfl,h⟩ | ⟨f,rfl,h,h'⟩
  ·exact ⟨_,rfl,.inl ⟨rfl,h⟩⟩
  ·exact ⟨_,rfl,.inr ⟨h,h'⟩⟩
theorem Yy {f:Fault}:(!(decide (f.Code=0) && decide (f.Index=0)))=true↔¬ (f.Code=0∧f.Index=0):=by
 by_cases h:f.Code=0 <;> by_cases h':f.Index=0 <;> simp [h,h']
theorem Zp (a b:Ac) (hb:a.length≤1000000):D8 a b=some (decide (a=b)):=by
 unfold D8;rw [L5];by_cases hl:(a.length:Int)=(b.length:Int)
 ·rw [Af hl];have hl':a.length=b.length:=by omega
  obtain ⟨r,h1,h2⟩:=Y3 (m:=fun s=>D8.l1 a b s) (fun s=>∃ k:Nat,s=(k:Int)∧k≤a.length∧a.take k=b.take k) (fun s=>a.length - s.toNat)
   (fun r=>(r=.inr ()∧a=b)∨(r=.inl false∧a≠b)) (by
    rintro s ⟨k,rfl,hk,hall⟩;unfold D8.l1;rw [A5];by_cases hlt:k < a.length
    ·rw [Af (by omega),Ch hlt,Aa,Ch (by omega),Aa,L5]
     by_cases he:a[k]=b[k]
     ·rw [Af he,Df (by omega) (by omega),Aa]
      exact .inl ⟨_,rfl,⟨k+1,by omega,hlt,by rw [Bg hlt,Bg (by omega),hall,he]⟩,by omega⟩
     ·rw [Ae he];exact .inr ⟨_,rfl,.inr ⟨rfl,fun h=>he (by subst h;rfl)⟩⟩
    ·rw [Ae (by omega)]
     refine .inr ⟨_,rfl,.inl ⟨rfl,?_⟩⟩;rw [D0 (by omega),D0 (by omega)] at hall
     exact hall) 0 ⟨0,rfl,D3 _,by simp⟩
  rw [h1,Aa];rcases h2 with ⟨rfl,h⟩ | ⟨rfl,h⟩
  ·rw [As h];rfl
  ·rw [Ao h]
 ·rw [Ae hl,Ao (fun h=>hl (by rw [h]))]
def orL {α:Type}:Option α→α ⊕ Unit
 | some x=>.inl x
 | Option.none=>.inr ()
theorem Me {α:Type} {l r:List α} {x:α} {k:Nat} (h:l.drop k=x::r):∃ hk:k < l.length,l[k]=x∧l.drop (k+1)=r:=by
 have hk:k < l.length:=by
  rcases Gc k l.length with h' | h'
  ·exact h'
  ·rw [L4 h'] at h;cases h
 rw [Eb hk] at h;exact ⟨hk,(List.cons.inj h).1,(List.cons.inj h).2⟩
theorem L3 {α:Type} {l:List α} {k:Nat} (h:l.drop k=[]):l.length≤k:=by simpa using h
def hasNL (s:ByteArray):Bool:=s.data.toList.contains 10
theorem idxB_nl (s:ByteArray):decide (idxB s 10 ≥ 0)=hasNL s:=by
 unfold hasNL idxB;rw [Lib.contains_iff_indexByte];rfl
def tscan:Int→Ac→Option Fault
 | _,[]=>Option.none
 | i,s::r=>if s.size > 80 then some ⟨2,i⟩ else if hasNL s then some ⟨5,i⟩ else tscan (i+1) r
def Cq (l:Ac):Fault:=if l.length > 120 then ⟨2,-1⟩ else (tscan 0 l).getD ⟨0,0⟩
theorem V3 (l:Ac):Gd l=some (Cq l):=by
 unfold Gd Cq;rw [A5];by_cases h120:l.length > 120
 ·rw [Af (by omega),Af h120]
 ·rw [Ae (by omega),Ae h120]
  have key:∀ (rest:Ac) (k:Nat),l.drop k=rest→Eo (fun s=>Gd.l1 l s) (k:Int)=some (orL (tscan k rest)):=by
   intro rest
   induction rest with
   | nil =>
    intro k hk;have:=L3 hk;refine B5 ?_;unfold Gd.l1;rw [A5,Ae (by omega)];rfl
   | cons s r ih =>
    intro k hk;obtain ⟨hlt,hs,hr⟩:=Me hk
    have e1:Gd.l1 l (k:Int)=if s.size > 80 then some (Step.done (.inl ⟨2,(k:Int)⟩)) else if hasNL s then some (Step.done (.inl ⟨5,(k:Int)⟩)) else some (Step.next ((k:Int)+1)):=by
     unfold Gd.l1 O6 L9;simp (disch:=omega) only [Ch hlt,hs,Aa,Df,Af,← idxB_nl,Cg];by_cases h:s.size > 80
     ·rw [Af (by omega),Af h]
     ·rw [Ae (by omega),Ae h]
    rw [tscan];by_cases h80:s.size > 80
    ·rw [Af h80] at e1 ⊢;exact B5 e1
    ·rw [Ae h80] at e1 ⊢;cases hn:hasNL s with
     | true=>rw [hn,Af rfl] at e1;exact B5 e1
     | false =>
      rw [hn,Ae (by decide)] at e1
      have:=ih (k+1) hr;rw [C0 e1];exact this
  have:=key l 0 rfl;simp only [Int.natCast_zero] at this;rw [show (0:Int)=((0:Nat):Int) from rfl] at *;rw [key l 0 rfl,Aa];cases tscan ((0:Nat):Int) l <;> rfl
theorem sAt_nat {s:ByteArray} {k:Nat} (h:k < s.size):sAt? s (k:Int)=some ((s[k].toNat:Nat):Int):=by
 unfold sAt?;rw [Af (by omega)]
 simp [h]
theorem linesFault_f (l:Ac):Bq l=some (Cq l):=by
 unfold Bq Cq B7;rw [A5];by_cases h120:l.length > 120
 ·rw [Af (by omega),Af h120];rfl
 ·rw [Ae (by omega),Ae h120]
  have key:∀ (rest:Ac) (k:Nat),l.drop k=rest→Eo (fun s=>Bq.l1 l s) (k:Int)=some (orL (tscan k rest)):=by
   intro rest
   induction rest with
   | nil =>
    intro k hk;have:=L3 hk;refine B5 ?_;unfold Bq.l1;rw [A5,Ae (by omega)];rfl
   | cons s r ih =>
    intro k hk;obtain ⟨hlt,hs,hr⟩:=Me hk;rw [tscan];by_cases h80:s.size > 80
    ·rw [Af h80];refine B5 ?_;unfold Bq.l1 B7;simp (disch:=omega) only [A5,Ch hlt,hs,Aa,Af];rfl
    ·rw [Ae h80]
     have inner:∀ (tail:List UInt8) (j:Nat),s.data.toList.drop j=tail→Eo (fun q=>Bq.l2 l (k:Int) q) (j:Int)=some (orL (if tail.contains 10 then some ⟨5,(k:Int)⟩ else Option.none)):=by
      intro tail
      induction tail with
      | nil =>
       intro j hj;have:s.data.toList.length≤j:=L3 hj;have hsz:s.data.toList.length=s.size:=by rw [Array.length_toList];rfl
       refine B5 ?_;unfold Bq.l2;simp (disch:=omega) only [A5,Ch hlt,hs,Aa,Ae];rfl
      | cons c tl ih2 =>
       intro j hj;obtain ⟨hj1,hc,htl⟩:=Me hj;have hsz:s.data.toList.length=s.size:=by rw [Array.length_toList];rfl
       have hcc:s[j]'(by omega)=c:=by rw [← hc];rfl
       have e2:Bq.l2 l (k:Int) (j:Int)=if c=10 then some (Step.done (.inl ⟨5,(k:Int)⟩)) else some (Step.next ((j:Int)+1)):=by
        unfold Bq.l2 B7;simp (disch:=omega) only [A5,Ch hlt,hs,Aa,Af,sAt_nat,hcc,Df];by_cases h10:c=10
        ·rw [Af h10,Af (by rw [h10];rfl)]
        ·rw [Ae h10,Ae (fun h=>h10 (by
          have:c.toNat=10:=by omega
          exact UInt8.toNat_inj.1 this))]
       by_cases h10:c=10
       ·rw [Af h10] at e2;rw [B5 e2,h10];simp [orL]
       ·rw [Ae h10] at e2;rw [C0 e2]
        have hcn:(c::tl).contains 10=tl.contains 10:=by
         simp;exact fun h=>absurd h.symm h10
        rw [hcn];exact ih2 (j+1) htl
     have e0:=inner s.data.toList 0 rfl
     have e1:Bq.l1 l (k:Int)=if hasNL s then some (Step.done (.inl ⟨5,(k:Int)⟩)) else some (Step.next ((k:Int)+1)):=by
      unfold Bq.l1 Bq.j3 Bq.j2;rw [show (0:Int)=((0:Nat):Int) from rfl,e0];simp (disch:=omega) only [A5,Ch hlt,hs,Aa,Af,Ae,Df];unfold hasNL;cases s.data.toList.contains 10 <;> rfl
     cases hn:hasNL s with
     | true=>rw [hn,Af rfl] at e1;exact B5 e1
     | false =>
      rw [hn,Ae (by decide)] at e1
      rw [C0 e1];exact ih (k+1) hr
  rw [show (0:Int)=((0:Nat):Int) from rfl,key l 0 rfl,Aa];cases tscan ((0:Nat):Int) l <;> rfl
theorem N7 (l:Ac):Ea l=some (Cq l).Code:=by
 unfold Ea;rw [linesFault_f];rfl
theorem tscan_code:∀ (l:Ac) (i:Int) (f:Fault),tscan i l=some f→f.Code≠0
 | [],_,_,h=>by cases h
 | s::r,i,f,h=>by
  rw [tscan] at h;split at h
  ·cases h;show (2:Int)≠0;decide
  ·split at h
   ·cases h;show (5:Int)≠0;decide
   ·exact tscan_code r _ f h
theorem Q3 (l:Ac):Cq l=⟨0,0⟩∨(Cq l).Code≠0:=by
 unfold Cq;split
 ·right;decide
 ·cases h:tscan 0 l with
  | none=>left;rfl
  | some f=>right;exact tscan_code l 0 f h
theorem H4 (l:Ac):Cq l=⟨0,0⟩↔(Cq l).Code=0:=by
 rcases Q3 l with h | h
 ·rw [h];exact ⟨fun _=>rfl,fun _=>rfl⟩
 ·constructor
  ·intro h2;rw [h2]
  ·intro h2;exact absurd h2 h
theorem Lo (l:Ac):Ll l↔Cq l=⟨0,0⟩:=by
 obtain ⟨f,h1,h2⟩:=validate_eq l;rw [V3] at h1;cases h1;rcases h2 with ⟨h3,h4⟩ | ⟨h3,h4⟩
 ·exact ⟨fun _=>h3,fun _=>h4⟩
 ·exact ⟨fun h=>absurd h h4,fun h=>absurd (by rw [h]) h3⟩
theorem second_f (l:Ac) (i:Int):Nc l i=some (if (Cq l).Code=0 then ⟨0,0⟩ else ⟨(Cq l).Code,i⟩):=by
 unfold Nc;rw [V3,Aa];rcases Q3 l with h | h
 ·rw [h];rfl
 ·rw [Af (Yy.2 fun h2=>h h2.1),Ae h]
theorem okText_small {a b:Ac} (ha:Ll a) (hb:Ll b):(a.length+1) * (b.length+1) * 8≤140737488355328:=by
 have h1:a.length+1≤121:=by have:=ha.1;omega
 have h2:b.length+1≤121:=by have:=hb.1;omega
 have:=Tq h1 h2;omega
theorem Xv:∀ a b:Ac,lcs a b=lcs b a
 | [],b=>by rw [lcs_nil_l,V1]
 | _::_,[]=>by rw [lcs_nil_l,V1]
 | x::a,y::b=>by
  rw [Wn,Wn,Xv a b,Xv a (y::b),Xv (x::a) b];by_cases h:x=y
  ·subst h;simp
  ·rw [Ae h,Ae (fun e=>h e.symm),Nat.max_comm]
 termination_by a b=>a.length+b.length
end Go.Dc
set_option linter.unusedSimpArgs false
set_option linter.unusedVariables false
set_option maxRecDepth 4000
namespace Go.Dc
open Go
theorem orB (b c:Bool):(if b=true then some true else some c)=some (b || c):=by cases b <;> rfl
theorem andB (b c:Bool):(if b=true then some c else some false)=some (b && c):=by cases b <;> rfl
def bts (s:ByteArray):List UInt8:=s.data.toList
def str (l:List UInt8):ByteArray:=⟨l.toArray⟩
theorem Q7 (s:ByteArray):(bts s).length=s.size:=rfl
@[simp] theorem bts_str (l : List UInt8) : bts (str l) = l := by simp [bts, str]
@[simp] theorem Yj (s : ByteArray) : str (bts s) = s := by cases s; simp [bts, str]
@[simp] theorem Td (l : List UInt8) : (str l).size = l.length := by rw [← Q7, bts_str]
theorem str_inj {a b:List UInt8} (h:str a=str b):a=b:=by rw [← bts_str a,h,bts_str]
theorem str_dec (a b:List UInt8):decide (str a=str b)=decide (a=b):=D4.2 ⟨str_inj,fun h=>by rw [h]⟩
theorem bts_inj {a b:ByteArray} (h:bts a=bts b):a=b:=by rw [← Yj a,h,Yj]
theorem sAt_str {l:List UInt8} {k:Nat} (h:k < l.length):sAt? (str l) (k:Int)=some ((l[k].toNat:Nat):Int):=by
 have hk:k < (str l).size:=by rw [Td];exact h
 have:(str l)[k]=l[k]:=by simp [str];rfl
 rw [sAt_nat hk,this];rfl
theorem Y5 {l:List UInt8} {i j:Nat} (h1:i≤j) (h2:j≤l.length):scut? (str l) (i:Int) (j:Int)=some (str ((l.take j).drop i)):=by
 unfold scut?;rw [Af (by rw [Td];omega)]
 congr 1;refine ByteArray.ext ?_;rw [ByteArray.data_extract];refine Array.toList_inj.1 ?_;rw [Array.toList_extract];simp [List.extract_eq_take_drop,str,List.drop_take]
def Zi (c:UInt8):Bool:=(decide (97≤c.toNat) && decide (c.toNat≤122)) || (decide (65≤c.toNat) && decide (c.toNat≤90)) || (decide (48≤c.toNat) && decide (c.toNat≤57)) || decide (c.toNat=46) || decide (c.toNat=95) || decide (c.toNat=45)
theorem letB_slash:Zi 47=false:=by decide
theorem letter_f (c:UInt8):M9 ((c.toNat:Nat):Int)=some (Zi c):=by
 unfold M9 Zi;generalize c.toNat=n;simp only [orB,andB,Aa]
 rw [show decide ((n:Int) ≥ 97)=decide (97≤n) from D4.2 (by omega),show decide ((n:Int)≤122)=decide (n≤122) from D4.2 (by omega),
  show decide ((n:Int) ≥ 65)=decide (65≤n) from D4.2 (by omega),show decide ((n:Int)≤90)=decide (n≤90) from D4.2 (by omega),
  show decide ((n:Int) ≥ 48)=decide (48≤n) from D4.2 (by omega),show decide ((n:Int)≤57)=decide (n≤57) from D4.2 (by omega),
  show decide ((n:Int)=46)=decide (n=46) from D4.2 (by omega),show decide ((n:Int)=95)=decide (n=95) from D4.2 (by omega),
  show decide ((n:Int)=45)=decide (n=45) from D4.2 (by omega)]
theorem pathByte_f (c:UInt8):Nl ((c.toNat:Nat):Int)=some (Zi c):=letter_f c
def badP (p:List UInt8):Bool:=decide (p=[]) || decide (p=[46]) || decide (p=[46,46])
def Wa (p:List UInt8):Bool:=!badP p && p.all Zi
def vp:List UInt8→List UInt8→Bool
 | cur,[]=>Wa cur
 | cur,c::r=>if c=47 then Wa cur && vp [] r else vp (cur++[c]) r
def La (s:ByteArray):Bool:=decide (s.size≤60) && vp [] (bts s)
theorem vp_span:∀ (l cur:List UInt8),vp cur l=match l.dropWhile (· != 47) with
  | []=>Wa (cur++l.takeWhile (· != 47))
  | _::r=>Wa (cur++l.takeWhile (· != 47)) && vp [] r
 | [],cur=>by simp [vp]
 | c::r,cur=>by
  rw [vp];by_cases h:c=47
  ·subst h;rw [Af rfl];simp [List.dropWhile_cons,List.takeWhile_cons]
  ·rw [Ae h,vp_span r (cur++[c])];have:(c != 47)=true:=by simpa using h
   rw [List.dropWhile_cons,List.takeWhile_cons,this,Af rfl,Af rfl,Az,List.singleton_append]
theorem vp_app:∀ (a k b:List UInt8),vp k (a++47::b)=(vp k a && vp [] b)
 | [],k,b=>by simp [vp]
 | c::a,k,b=>by
  rw [List.cons_append,vp,vp];by_cases h:c=47
  ·rw [Af h,Af h,vp_app a [] b,Bool.and_assoc]
  ·rw [Ae h,Ae h,vp_app a _ b]
theorem vp_no:∀ (l k:List UInt8),l.all Zi=true→vp k l=Wa (k++l)
 | [],k,_=>by simp [vp]
 | c::l,k,h=>by
  simp only [List.all_cons,Ec] at h;have hc:¬ c=47:=fun e=>by rw [e,letB_slash] at h;exact absurd h.1 (by decide)
  rw [vp,Ae hc,vp_no l _ h.2,Az,List.singleton_append]
theorem vp_cur:∀ (l k:List UInt8),k.all Zi=false→vp k l=false
 | [],k,h=>by simp [vp,Wa,h]
 | c::l,k,h=>by
  rw [vp];split
  ·simp [Wa,h]
  ·exact vp_cur l _ (by simp [h])
theorem vp_bad:∀ (a k b:List UInt8) (c:UInt8),c≠47→Zi c=false→vp k (a++c::b)=false
 | [],k,b,c,h1,h2=>by
  rw [Bo,vp,Ae h1];exact vp_cur b _ (by simp [h2])
 | d::a,k,b,c,h1,h2=>by
  rw [List.cons_append,vp];split
  ·rw [vp_bad a [] b c h1 h2,Bool.and_false]
  ·exact vp_bad a _ b c h1 h2
theorem letters_f {f:Int→Option (Step Int (Unit ⊕ Unit))} {l:List UInt8} (hl:l.length≤1000)
  (hf:∀ x,f x=if decide (x < ((str l).size:Int))=true then (sAt? (str l) x).bind fun y1=>(M9 y1).bind fun y2=>if (!y2)=true then some (Step.done (Sum.inl ())) else (ckK .i64 (x+1)).bind fun z1=>some (Step.next z1) else some (Step.done (Sum.inr ()))) :
  Eo (fun s=>f s) 0=some (if l.all Zi=true then .inr () else .inl ()):=by
 have key:∀ (r:List UInt8) (k:Nat),l.drop k=r→Eo (fun s=>f s) (k:Int)=some (if r.all Zi=true then .inr () else .inl ()):=by
  intro r
  induction r with
  | nil =>
   intro k hk;have:=L3 hk;refine B5 ?_;rw [hf,A5,Ae (by rw [Td];omega)];rfl
  | cons c r ih =>
   intro k hk;obtain ⟨hlt,hc,hr⟩:=Me hk
   have e:f (k:Int)=if Zi c=true then some (Step.next ((k:Int)+1)) else some (Step.done (.inl ())):=by
    rw [hf,A5,Af (by rw [Td];omega),sAt_str hlt,Aa,hc,letter_f,Aa]
    cases Zi c
    ·rfl
    ·rw [Ae (by decide),Df (by omega) (by omega)];rfl
   cases h:Zi c with
   | false =>
    rw [h,Ae (by decide)] at e
    rw [B5 e];simp [h]
   | true =>
    rw [h,Af rfl] at e;rw [C0 e,show ((k:Int)+1)=((k+1:Nat):Int) from rfl,ih (k+1) hr];simp [h]
 exact key l 0 rfl
theorem bad_f (p:List UInt8):((if decide (str p=(⟨#[]⟩:ByteArray)) then some true else some (decide (str p=(⟨#[46]⟩:ByteArray)))).bind fun x2 =>
  (if x2 then some true else some (decide (str p=(⟨#[46,46]⟩:ByteArray)))))=some (badP p):=by
 rw [show (⟨#[]⟩:ByteArray)=str [] from rfl,show (⟨#[46]⟩:ByteArray)=str [46] from rfl,show (⟨#[46,46]⟩:ByteArray)=str [46,46] from rfl];simp only [orB,Aa,str_dec];rfl
theorem badK_f (p:List UInt8) {β:Type} (K:Bool→Option β):((if decide (str p=(⟨#[]⟩:ByteArray)) then some true else some (decide (str p=(⟨#[46]⟩:ByteArray)))).bind fun x2 =>
  (if x2 then some true else some (decide (str p=(⟨#[46,46]⟩:ByteArray)))).bind K)=K (badP p):=by
 have:=bad_f p;rw [← Option.bind_assoc,this,Aa]
theorem vj1_f {p:List UInt8} (hp:p.length≤1000):Bl.j1 (str p)=some (Wa p):=by
 unfold Bl.j1;rw [badK_f];cases h:badP p with
 | true=>simp [Wa,h,Bl.j2]
 | false =>
  rw [Ae (by decide),letters_f (f:=fun x=>Bl.l1 (str p) x) hp (fun x=>rfl),Aa]
  unfold Wa;rw [h];cases p.all Zi <;> rfl
theorem idx_f (l:List UInt8):Lib.indexByte l 47=match l.dropWhile (· != 47) with
  | []=>-1
  | _::_=>((l.takeWhile (· != 47)).length:Int):=by
 induction l with
 | nil=>rfl
 | cons c r ih =>
  unfold Lib.indexByte;by_cases h:c=47
  ·subst h;simp [List.dropWhile_cons,List.takeWhile_cons]
  ·have h2:(c != 47)=true:=by simpa using h
   rw [List.dropWhile_cons,List.takeWhile_cons,h2,Af rfl,Af rfl];have h3:(c == 47)=false:=by simpa using h
   rw [ih];cases hd:r.dropWhile (· != 47) with
   | nil=>simp [h3,h]
   | cons a b=>simp [h3,h] <;> omega
theorem index_f (l:List UInt8):Uo (str l)=some (Lib.indexByte l 47):=by
 unfold Uo Tp;rw [A5];by_cases h:(⟨#[47]⟩:ByteArray)=str l
 ·rw [Af h];have:l=[47]:=(str_inj (a:=[47]) (b:=l) h).symm;subst this;rfl
 ·rw [Ae h];show (some (idxB (str l) 47)).bind _=_;unfold idxB;rw [show (str l).data.toList=l from bts_str l];rfl
noncomputable def outV:Bool ⊕ ByteArray→Option Bool:=fun r=>match r with
 | .inl p=>some p
 | .inr p=>Bl.j1 p
theorem vp_iter:∀ (n:Nat) (l:List UInt8),l.length < n→l.length≤60→(Eo (fun s=>Bl.l2 s) (str l)).bind outV=some (vp [] l)
 | 0,_,h,_=>absurd h (by omega)
 | n+1,l,hn,hl=>by
  have hi:=idx_f l;have hs:=vp_span l [];have htd:l.takeWhile (· != 47)++l.dropWhile (· != 47)=l:=List.takeWhile_append_dropWhile;have e:Bl.l2 (str l)=Bl.l2 (str l):=rfl
  conv at e=>rhs;unfold Bl.l2
  rw [index_f,Aa] at e;simp only [Bo] at hs;generalize ha:l.takeWhile (· != 47)=a at hi hs htd;cases hd:l.dropWhile (· != 47) with
  | nil =>
   rw [hd] at hi hs htd;simp only at hi hs;simp only [Bx] at htd;rw [hi,Af (by decide)] at e
   rw [B5 e,Aa,hs];rw [htd];exact vj1_f (by omega)
  | cons c r =>
   rw [hd] at hi hs htd
   have hc:c=47:=by
    have:=List.head?_dropWhile_not (fun x:UInt8=>x != 47) l;rw [hd] at this;simpa using this
   subst hc;simp only at hi hs;have hlen:a.length+r.length+1=l.length:=by rw [← htd];simp;omega
   have hcut:scut? (str l) 0 (a.length:Int)=some (str a):=by
    have:=Y5 (l:=l) (i:=0) (j:=a.length) (by omega) (by omega)
    rw [show ((0:Nat):Int)=0 from rfl] at this;rw [this,← htd];simp
   rw [hi,A5,Ae (by omega),Int.add_zero,Df (by omega) (by omega),Aa,hcut,Aa,badK_f] at e
   unfold Wa at hs;cases hb:badP a with
   | true =>
    rw [hb] at e hs;rw [Af rfl] at e;rw [B5 (show _=some (Step.done (Sum.inl false)) from e),hs];rfl
   | false =>
    rw [hb] at e hs;rw [Ae (by decide),letters_f (f:=fun x=>Bl.l3 (str a) x) (by omega) (fun x=>rfl),Aa] at e
    cases hq:a.all Zi with
    | false =>
     rw [hq] at e hs;rw [B5 (show _=some (Step.done (Sum.inl false)) from e),hs];rfl
    | true =>
     rw [hq] at e hs
     have hcut2:scut? (str l) ((a.length:Int)+1) ((str l).size:Int)=some (str r):=by
      have:=Y5 (l:=l) (i:=a.length+1) (j:=l.length) (by omega) (by omega)
      rw [Td];rw [show (((a.length+1:Nat)):Int)=(a.length:Int)+1 from rfl] at this;rw [this,De,← htd];simp
     simp only [Af rfl,Bl.j7,Bl.j6] at e;rw [Df (by omega) (by omega),Aa,hcut2,Aa] at e
     rw [C0 e,vp_iter n r (by omega) (by omega),hs];rfl
theorem ValidPath_f (s:ByteArray):Bl s=some (La s):=by
 unfold Bl La;rw [A5];by_cases h:s.size≤60
 ·rw [Ae (by omega)]
  have:=vp_iter ((bts s).length+1) (bts s) (by omega) (by rw [Q7];exact h)
  rw [Yj] at this;rw [As h,Bool.true_and];exact this
 ·rw [Af (by omega),Ao h];rfl
noncomputable def outR:Bool ⊕ Unit→Option Bool:=fun r=>match r with
 | .inl p=>some p
 | .inr _=>B4.j1
theorem rv_iter:∀ (n:Nat) (l cur suf:List UInt8) (s:List UInt8),l.length=n→s=l++cur++suf→s.length≤60→cur.all Zi=true →
  (Eo (fun x=>B4.l1 (str s) x.1 x.2) ((l.length:Int) - 1,((l.length+cur.length:Nat):Int))).bind outR=some (vp [] (l++cur))
 | 0,l,cur,suf,s,hn,hs,hl,hc=>by
  obtain rfl:l=[]:=Dz hn;simp only [Bo] at hs;have hlen:s.length=cur.length+suf.length:=by rw [hs];simp
  have hcut:scut? (str s) 0 ((cur.length:Nat):Int)=some (str cur):=by
   have:=Y5 (l:=s) (i:=0) (j:=cur.length) (by omega) (by omega)
   rw [show ((0:Nat):Int)=0 from rfl] at this;rw [this,hs];simp
  have e:B4.l1 (str s) (-1) ((cur.length:Nat):Int)=if badP cur=true then some (Step.done (Sum.inl false)) else some (Step.next (-2,-1)):=by
   simp only [B4.l1];rw [Af (by decide),Ae (by decide),Aa,Ae (by decide),show ((-1:Int)+1)=0 from rfl,Df (by omega) (by omega),Aa,hcut,Aa,badK_f]
   cases badP cur
   ·rfl
   ·rfl
  have hv:=vp_no cur [] hc;rw [Bo] at hv ⊢;rw [hv];simp only [G1,Ho];rw [show (((0:Nat):Int) - 1) = -1 from rfl];unfold Wa;rw [hc,Bool.and_true];cases hb:badP cur with
  | true =>
   rw [hb,Af rfl] at e;rw [B5 e];rfl
  | false =>
   rw [hb,Ae (by decide)] at e
   have e2:B4.l1 (str s) (-2) (-1)=some (Step.done (Sum.inr ())):=by
    simp only [B4.l1];rw [Ae (by decide)]
   rw [C0 e,B5 e2];rfl
 | n+1,l,cur,suf,s,hn,hs,hl,hc=>by
  obtain ⟨l',c,rfl⟩:∃ l' c,l=l'++[c]:=by
   rcases Li l with h | ⟨a,b,h⟩
   ·rw [h] at hn;simp at hn
   ·exact ⟨a,b,by simpa using h⟩
  simp only [Av,Ax] at hn ⊢;have hs2:s=l'++c::(cur++suf):=by rw [hs];simp
  have hlen:s.length=l'.length+1+cur.length+suf.length:=by rw [hs];simp;omega
  have hat:sAt? (str s) ((l'.length:Nat):Int)=some ((c.toNat:Nat):Int):=by
   rw [sAt_str (by omega)]
   congr 2;simp [hs2]
  have hx:(((l'.length+1:Nat)):Int) - 1=((l'.length:Nat):Int):=by omega
  rw [hx];have k47:decide (((c.toNat:Nat):Int)=47)=decide (c=47):=D4.2 ⟨fun h=>UInt8.toNat_inj.1 (by have:(47:UInt8).toNat=47:=rfl;omega),fun h=>by rw [h];rfl⟩
  by_cases h47:c=47
  ·
   have hcut:scut? (str s) ((l'.length:Int)+1) (((l'.length+1+cur.length:Nat)):Int)=some (str cur):=by
    have:=Y5 (l:=s) (i:=l'.length+1) (j:=l'.length+1+cur.length) (by omega) (by omega)
    rw [show (((l'.length+1:Nat)):Int)=(l'.length:Int)+1 from rfl] at this;have hs3:s=(l'++[c])++(cur++suf):=by rw [hs];simp
    rw [this,hs3,List.drop_take,List.drop_left' (by simp),show l'.length+1+cur.length - (l'.length+1)=cur.length by omega,List.take_left' rfl]
   have e:B4.l1 (str s) ((l'.length:Nat):Int) (((l'.length+1+cur.length:Nat)):Int)=if badP cur=true then some (Step.done (Sum.inl false)) else some (Step.next ((l'.length:Int) - 1,(l'.length:Int))):=by
    simp only [B4.l1];rw [A5,Af (by omega),A5,Af (by omega),hat,Aa,k47,As h47]
    simp only [G9,Aa];rw [Ae (by decide),Df (by omega) (by omega),Aa,hcut,Aa,badK_f]
    cases badP cur
    ·rw [Ae (by decide),Ae (by decide)]
     unfold B4.j2;rw [Df (by omega) (by omega)];rfl
    ·rfl
   have hv:vp [] (l'++[c]++cur)=(vp [] l' && !badP cur):=by
    rw [Az,List.singleton_append,h47,vp_app,vp_no cur [] hc];unfold Wa;rw [Bo,hc,Bool.and_true]
   rw [hv];cases hb:badP cur with
   | true =>
    rw [hb,Af rfl] at e;rw [B5 e];simp [outR]
   | false =>
    rw [hb,Ae (by decide)] at e
    rw [C0 e];have ih:=rv_iter n l' [] (c::(cur++suf)) s (by omega) (by rw [hs2];simp) hl rfl
    simp only [G1,Eu,Bx] at ih;rw [ih];simp
  ·
   have e:B4.l1 (str s) ((l'.length:Nat):Int) (((l'.length+1+cur.length:Nat)):Int)=if Zi c=true then some (Step.next ((l'.length:Int) - 1,(((l'.length+1+cur.length:Nat)):Int))) else some (Step.done (Sum.inl false)):=by
    simp only [B4.l1];rw [A5,Af (by omega),A5,Af (by omega),hat,Aa,k47,Ao h47]
    simp only [Bool.not_false,Aa];rw [Af trivial,pathByte_f,Aa];cases Zi c
    ·rfl
    ·rw [Ae (by decide),Af rfl]
     unfold B4.j2;rw [Df (by omega) (by omega)];rfl
   cases hb:Zi c with
   | false =>
    rw [hb,Ae (by decide)] at e
    rw [B5 e,Az,List.singleton_append,vp_bad l' [] cur c h47 hb];rfl
   | true =>
    rw [hb,Af rfl] at e;rw [C0 e];have ih:=rv_iter n l' (c::cur) suf s (by omega) (by rw [hs2];simp) hl (by simp [hb,hc])
    rw [show l'.length+(c::cur).length=l'.length+1+cur.length by simp;omega] at ih
    rw [ih];simp
theorem PathValid_f (s:ByteArray):B4 s=some (La s):=by
 unfold B4 La;rw [A5];by_cases h:s.size≤60
 ·rw [Ae (by omega),Df (by omega) (by omega),Aa]
  have:=rv_iter (bts s).length (bts s) [] [] (bts s) rfl (by simp) (by rw [Q7];exact h) rfl
  rw [Yj] at this;simp only [G1,Eu,Bx,Q7] at this;rw [As h,Bool.true_and];exact this
 ·rw [Af (by omega),Ao h];rfl
theorem Mx {s:ByteArray} (h:La s=true):s.size≤60:=by
 unfold La at h;simp only [Ec,Cg] at h;exact h.1
def slb (x y:List UInt8):Bool:=decide (y.take (x.length+1)=x++[47])
def Oj (a b:ByteArray):Bool:=decide (a=b) || slb (bts b) (bts a) || slb (bts a) (bts b)
theorem relB_comm (a b:ByteArray):Oj a b=Oj b a:=by
 unfold Oj;rw [show decide (a=b)=decide (b=a) from D4.2 eq_comm,Bool.or_assoc,Bool.or_assoc,Bool.or_comm (slb (bts b) (bts a))]
theorem relB_self (a:ByteArray):Oj a a=true:=by simp [Oj]
theorem hasPrefix_f (s p:List UInt8):Nx (str s) (str p)=some (decide (s.take p.length=p)):=by
 unfold Nx Oh;rw [A5];by_cases h:p.length≤s.length
 ·have hc:=Y5 (l:=s) (i:=0) (j:=p.length) (by omega) h
  rw [show ((0:Nat):Int)=0 from rfl,List.drop_zero] at hc;rw [Af (by rw [Td,Td];omega),Td,hc]
  simp only [Aa,str_dec]
 ·rw [Ae (by rw [Td,Td];omega)]
  have:¬ s.take p.length=p:=fun e=>by
   have:=congrArg List.length e;simp at this;omega
  rw [Ao this];rfl
theorem cat_str {a b:List UInt8} (h:a.length+b.length≤9223372036854775807):cat? (str a) (str b)=some (str (a++b)):=by
 unfold cat?;rw [Af (by rw [Td,Td];exact h)]
 refine congrArg some (bts_inj ?_);rw [bts_str];show (str a++str b).data.toList=a++b;rw [ByteArray.data_append];simp [str]
theorem Related_f {a b:ByteArray} (ha:a.size≤1000000) (hb:b.size≤1000000):L7 a b=some (Oj a b):=by
 have h1:=cat_str (a:=bts b) (b:=[47]) (by rw [Q7];simp;omega)
 have h2:=cat_str (a:=bts a) (b:=[47]) (by rw [Q7];simp;omega)
 have g1:=hasPrefix_f (bts a) (bts b++[47]);have g2:=hasPrefix_f (bts b) (bts a++[47]);rw [Yj] at h1 h2 g1 g2;unfold L7;rw [show (⟨#[47]⟩:ByteArray)=str [47] from rfl,h1,h2];simp only [Aa];rw [g1,g2];simp only [Aa,orB];unfold Oj slb;simp
theorem rrel_body {a b:ByteArray} (h:a.size≤b.size) (rec:ByteArray→ByteArray→Option Bool):Cs.body rec a b=some (Oj a b):=by
 unfold Cs.body;have hc:=Y5 (l:=bts b) (i:=0) (j:=a.size) (by omega) (by rw [Q7];exact h)
 rw [show ((0:Nat):Int)=0 from rfl,List.drop_zero,Yj] at hc;rw [A5,Ae (by omega),hc,Aa]
 have hn:slb (bts b) (bts a)=false:=by
  unfold slb;refine Ao fun e=>?_;have:=congrArg List.length e;simp [Q7] at this;omega
 unfold Oj;rw [hn,N8];have hd:decide (str ((bts b).take a.size)=a)=decide ((bts b).take a.size=bts a):=D4.2 ⟨fun h=>by have:=congrArg bts h;rwa [bts_str] at this,fun h=>by rw [h,Yj]⟩
 rw [hd,A5];by_cases ht:(bts b).take a.size=bts a
 ·rw [Af ht,A5];by_cases hsz:a.size=b.size
  ·rw [Af (by omega)]
   have:a=b:=bts_inj (by rw [← ht,hsz,← Q7,De])
   rw [As this];rfl
  ·rw [Ae (by omega)]
   have hlt:a.size < (bts b).length:=by rw [Q7];omega
   have hat:=sAt_str hlt;rw [Yj] at hat;rw [hat];have hne:¬ a=b:=fun e=>hsz (by rw [e])
   rw [Ao hne,K1];simp only [Aa];unfold slb;congr 1;refine D4.2 ?_;rw [Q7,Bg hlt,ht];constructor
   ·intro h;rw [show (bts b)[a.size]=47 from UInt8.toNat_inj.1 (by have:(47:UInt8).toNat=47:=rfl;omega)]
   ·intro h;have:=List.append_cancel_left h;simp at this;rw [this];rfl
 ·rw [Ae ht];have h1:¬ a=b:=fun e=>ht (by rw [e,← Q7,De])
  have h2:slb (bts a) (bts b)=false:=by
   unfold slb;refine Ao fun e=>ht ?_;have:=congrArg (List.take a.size) e;rw [List.take_take,Q7,Nat.min_eq_left (by omega),C7 (by rw [Q7];omega)] at this
   rw [this,← Q7,De]
  rw [Ao h1,h2];rfl
theorem Xo (a b:ByteArray):Cs a b=some (Oj a b):=by
 unfold Cs Cs.m;by_cases h:a.size≤b.size
 ·exact rrel_body h _
 ·unfold Cs.body;rw [A5,Af (by omega)]
  unfold Cs.m;rw [rrel_body (by omega),Aa,relB_comm]
theorem bl_irr:∀ x:List UInt8,Op.bytesLess x x=false
 | []=>rfl
 | a::x=>by simp [Op.bytesLess,bl_irr x,UInt8.lt_irrefl]
theorem bl_tri:∀ x y:List UInt8,Op.bytesLess x y=true∨x=y∨Op.bytesLess y x=true
 | [],[]=>.inr (.inl rfl)
 | [],_::_=>.inl rfl
 | _::_,[]=>.inr (.inr rfl)
 | a::x,b::y=>by
  simp only [Op.bytesLess,Gt,Cg,Ec,beq_iff_eq]
  have h0:a=b∨a < b∨b < a:=by
   by_cases h:a=b
   ·exact .inl h
   ·exact .inr (UInt8.lt_or_lt_of_ne h)
  rcases h0 with h | h | h
  ·subst h;rcases bl_tri x y with h | h | h
   ·exact .inl (.inr ⟨rfl,h⟩)
   ·exact .inr (.inl (by rw [h]))
   ·exact .inr (.inr (.inr ⟨rfl,h⟩))
  ·exact .inl (.inl h)
  ·exact .inr (.inr (.inl h))
theorem bl_trans:∀ {x y z:List UInt8},Op.bytesLess x y=true→Op.bytesLess y z=true→Op.bytesLess x z=true
 | x,[],z,h1,h2=>by cases x <;> cases h1
 | x,b::y,[],h1,h2=>by cases h2
 | [],b::y,c::z,h1,h2=>rfl
 | a::x,b::y,c::z,h1,h2=>by
  simp only [Op.bytesLess,Gt,Cg,Ec,beq_iff_eq] at h1 h2 ⊢;rcases h1 with h1 | ⟨rfl,h1⟩
  ·rcases h2 with h2 | ⟨rfl,h2⟩
   ·exact .inl (UInt8.lt_trans h1 h2)
   ·exact .inl h1
  ·rcases h2 with h2 | ⟨rfl,h2⟩
   ·exact .inl h2
   ·exact .inr ⟨rfl,bl_trans h1 h2⟩
theorem cmp_neg:∀ x y:List UInt8,decide (Lib.compareBytes x y < 0)=Op.bytesLess x y
 | [],[]=>rfl
 | [],_::_=>rfl
 | _::_,[]=>rfl
 | a::x,b::y=>by
  unfold Lib.compareBytes Op.bytesLess;by_cases h:a < b
  ·simp [h]
  ·by_cases h2:b < a
   ·have:¬ a=b:=by intro e;subst e;exact h h2
    simp [h,h2,this]
   ·have:a=b:=UInt8.le_antisymm (UInt8.not_lt.1 h2) (UInt8.not_lt.1 h);subst this;simp only [h,Eh,decide_false,K1,beq_self_eq_true,Bool.true_and];exact cmp_neg x y
theorem cmp_zero:∀ x y:List UInt8,(Lib.compareBytes x y=0)↔x=y
 | [],[]=>by simp [Lib.compareBytes]
 | [],_::_=>by simp [Lib.compareBytes]
 | _::_,[]=>by simp [Lib.compareBytes]
 | a::x,b::y=>by
  unfold Lib.compareBytes;by_cases h:a < b
  ·have:¬ a=b:=by intro e;subst e;exact UInt8.lt_irrefl _ h
   simp [h,this]
  ·by_cases h2:b < a
   ·have:¬ a=b:=by intro e;subst e;exact h h2
    simp [h,h2,this]
   ·have:a=b:=UInt8.le_antisymm (UInt8.not_lt.1 h2) (UInt8.not_lt.1 h);subst this;simp only [h,Eh,List.cons.injEq,true_and];exact cmp_zero x y
theorem sLt_bts (a b:ByteArray):sLt a b=Op.bytesLess (bts a) (bts b):=by
 unfold sLt;rw [Xt,Xt];rfl
theorem Tr (a:ByteArray):sLt a a=false:=by rw [sLt_bts];exact bl_irr _
theorem sLt_tri (a b:ByteArray):sLt a b=true∨a=b∨sLt b a=true:=by
 rw [sLt_bts,sLt_bts];rcases bl_tri (bts a) (bts b) with h | h | h
 ·exact .inl h
 ·exact .inr (.inl (bts_inj h))
 ·exact .inr (.inr h)
theorem Xc {a b c:ByteArray} (h1:sLt a b=true) (h2:sLt b c=true):sLt a c=true:=by
 rw [sLt_bts] at *;exact bl_trans h1 h2
theorem Qk {a b:ByteArray} (h:sLt a b=true):sLt b a=false:=by
 cases h2:sLt b a
 ·rfl
 ·have:=Xc h h2;rw [Tr] at this;cases this
theorem sLt_ne {a b:ByteArray} (h:sLt a b=true):a≠b:=by intro e;subst e;rw [Tr] at h;cases h
theorem cmpB_neg (a b:ByteArray):decide (cmpB a b < 0)=sLt a b:=by rw [sLt_bts];exact cmp_neg _ _
theorem cmpB_zero (a b:ByteArray):decide (cmpB a b=0)=decide (a=b):=D4.2 ⟨fun h=>bts_inj ((cmp_zero _ _).1 h),fun h=>(cmp_zero _ _).2 (by rw [h])⟩
def Ng (l:Ai):Prop:=l.Pairwise fun f g=>sLt f.Path g.Path=true
def Ky (l:Ai) (p:ByteArray):Nat:=(l.takeWhile fun f=>sLt f.Path p).length
def Mv (l:Ai) (p:ByteArray):Bool:=l.any fun f=>decide (f.Path=p)
theorem pos_le (l:Ai) (p:ByteArray):Ky l p≤l.length:=by
 unfold Ky;exact (List.takeWhile_prefix _).length_le
theorem Ys:∀ {l:Ai} (h:Ng l) (p:ByteArray) (i:Nat) (hi:i < l.length),sLt l[i].Path p=decide (i < Ky l p)
 | [],h,p,i,hi=>by cases hi
 | f::l,h,p,i,hi=>by
  have h':=Em.1 h;unfold Ky;rw [List.takeWhile_cons];cases hf:sLt f.Path p
  ·simp only [Cl,Eh,G1,Nat.not_lt_zero,decide_false];cases i with
   | zero=>exact hf
   | succ i =>
    simp only [Hr];have hi':i < l.length:=by simpa using hi
    have:=h'.1 l[i] (Bn _);cases hg:sLt l[i].Path p
    ·rfl
    ·rw [Xc this hg] at hf;cases hf
  ·simp only [Gi,Ew];cases i with
   | zero=>simp [hf]
   | succ i =>
    simp only [Hr,Nat.add_lt_add_iff_right];exact Ys h'.2 p i (by simpa using hi)
theorem shr1u {b:Int} (h:0≤b):shr? .u64 b 1=some (b / 2):=by
 unfold shr?;rw [Ae (by decide)]
 have:(2:Int) ^ (min (1:Int).toNat IntKind.u64.bits)=2:=by decide
 rw [this,Int.fdiv_eq_ediv_of_nonneg _ (by decide)]
theorem ckU {x:Int} (h1:0≤x) (h2:x≤9223372036854775807):ckK .u64 x=some x:=by
 unfold ckK inK
 have:IntKind.u64.wrap x=x:=by
  simp [IntKind.wrap,IntKind.bits,IntKind.signed];omega
 rw [Af (As this)]
theorem finds_f (f:File) (p:ByteArray):Oz f p=some (cmpB f.Path p):=rfl
theorem find_iter {l:Ai} (h:Ng l) (p:ByteArray) (hl:l.length≤1000000):∀ (n lo hi:Nat),hi - lo≤n→lo≤Ky l p→Ky l p≤hi→hi≤l.length →
  Eo (fun s=>Es.l1 l p s.1 s.2) ((hi:Int),(lo:Int))=some ((Ky l p:Nat):Int):=by
 intro n
 induction n with
 | zero =>
  intro lo hi hn h1 h2 h3;have e:Ky l p=lo:=by omega
  rw [B5 (r:=((Ky l p:Nat):Int))];show Es.l1 l p _ _=_;unfold Es.l1;rw [Ao (by omega),Ae Ah,e]
 | succ n ih =>
  intro lo hi hn h1 h2 h3;by_cases hlt:lo < hi
  ·have hm:(((lo:Int)+hi) / 2)=((lo+hi) / 2:Nat):=by omega
   have hml:(lo+hi) / 2 < l.length:=by omega
   have hstep:Es.l1 l p (hi:Int) (lo:Int)=some (if (lo+hi) / 2 < Ky l p then Step.next ((hi:Int),(((lo+hi) / 2+1:Nat):Int)) else Step.next ((((lo+hi) / 2:Nat):Int),(lo:Int))):=by
    unfold Es.l1;rw [As (by omega:(lo:Int) < hi),Af rfl,Df (by omega) (by omega),Aa,ckU (by omega) (by omega),Aa,shr1u (by omega),Aa,hm,Df (by omega) (by omega),Aa,Ch hml,Aa,finds_f,Aa,cmpB_neg,Ys h p _ hml]
    by_cases hc:(lo+hi) / 2 < Ky l p
    ·rw [Af hc,As hc,Af rfl,Df (by omega) (by omega),Aa];rfl
    ·rw [Ae hc,Ao hc,Ae Ah]
   by_cases hc:(lo+hi) / 2 < Ky l p
   ·rw [Af hc] at hstep;rw [C0 (s':=((hi:Int),(((lo+hi) / 2+1:Nat):Int))) hstep];exact ih _ _ (by omega) (by omega) h2 h3
   ·rw [Ae hc] at hstep;rw [C0 (s':=((((lo+hi) / 2:Nat):Int),(lo:Int))) hstep];exact ih _ _ (by omega) h1 (by omega) (by omega)
  ·have e:Ky l p=lo:=by omega
   rw [B5 (r:=((Ky l p:Nat):Int))];show Es.l1 l p _ _=_;unfold Es.l1;rw [Ao (by omega),Ae Ah,e]
theorem has_at {l:Ai} (h:Ng l) (p:ByteArray):Mv l p=if hp:Ky l p < l.length then decide (l[Ky l p].Path=p) else false:=by
 rw [Lu];constructor
 ·intro hh;unfold Mv at hh;rw [Kz] at hh;obtain ⟨f,hf,he⟩:=hh;obtain ⟨i,hi,rfl⟩:=Da hf;have he:=Mp he;have h1:=Ys h p i hi;rw [he,Tr] at h1;have h1:¬ i < Ky l p:=of_decide_eq_false h1.symm;have hpl:Ky l p < l.length:=by omega
  rw [dif_pos hpl];refine As ?_;rcases Gc (Ky l p) i with h2 | h2
  ·have h3:=Ce.1 h _ _ hpl hi h2;have h4:=Ys h p _ hpl;rw [he] at h3;rw [h3] at h4;simp at h4
  ·have:i=Ky l p:=by omega
   subst this;exact he
 ·intro hh;split at hh
  ·rename_i hp
   unfold Mv;rw [Kz];exact ⟨_,Bn hp,hh⟩
  ·cases hh
theorem Find_f {l:Ai} (h:Ng l) (hl:l.length≤1000000) (p:ByteArray):Es l p=some (((Ky l p:Nat):Int),Mv l p):=by
 unfold Es;have:=find_iter h p hl l.length 0 l.length (by omega) (D3 _) (pos_le l p) (C1 _)
 rw [show ((0:Nat):Int)=0 from rfl] at this;rw [this,Aa];unfold Es.j1;rw [has_at h p];by_cases hp:Ky l p < l.length
 ·rw [dif_pos hp,As (by omega),Af rfl,Ch hp,Aa,finds_f,Aa,cmpB_zero];rfl
 ·rw [dif_neg hp,Ao (by omega),Ae Ah];rfl
def Mw {α ρ:Type} (g:Nat→α→Option ρ):Nat→List α→Option ρ
 | _,[]=>Option.none
 | k,x::r=>match g k x with
  | some y=>some y
  | Option.none=>Mw g (k+1) r
theorem scan_iter {α ρ:Type} {f:Int→Option (Step Int (ρ ⊕ Unit))} (l:List α) (g:Nat→α→Option ρ)
  (hs:∀ k (h:k < l.length),(∀ j (hj:j < l.length),j < k→g j l[j]=Option.none)→f (k:Int)=match g k l[k] with | some r=>some (.done (.inl r)) | Option.none=>some (.next ((k+1:Nat):Int)))
  (he:f (l.length:Int)=some (.done (.inr ()))):∀ (rest:List α) (k:Nat),l.drop k=rest→k≤l.length→(∀ j (hj:j < l.length),j < k→g j l[j]=Option.none)→Eo f (k:Int)=some (orL (Mw g k rest)):=by
 intro rest
 induction rest with
 | nil =>
  intro k hk hkl _;have:=L3 hk;have e:k=l.length:=by omega
  subst e;exact B5 he
 | cons x r ih =>
  intro k hk hkl hp;obtain ⟨hlt,hx,hr⟩:=Me hk;have e:=hs k hlt hp;rw [hx] at e;rw [Mw];cases hg:g k x with
  | some y=>rw [hg] at e;exact B5 e
  | none =>
   rw [hg] at e;rw [C0 e];refine ih (k+1) hr (by omega) fun j hj hjk=>?_
   by_cases hjk':j=k
   ·subst hjk';rw [hx];exact hg
   ·exact hp j hj (by omega)
theorem scan0 {α ρ:Type} {f:Int→Option (Step Int (ρ ⊕ Unit))} (l:List α) (g:Nat→α→Option ρ)
  (hs:∀ k (h:k < l.length),(∀ j (hj:j < l.length),j < k→g j l[j]=Option.none)→f (k:Int)=match g k l[k] with | some r=>some (.done (.inl r)) | Option.none=>some (.next ((k+1:Nat):Int)))
  (he:f (l.length:Int)=some (.done (.inr ()))):Eo f 0=some (orL (Mw g 0 l)):=by
 have:=scan_iter l g hs he l 0 rfl (D3 _) (fun j hj h=>absurd h (by omega))
 exact this
theorem V7 {α ρ:Type} {g:Nat→α→Option ρ}:∀ {l:List α} {k:Nat},Mw g k l=Option.none↔∀ j (h:j < l.length),g (k+j) l[j]=Option.none
 | [],k=>⟨fun _ j h=>absurd h (by simp),fun _=>rfl⟩
 | x::r,k=>by
  rw [Mw];cases hg:g k x with
  | some y =>
   simp only [reduceCtorEq,false_iff];intro h;have:=h 0 (by simp)
   rw [Eu,List.getElem_cons_zero,hg] at this;cases this
  | none =>
   simp only;rw [V7];constructor
   ·intro h j hj;cases j with
    | zero=>exact hg
    | succ j =>
     have:=h j (by simpa using hj)
     rw [Hr,← this];congr 1;omega
   ·intro h j hj;have:=h (j+1) (by simpa using hj)
    rw [Hr] at this;rw [← this];congr 1;omega
theorem Tw {α ρ:Type} {g:Nat→α→Option ρ}:∀ {l:List α} {k:Nat} {y:ρ},Mw g k l=some y→∃ j,∃ h:j < l.length,g (k+j) l[j]=some y
 | [],k,y,h=>by cases h
 | x::r,k,y,h=>by
  rw [Mw] at h;cases hg:g k x with
  | some z=>rw [hg] at h;exact ⟨0,by simp,by rw [Eu];simpa [hg] using h⟩
  | none =>
   rw [hg] at h;obtain ⟨j,hj,e⟩:=Tw h;exact ⟨j+1,by simpa using hj,by rw [Hr,← e];congr 1;omega⟩
def clG (p:ByteArray) (e:Int) (k:Nat) (f:File):Option Bool:=if (k:Int)≠e∧Oj f.Path p=true then some true else Option.none
def Hm (l:Ai) (p:ByteArray):Bool:=l.any fun f=>Oj f.Path p
theorem clash_f {l:Ai} {p:ByteArray} (hl:∀ f∈l,f.Path.size≤1000000) (hn:l.length≤1000000) (hp:p.size≤1000000) (e:Int):E2 l p e=some (Mw (clG p e) 0 l).isSome:=by
 unfold E2;rw [scan0 l (clG p e) ?_ ?_,Aa]
 ·cases h:Mw (clG p e) 0 l with
  | none=>rfl
  | some b =>
   obtain ⟨j,hj,hg⟩:=Tw h;unfold clG at hg;split at hg
   ·cases hg;rfl
   ·cases hg
 ·intro k h _;unfold E2.l1 clG;rw [As (by omega),Af rfl,Ch h,Aa]
  have hs:=hl _ (Bn h);by_cases hk:(k:Int)=e
  ·rw [As hk,Ae (by simp),Aa,Ae Ah,Df (by omega) (by omega),Aa,Ae (fun h=>h.1 hk)];rfl
  ·rw [Ao hk,Af (by rfl),Related_f hs hp,Aa,Aa]
   cases hr:Oj l[k].Path p
   ·rw [Ae Ah,Df (by omega) (by omega),Aa,Ae (fun h=>Ah h.2)];rfl
   ·rw [Af rfl,Af ⟨hk,rfl⟩]
 ·unfold E2.l1;rw [Ao (by omega),Ae Ah]
theorem clO_all {p:ByteArray}:∀ (l:Ai) (k:Nat),(Mw (clG p (-1)) k l).isSome=Hm l p
 | [],k=>rfl
 | f::l,k=>by
  rw [Mw];unfold clG Hm;rw [Lj];cases h:Oj f.Path p
  ·rw [Ae (fun h=>Ah h.2)];simp only [K1];exact clO_all l (k+1)
  ·rw [Af ⟨by omega,rfl⟩];rfl
theorem clO_ne {p:ByteArray}:∀ (l:Ai) (k j:Nat),(Mw (clG p ((k+j:Nat):Int)) k l).isSome=Hm (l.eraseIdx j) p
 | [],k,j=>rfl
 | f::l,k,0=>by
  rw [Mw];unfold clG;rw [Ae (fun h=>h.1 rfl)];simp only [List.eraseIdx_zero,List.tail_cons]
  have:∀ (m:Ai) (q:Nat),k < q→(Mw (clG p ((k+0:Nat):Int)) q m).isSome=Hm m p:=by
   intro m
   induction m with
   | nil=>intro q _;rfl
   | cons f m ih =>
    intro q hq;rw [Mw];unfold clG Hm;rw [Lj];cases h:Oj f.Path p
    ·rw [Ae (fun h=>Ah h.2)];simp only [K1];exact ih (q+1) (by omega)
    ·rw [Af ⟨by omega,rfl⟩];rfl
  exact this l (k+1) (by omega)
 | f::l,k,j+1=>by
  rw [Mw];have hc:=clO_ne (p:=p) l (k+1) j;rw [show k+1+j=k+(j+1) by omega] at hc
  unfold Hm at hc ⊢;rw [List.eraseIdx_cons_succ,Lj];unfold clG;cases h:Oj f.Path p
  ·rw [Ae (fun h=>Ah h.2)];simp only [K1];exact hc
  ·rw [Af ⟨by omega,rfl⟩];rfl
def trG (l:Ai) (k:Nat) (f:File):Option Fault :=
 if La f.Path=false then some ⟨12,k⟩
 else if 0 < k∧∃ q,l[k - 1]? = some q∧sLt q.Path f.Path=false then some ⟨5,k⟩
 else if Hm (l.take k) f.Path=true then some ⟨7,k⟩
 else if (Cq f.Lines).Code≠0 then some ⟨(Cq f.Lines).Code,k⟩ else Option.none
def K0 (l:Ai):Fault:=if l.length > 24 then ⟨2,-1⟩ else (Mw (trG l) 0 l).getD ⟨0,0⟩
theorem trG_path {l:Ai} {k:Nat} {f:File} (h:trG l k f=Option.none):La f.Path=true:=by
 unfold trG at h;cases hp:La f.Path
 ·rw [Af hp] at h;cases h
 ·rfl
theorem ord_dec (p q:ByteArray):(sLt p q || decide (p=q)) = !sLt q p:=by
 rcases sLt_tri p q with h | h | h
 ·rw [h,Qk h];rfl
 ·subst h;rw [Tr];simp
 ·rw [h,Qk h,Ao (sLt_ne h).symm];rfl
theorem prev_f (l:Ai) {k:Nat} (hk:k < l.length) (h1000:l.length≤1000000):((if decide ((k:Int) > 0) then (ckK .i64 ((k:Int) - 1)).bind fun z1=>(at? l z1).bind fun y3=>some (sLt l[k].Path y3.Path || decide (l[k].Path=y3.Path)) else some false):Option Bool) =
  some (decide (0 < k∧∃ q,l[k - 1]? = some q∧sLt q.Path l[k].Path=false)):=by
 by_cases h0:0 < k
 ·have hk1:k - 1 < l.length:=by omega
  rw [As (by omega),Af rfl,Df (by omega) (by omega),Aa,show ((k:Int) - 1)=((k - 1:Nat):Int) by omega,Ch hk1,Aa,ord_dec]
  congr 1;rw [Lu];simp only [Bv hk1,Option.some.injEq,exists_eq_left',h0,true_and,Cg];cases sLt l[k - 1].Path l[k].Path <;> simp
 ·rw [Ao (by omega),Ae Ah,Ao (fun h=>h0 h.1)]
theorem Xe (t:FileTree):G3 t=some (K0 t.Files):=by
 obtain ⟨l⟩:=t;unfold G3 K0;simp only;by_cases h24:l.length > 24
 ·rw [As (by omega),Af rfl,Af h24]
 rw [Ao (by omega),Ae Ah,Ae h24,scan0 l (trG l) ?_ ?_,Aa]
 ·cases Mw (trG l) 0 l <;> rfl
 ·intro k h hp
  have hsz:∀ f∈l.take k,f.Path.size≤60:=by
   intro f hf;obtain ⟨j,hj,rfl⟩:=Da hf;rw [E7];rw [B9] at hj;exact Mx (trG_path (hp j (by omega) (by omega)))
  unfold G3.l1 trG;simp only;rw [As (by omega),Af rfl,Ch h,Aa,ValidPath_f,Aa]
  cases hv:La l[k].Path
  ·rw [Af (by rfl),Af rfl]
  ·rw [Ae (show ¬ ((!true)=true) by decide),Ae (show ¬ (true=false) by decide),prev_f l h (by omega),Aa]
   by_cases h5:0 < k∧∃ q,l[k - 1]? = some q∧sLt q.Path l[k].Path=false
   ·rw [As h5,Af rfl,Af h5]
   ·rw [Ao h5,Ae Ah,Ae h5,Uj (by omega) (by omega) (by omega),Aa,show ((0:Int)).toNat=0 from rfl,List.drop_zero,Bh,
     clash_f (fun f hf=>by have:=hsz f hf;omega) (by rw [B9];omega) (by have:=Mx hv;omega),Aa,clO_all]
    cases h7:Hm (l.take k) l[k].Path
    ·rw [Ae Ah,Ae Ah,second_f,Aa];by_cases hc:(Cq l[k].Lines).Code=0
     ·rw [Af hc,Ae (by decide),Ae (by simpa using hc),Df (by omega) (by omega),Aa];rfl
     ·rw [Ae hc,Af (by simp [hc]),Af hc]
    ·rw [Af rfl,Af rfl]
 ·unfold G3.l1;rw [Ao (by simp),Ae Ah]
theorem relT_iter (l:Ai) (k:Nat) (hk:k≤l.length) (h1000:l.length≤1000000) (y:File):Eo (fun s=>B3.l2 ⟨l⟩ (k:Int) y s) 0=some (orL (if Hm (l.take k) y.Path=true then some ⟨7,k⟩ else Option.none)):=by
 have hl:(l.take k).length=k:=by simp;omega
 rw [scan0 (l.take k) (fun j f=>if Oj f.Path y.Path=true then some (⟨7,k⟩:Fault) else Option.none) ?_ ?_]
 ·congr 2
  have:∀ (m:Ai) (j:Nat),Mw (fun j f=>if Oj f.Path y.Path=true then some (⟨7,k⟩:Fault) else Option.none) j m=if Hm m y.Path=true then some ⟨7,k⟩ else Option.none:=by
   intro m
   induction m with
   | nil=>intro j;rfl
   | cons f m ih =>
    intro j;rw [Mw];unfold Hm;rw [Lj];cases h:Oj f.Path y.Path
    ·simp only [Cl,Eh,K1];exact ih (j+1)
    ·simp
  exact this _ _
 ·intro j hj _;have hjk:j < k:=by omega
  have hjl:j < l.length:=by omega
  unfold B3.l2;simp only;rw [As (by omega),Af rfl,Ch hjl,Aa,Xo,Aa,E7]
  cases Oj l[j].Path y.Path
  ·rw [Ae Ah,Ae Ah,Df (by omega) (by omega),Aa];rfl
  ·rw [Af rfl,Af rfl];rfl
 ·unfold B3.l2;rw [hl,Ao (by omega),Ae Ah]
theorem TreeFault_f (t:FileTree):B3 t=some (K0 t.Files):=by
 obtain ⟨l⟩:=t;unfold B3 K0;simp only;by_cases h24:l.length > 24
 ·rw [As (by omega),Af rfl,Af h24];rfl
 rw [Ao (by omega),Ae Ah,Ae h24,scan0 l (trG l) ?_ ?_,Aa]
 ·cases Mw (trG l) 0 l <;> rfl
 ·intro k h hp;unfold B3.l1 trG;simp only;rw [As (by omega),Af rfl,Ch h,Aa,PathValid_f,Aa]
  cases hv:La l[k].Path
  ·rw [Af (by rfl),Af rfl];rfl
  ·rw [Ae (show ¬ ((!true)=true) by decide),Ae (show ¬ (true=false) by decide),prev_f l h (by omega),Aa]
   by_cases h5:0 < k∧∃ q,l[k - 1]? = some q∧sLt q.Path l[k].Path=false
   ·rw [As h5,Af rfl,Af h5];rfl
   ·rw [Ao h5,Ae Ah,Ae h5,relT_iter l k (by omega) (by omega),Aa]
    cases h7:Hm (l.take k) l[k].Path
    ·rw [Ae Ah,Ae Ah];unfold orL B3.j3 B3.j2;simp only;rw [N7,Aa];by_cases hc:(Cq l[k].Lines).Code=0
     ·rw [As hc,Ae (by decide),Ae (by simpa using hc),Df (by omega) (by omega),Aa];rfl
     ·rw [Ao hc,Af (by rfl),Af hc];rfl
    ·rw [Af rfl,Af rfl];rfl
 ·unfold B3.l1;rw [Ao (by simp),Ae Ah]
structure TrOk (l:Ai):Prop where
 len:l.length≤24
 srt:Ng l
 path:∀ f∈l,La f.Path=true
 rel:l.Pairwise fun f g=>Oj f.Path g.Path=false
 text:∀ f∈l,Ll f.Lines
theorem trG_code {l:Ai} {k:Nat} {f:File} {y:Fault} (h:trG l k f=some y):y.Code≠0:=by
 unfold trG at h;split at h
 ·cases h;simp
 ·split at h
  ·cases h;simp
  ·split at h
   ·cases h;simp
   ·split at h
    ·rename_i hc;cases h;exact hc
    ·cases h
theorem Zk (l:Ai):K0 l=⟨0,0⟩∨(K0 l).Code≠0:=by
 unfold K0;split
 ·right;decide
 ·cases h:Mw (trG l) 0 l with
  | none=>left;rfl
  | some y =>
   right;obtain ⟨j,hj,e⟩:=Tw h;exact trG_code e
theorem Od (l:Ai):(K0 l).Code=0↔TrOk l:=by
 unfold K0;by_cases h24:l.length > 24
 ·rw [Af h24];exact ⟨fun h=>by simp at h,fun h=>by have:=h.len;omega⟩
 rw [Ae h24]
 have e1:(((Mw (trG l) 0 l).getD ⟨0,0⟩).Code=0)↔Mw (trG l) 0 l=Option.none:=by
  cases h:Mw (trG l) 0 l with
  | none=>simp
  | some y =>
   obtain ⟨j,hj,e⟩:=Tw h;simp [trG_code e]
 rw [e1,V7];simp only [Ho];constructor
 ·intro h
  have h2:∀ j (hj:j < l.length),La l[j].Path=true∧¬ (0 < j∧∃ q,l[j - 1]? = some q∧sLt q.Path l[j].Path=false)∧Hm (l.take j) l[j].Path=false∧(Cq l[j].Lines).Code=0:=by
   intro j hj;have:=h j hj;unfold trG at this;cases hp:La l[j].Path
   ·rw [Af hp] at this;cases this
   ·rw [Ae (by rw [hp];decide)] at this
    split at this
    ·cases this
    ·rename_i h5
     split at this
     ·cases this
     ·rename_i h7
      split at this
      ·cases this
      ·rename_i hc
       exact ⟨rfl,h5,by simpa using h7,by simpa using hc⟩
  have hadj:∀ j (hj:j+1 < l.length),sLt l[j].Path l[j+1].Path=true:=by
   intro j hj;have:=(h2 (j+1) hj).2.1;cases hs:sLt l[j].Path l[j+1].Path
   ·exact absurd ⟨by omega,l[j],by simp,hs⟩ this
   ·rfl
  have hlt:∀ (d i:Nat) (hd:i+d+1 < l.length),sLt l[i].Path l[i+d+1].Path=true:=by
   intro d
   induction d with
   | zero=>intro i hd;exact hadj i hd
   | succ d ih=>intro i hd;exact Xc (ih i (by omega)) (hadj (i+d+1) hd)
  refine ⟨by omega,?_,?_,?_,?_⟩
  ·refine Ce.2 fun i j hi hj hij=>?_;obtain ⟨d,rfl⟩:∃ d,j=i+d+1:=⟨j - i - 1,by omega⟩
   exact hlt d i hj
  ·intro f hf;obtain ⟨j,hj,rfl⟩:=Da hf;exact (h2 j hj).1
  ·refine Ce.2 fun i j hi hj hij=>?_;have:=(h2 j hj).2.2.1;unfold Hm at this;rw [Kq] at this
   have hm:l[i]∈l.take j:=by
    rw [H9];exact ⟨i,by omega,rfl⟩
   simpa using this _ hm
  ·intro f hf;obtain ⟨j,hj,rfl⟩:=Da hf;exact (Lo _).2 ((H4 _).2 (h2 j hj).2.2.2)
 ·intro h j hj;have hm:=Bn hj;unfold trG;rw [Ae (by rw [h.path _ hm];decide),Ae ?_,Ae ?_,Ae ?_]
  ·simpa using (H4 _).1 ((Lo _).1 (h.text _ hm))
  ·have:Hm (l.take j) l[j].Path=false:=by
    unfold Hm;rw [Kq];intro f hf;rw [H9] at hf;obtain ⟨i,hi,rfl⟩:=hf;have:=Ce.1 h.rel i j (by omega) hj (by omega)
    simpa using this
   rw [this];decide
  ·rintro ⟨h0,q,hq,hs⟩;have hk1:j - 1 < l.length:=by omega
   rw [Bv hk1] at hq;cases hq;have:=Ce.1 h.srt (j - 1) j hk1 hj (by omega)
   rw [this] at hs;cases hs
theorem tsecond_f (t:FileTree) (i:Int):Qq t i=some (if (K0 t.Files).Code=0 then ⟨0,0⟩ else ⟨(K0 t.Files).Code,i⟩):=by
 unfold Qq;rw [Xe,Aa];rcases Zk t.Files with h | h
 ·rw [h];rfl
 ·rw [Af (Yy.2 fun h2=>h h2.1),Ae h]
end Go.Dc
set_option linter.unusedSimpArgs false
set_option linter.unusedVariables false
set_option maxRecDepth 4000
namespace Go.Dc
open Go
theorem end_f (h:Hunk) (h0 : -1000000≤h.At) (h1:h.At≤1000000) (h2:h.Old.length≤1000000):Nd h=some (h.At+h.Old.length):=by
 unfold Nd;rw [Df (by omega) (by omega)];rfl
def Yg (h:Hunk) (e:Int):Int :=
 if h.At < 0∨h.At > 120 then 3 else if (Cq h.Old).Code≠0 then (Cq h.Old).Code else if (Cq h.New).Code≠0 then (Cq h.New).Code else
 if h.Old.length+h.New.length=0∨h.At≤e then 5 else if h.At+h.Old.length > 120 then 3 else 0
theorem Kp {l:Ac} (h:(Cq l).Code=0):l.length≤120:=((Lo l).2 ((H4 l).2 h)).1
theorem hunk_f (h:Hunk) (e:Int):Hj h e=some (Yg h e):=by
 unfold Hj Yg;by_cases ha:h.At < 0∨h.At > 120
 ·rw [Af ha]
  have:(if decide (h.At < 0)=true then some true else some (decide (h.At > 120)))=some true:=by
   rw [A5];by_cases h0:h.At < 0
   ·rw [Af h0]
   ·rw [Ae h0,As (by omega)]
  rw [this,Aa,Af rfl]
 ·rw [Ae ha]
  have:(if decide (h.At < 0)=true then some true else some (decide (h.At > 120)))=some false:=by
   rw [A5,Ae (by omega),Ao (by omega)]
  rw [this,Aa,Ae (by decide)]
  have l0:Hj.l1 h 0=if (Cq h.Old).Code≠0 then some (.done (.inl (Cq h.Old).Code)) else some (.next 1):=by
   unfold Hj.l1;rw [A5,Af (by decide),show at? ([h.Old,h.New]:List Ac) 0=some h.Old from rfl,Aa,V3,Aa]
   rcases Q3 h.Old with h1 | h1
   ·rw [h1,Ae (by decide),Ae (by decide),Df (by omega) (by omega)];rfl
   ·rw [Af h1,Af (Yy.2 fun h2=>h1 h2.1)]
  have l1:Hj.l1 h 1=if (Cq h.New).Code≠0 then some (.done (.inl (Cq h.New).Code)) else some (.next 2):=by
   unfold Hj.l1;rw [A5,Af (by decide),show at? ([h.Old,h.New]:List Ac) 1=some h.New from rfl,Aa,V3,Aa]
   rcases Q3 h.New with h1 | h1
   ·rw [h1,Ae (by decide),Ae (by decide),Df (by omega) (by omega)];rfl
   ·rw [Af h1,Af (Yy.2 fun h2=>h1 h2.1)]
  have l2:Hj.l1 h 2=some (.done (.inr ())):=by
   unfold Hj.l1;rw [A5,Ae (by decide)]
  by_cases ho:(Cq h.Old).Code≠0
  ·rw [Af ho] at l0 ⊢;rw [B5 l0,Aa]
  ·rw [Ae ho] at l0 ⊢;by_cases hw:(Cq h.New).Code≠0
   ·rw [Af hw] at l1 ⊢;rw [C0 l0,B5 l1,Aa]
   ·rw [Ae hw] at l1 ⊢;rw [C0 l0,C0 l1,B5 l2,Aa];have s1:=Kp (l:=h.Old) (by omega)
    have s2:=Kp (l:=h.New) (by omega)
    simp only;unfold Hj.j1;rw [Df (by omega) (by omega),Aa]
    by_cases hm:h.Old.length+h.New.length=0∨h.At≤e
    ·rw [Af hm]
     have:(if decide ((h.Old.length:Int)+(h.New.length:Int)=0)=true then some true else some (decide (h.At≤e)))=some true:=by
      rw [A5];by_cases h0:(h.Old.length:Int)+(h.New.length:Int)=0
      ·rw [Af h0]
      ·rw [Ae h0,As (by omega)]
     rw [this,Aa,Af rfl]
    ·rw [Ae hm]
     have:(if decide ((h.Old.length:Int)+(h.New.length:Int)=0)=true then some true else some (decide (h.At≤e)))=some false:=by
      rw [A5,Ae (by omega),Ao (by omega)]
     rw [this,Aa,Ae (by decide),end_f h (by omega) (by omega) (by omega),Aa,A5]
     split <;> rfl
theorem Xn {h:Hunk} {e:Int} (hc:Yg h e=0):0≤h.At∧(Cq h.Old).Code=0∧(Cq h.New).Code=0∧0 < h.Old.length+h.New.length∧e < h.At∧h.At+h.Old.length≤120:=by
 unfold Yg at hc;split at hc
 ·cases hc
 ·split at hc
  ·rename_i h1 h2;exact absurd hc h2
  ·split at hc
   ·rename_i h1 h2 h3;exact absurd hc h3
   ·split at hc
    ·cases hc
    ·split at hc
     ·cases hc
     ·omega
def Xh:Int→Int→Bc→Option Fault
 | _,_,[]=>Option.none
 | i,e,h::r=>if Yg h e=0 then Xh (i+1) (h.At+h.Old.length) r else some ⟨Yg h e,i⟩
def Lk (p:Patch):Fault:=if p.Hunks.length > 130 then ⟨2,-1⟩ else (Xh 0 (-1) p.Hunks).getD ⟨0,0⟩
theorem pscan_code:∀ (l:Bc) (i e:Int) (f:Fault),Xh i e l=some f→f.Code≠0
 | [],_,_,_,h=>by cases h
 | x::r,i,e,f,h=>by
  rw [Xh] at h;split at h
  ·exact pscan_code r _ _ f h
  ·rename_i h0;cases h;exact h0
theorem patchFault_ok (p:Patch):Lk p=⟨0,0⟩∨(Lk p).Code≠0:=by
 unfold Lk;split
 ·right;show (2:Int)≠0;decide
 ·cases h:Xh 0 (-1) p.Hunks with
  | none=>left;rfl
  | some f=>right;exact pscan_code _ _ _ f h
theorem patchFault_zero (p:Patch):Lk p=⟨0,0⟩↔(Lk p).Code=0:=by
 rcases patchFault_ok p with h | h
 ·rw [h];exact ⟨fun _=>rfl,fun _=>rfl⟩
 ·exact ⟨fun h2=>by rw [h2],fun h2=>absurd h2 h⟩
theorem pvalidate_f (p:Patch):Ga p=some (Lk p):=by
 unfold Ga Lk;rw [A5];by_cases h130:p.Hunks.length > 130
 ·rw [Af (by omega),Af h130]
 ·rw [Ae (by omega),Ae h130]
  have key:∀ (rest:Bc) (k:Nat) (e:Int),p.Hunks.drop k=rest→Eo (fun s=>Ga.l1 p s.1 s.2) ((k:Int),e)=some (orL (Xh k e rest)):=by
   intro rest
   induction rest with
   | nil =>
    intro k e hk;have:=L3 hk;refine B5 ?_;unfold Ga.l1;rw [A5,Ae (by omega)];rfl
   | cons h r ih =>
    intro k e hk;obtain ⟨hlt,hh,hr⟩:=Me hk;rw [Xh];by_cases hc:Yg h e=0
    ·obtain ⟨z1,z2,z3,z4,z5,z6⟩:=Xn hc
     have e0:Ga.l1 p (k:Int) e=some (.next (((k+1:Nat):Int),h.At+h.Old.length)):=by
      unfold Ga.l1;rw [A5,Af (by omega),Ch hlt,Aa,hh,hunk_f,Aa,hc,L5,Af rfl,end_f h (by omega) (by omega) (by omega),Aa,Df (by omega) (by omega),Aa];rfl
     rw [Af hc,C0 e0];exact ih (k+1) _ hr
    ·rw [Ae hc];refine B5 ?_;unfold Ga.l1;rw [A5,Af (by omega),Ch hlt,Aa,hh,hunk_f,Aa,L5,Ae hc];rfl
  rw [show (0:Int)=((0:Nat):Int) from rfl,key p.Hunks 0 _ rfl,Aa];cases Xh ((0:Nat):Int) (-1) p.Hunks <;> rfl
def Good:Int→Bc→Prop
 | _,[]=>True
 | e,h::r=>Yg h e=0∧Good (h.At+h.Old.length) r
theorem pscan_good:∀ (l:Bc) (i e:Int),Xh i e l=Option.none↔Good e l
 | [],_,_=>by simp [Xh,Good]
 | h::r,i,e=>by
  rw [Xh,Good];by_cases hc:Yg h e=0
  ·rw [Af hc,pscan_good r];simp [hc]
  ·rw [Ae hc];simp [hc]
theorem U4 (p:Patch):(Lk p).Code=0↔p.Hunks.length≤130∧Good (-1) p.Hunks:=by
 rw [← patchFault_zero,← pscan_good p.Hunks 0 (-1)];unfold Lk;by_cases h:p.Hunks.length > 130
 ·rw [Af h];constructor
  ·intro h2;cases h2
  ·intro h2;omega
 ·rw [Ae h];cases hs:Xh 0 (-1) p.Hunks with
  | none=>simp;omega
  | some f =>
   have:=pscan_code _ _ _ f hs;constructor
   ·intro h2;simp at h2;rw [h2] at this;exact absurd rfl this
   ·intro h2;cases h2.2
def occ (text part:Ac) (k:Nat):Prop:=k≤text.length∧(text.drop k).take part.length=part
instance (text part:Ac) (k:Nat):Decidable (occ text part k):=by unfold occ;infer_instance
theorem occ_len {text part:Ac} {k:Nat} (h:occ text part k):k+part.length≤text.length:=by
 have h1:=congrArg List.length h.2;simp at h1;have:=h.1;omega
theorem sequal_f (a b:Ac) (hb:a.length≤1000000):H6 a b=some (decide (a=b)):=by
 unfold H6;rw [L5];by_cases hl:a.length=b.length
 ·rw [Af (by omega)]
  have key:∀ (rest:Ac) (k:Nat),a.drop k=rest→a.take k=b.take k→Eo (fun s=>H6.l1 a b s) (k:Int)=some (if a=b then .inr () else .inl false):=by
   intro rest
   induction rest with
   | nil =>
    intro k hk ht;have:=L3 hk;rw [D0 (by omega),D0 (by omega)] at ht
    rw [Af ht];refine B5 ?_;unfold H6.l1;rw [A5,Ae (by omega)]
   | cons x r ih =>
    intro k hk ht;obtain ⟨hlt,hx,hr⟩:=Me hk;have hlt2:k < b.length:=by omega
    by_cases he:x=b[k]
    ·have e0:H6.l1 a b (k:Int)=some (.next ((k+1:Nat):Int)):=by
      unfold H6.l1;rw [A5,Af (by omega),Ch hlt,Aa,hx,Ch hlt2,Aa,L5,Af he,Df (by omega) (by omega),Aa];rfl
     rw [C0 e0];exact ih (k+1) hr (by rw [Bg hlt,Bg hlt2,ht,hx,he])
    ·rw [Ae (fun e=>he (by rw [← hx];simp only [e]))]
     refine B5 ?_;unfold H6.l1;rw [A5,Af (by omega),Ch hlt,Aa,hx,Ch hlt2,Aa,L5,Ae he]
  rw [show (0:Int)=((0:Nat):Int) from rfl,key a 0 rfl rfl,Aa];by_cases h:a=b
  ·rw [Af h,As h];rfl
  ·rw [Ae h,Ao h]
 ·rw [Ae (by omega),Ao (fun e=>hl (by rw [e]))]
theorem occurs_f (text part:Ac) (i:Int) (h1:text.length≤1000000) (h2:part.length≤1000000):T8 text part i=some (decide (0≤i∧occ text part i.toNat)):=by
 unfold T8;by_cases hi:0≤i∧i≤text.length
 ·have e1:(if decide (i ≥ 0)=true then some (decide (i≤(text.length:Int))) else some false)=some true:=by
   rw [A5,Af hi.1,As hi.2]
  rw [e1,Aa,Af rfl,Df (by omega) (by omega),Aa,Aa,A5]
  by_cases hp:(part.length:Int)≤text.length - i
  ·rw [Af hp,Df (by omega) (by omega),Aa,Uj (by omega) (by omega) (by omega),Aa,sequal_f _ _ (by simp;omega),Aa,Aa]
   congr 1
   have:(text.take (i+(part.length:Int)).toNat).drop i.toNat=(text.drop i.toNat).take part.length:=by
    rw [List.take_drop];congr 2;omega
   rw [this];rw [D4];unfold occ;constructor
   ·intro h;exact ⟨by omega,by omega,h⟩
   ·intro h;exact h.2.2
  ·rw [Ae hp,Aa];congr 1;rw [eq_comm,E1];rintro ⟨_,h⟩;have:=occ_len h;omega
 ·have e1:(if decide (i ≥ 0)=true then some (decide (i≤(text.length:Int))) else some false)=some false:=by
   rw [A5];by_cases h0:i ≥ 0
   ·rw [Af h0,Ao (by omega)]
   ·rw [Ae h0]
  rw [e1];simp only [Aa,Cl,Eh];congr 1;rw [eq_comm,E1];rintro ⟨h0,h⟩;exact hi ⟨h0,by have:=h.1;omega⟩
def Tt:Bc→Ac→Nat→Ac
 | [],text,low=>text.drop low
 | h::r,text,low=>(text.drop low).take (h.At.toNat - low)++(h.New++Tt r text (h.At.toNat+h.Old.length))
def Fits (text:Ac) (l:Bc):Prop:=∀ h∈l,occ text h.Old h.At.toNat
theorem raw_f (text:Ac) (ht:text.length≤120) (hs:Bc) (hn:hs.length≤130):∀ (rest:Bc) (k low:Nat) (out:Ac) (e:Int),hs.drop k=rest→Good e rest→Fits text rest→(low:Int)≤e+1→low≤text.length→out.length≤k * 240→k≤130 →
  ∃ fin:Nat,fin≤text.length∧∃ o,Eo (fun s=>Ez.l1 hs text s.1 s.2.1 s.2.2) ((k:Int),out,(low:Int))=some (o,(fin:Int))∧o++text.drop fin=out++Tt rest text low∧o.length≤131 * 240:=by
 intro rest
 induction rest with
 | nil =>
  intro k low out e hk _ _ _ hlow hout hk130;have:=L3 hk;refine ⟨low,hlow,out,B5 ?_,rfl,?_⟩
  ·unfold Ez.l1;rw [A5,Ae (by omega)]
  ·have:k * 240≤130 * 240:=A3 _ hk130;omega
 | cons h r ih =>
  intro k low out e hk hg hf hle hlow hout hk130;obtain ⟨hlt,hh,hr⟩:=Me hk;obtain ⟨hc,hg'⟩:=hg;obtain ⟨z1,z2,z3,z4,z5,z6⟩:=Xn hc;have ho:=occ_len (hf h (by simp))
  have l2:=Kp z3;have hka:k < 130:=by omega
  have hlo:low≤h.At.toNat:=by omega
  have e0:Ez.l1 hs text (k:Int) out (low:Int)=some (.next (((k+1:Nat):Int),out++(text.drop low).take (h.At.toNat - low)++h.New,((h.At.toNat+h.Old.length:Nat):Int))):=by
   unfold Ez.l1
   have hcut:(text.take h.At.toNat).drop (low:Int).toNat=(text.drop low).take (h.At.toNat - low):=by
    rw [Bh,List.drop_take]
   rw [A5,Af (by omega),Ch hlt,Aa,hh,Uj (by omega) (by omega) (by omega),Aa,hcut,
    Gm (by simp;omega),Aa,Gm (by simp;omega),Aa,end_f h (by omega) (by omega) (by omega),Aa,Df (by omega) (by omega),Aa,
    show h.At+(h.Old.length:Int)=((h.At.toNat+h.Old.length:Nat):Int) by omega]
   rfl
  rw [C0 e0];obtain ⟨fin,f1,o,f2,f3,f4⟩:=ih (k+1) (h.At.toNat+h.Old.length) (out++(text.drop low).take (h.At.toNat - low)++h.New) (h.At+h.Old.length) hr hg' (fun q hq=>hf q (B2 _ hq)) (by omega) (by omega) (by simp;omega) (by omega)
  refine ⟨fin,f1,o,f2,?_,f4⟩;rw [f3,Tt];simp only [Az]
theorem Raw_f {text:Ac} (ht:text.length≤120) {hs:Bc} (hn:hs.length≤130) (hg:Good (-1) hs) (hf:Fits text hs):Ez hs text 0 (text.length:Int)=some (Tt hs text 0):=by
 obtain ⟨fin,f1,o,f2,f3,f4⟩:=raw_f text ht hs hn hs 0 0 [] (-1) rfl hg hf (by omega) (D3 _) (by simp) (by omega)
 unfold Ez;rw [show ((0:Nat):Int)=0 from rfl] at f2;rw [f2,Aa];unfold Ez.j1;rw [Uj (by omega) (by omega) (by omega),Aa,Bh,Bh,De,Gm (by simp;omega),Aa,f3]
 rfl
def Yb (text:Ac):Int→Bc→Option Fault
 | _,[]=>Option.none
 | i,h::r=>if occ text h.Old h.At.toNat then Yb text (i+1) r else some ⟨19,i⟩
theorem Zs (text:Ac):∀ (l:Bc) (i:Int),Yb text i l=Option.none↔Fits text l
 | [],_=>by simp [Yb,Fits]
 | h::r,i=>by
  rw [Yb];by_cases hc:occ text h.Old h.At.toNat
  ·rw [Af hc,Zs text r];simp [Fits,hc]
  ·rw [Ae hc];simp [Fits,hc]
theorem oscan_code (text:Ac):∀ (l:Bc) (i:Int) (f:Fault),Yb text i l=some f→f.Code=19
 | [],_,_,h=>by cases h
 | x::r,i,f,h=>by
  rw [Yb] at h;split at h
  ·exact oscan_code text r _ f h
  ·cases h;rfl
def Tx (p:Patch) (text:Ac):Ac×Fault :=
 if (Lk p).Code≠0 then ([],Lk p) else if (Cq text).Code≠0 then ([],⟨(Cq text).Code,-2⟩) else
 match Yb text 0 p.Hunks with
 | some f=>([],f)
 | Option.none=>if (Tt p.Hunks text 0).length > 120 then ([],⟨10,-1⟩) else (Tt p.Hunks text 0,⟨0,0⟩)
theorem Zo:∀ {l:Bc} {e:Int},Good e l → -1≤e→∀ h∈l,0≤h.At∧h.At+h.Old.length≤120∧(Cq h.Old).Code=0∧(Cq h.New).Code=0∧0 < h.Old.length+h.New.length
 | x::r,e,hg,he,h,hm=>by
  obtain ⟨hc,hg'⟩:=hg;obtain ⟨z1,z2,z3,z4,z5,z6⟩:=Xn hc;rcases Cd.1 hm with rfl | hm
  ·exact ⟨z1,z6,z2,z3,z4⟩
  ·exact Zo hg' (by omega) h hm
theorem apply_f (p:Patch) (text:Ac):Hc p text=some (Tx p text):=by
 unfold Hc Tx;rw [pvalidate_f,Aa];rcases patchFault_ok p with hp | hp
 ·rw [hp];simp only [ne_eq,not_true,Eh];rw [Ae (by simp),second_f,Aa]
  rcases Q3 text with ht | ht
  ·rw [ht];simp only [ne_eq,not_true,Eh,Gi];rw [Ae (by simp)]
   obtain ⟨hn,hg⟩:=(U4 p).1 ((patchFault_zero p).1 hp);have hl:=Kp ((H4 text).1 ht)
   have key:∀ (rest:Bc) (k:Nat),p.Hunks.drop k=rest→(∀ h∈rest,0≤h.At∧h.Old.length≤120)→Eo (fun s=>Hc.l1 p text s) (k:Int)=some (orL ((Yb text k rest).map fun f=>(([]:Ac),f))):=by
    intro rest
    induction rest with
    | nil =>
     intro k hk _;have:=L3 hk;refine B5 ?_;unfold Hc.l1;rw [A5,Ae (by omega)];rfl
    | cons h r ih =>
     intro k hk hall;obtain ⟨hlt,hh,hr⟩:=Me hk;obtain ⟨h0,h1⟩:=hall h (by simp)
     rw [Yb]
     have eo:T8 text h.Old h.At=some (decide (occ text h.Old h.At.toNat)):=by
      rw [occurs_f _ _ _ (by omega) (by omega)];simp [h0]
     by_cases hc:occ text h.Old h.At.toNat
     ·have e0:Hc.l1 p text (k:Int)=some (.next ((k+1:Nat):Int)):=by
       unfold Hc.l1;rw [A5,Af (by omega),Ch hlt,Aa,hh,eo,Aa,As hc,Ae (by decide),Df (by omega) (by omega),Aa];rfl
      rw [Af hc,C0 e0];exact ih (k+1) hr (fun q hq=>hall q (B2 _ hq))
     ·rw [Ae hc];refine B5 ?_;unfold Hc.l1;rw [A5,Af (by omega),Ch hlt,Aa,hh,eo,Aa,Ao hc,Af (by decide)];rfl
   rw [show (0:Int)=((0:Nat):Int) from rfl,key p.Hunks 0 rfl (fun h hm=>by
    obtain ⟨z1,_,z2,_⟩:=Zo hg (by omega) h hm
    exact ⟨z1,Kp z2⟩),Aa,show (((0:Nat):Int))=0 from rfl]
   cases ho:Yb text 0 p.Hunks with
   | some f=>rfl
   | none =>
    have hf:=(Zs text p.Hunks 0).1 ho;simp only [Option.map_none,orL];unfold Hc.j1;rw [Raw_f hl hn hg hf,Aa,A5];by_cases h120:(Tt p.Hunks text 0).length > 120
    ·rw [Af (by omega),Af h120]
    ·rw [Ae (by omega),Ae h120]
  ·simp only [ne_eq,ht,not_false_iff,Gi,Eh];rw [Af (by simp)]
 ·simp only [ne_eq,hp,not_false_iff,Gi];rw [Af (by simp [hp])]
theorem applyF_ok {p:Patch} {text:Ac} (h:(Tx p text).2.Code=0):p.Hunks.length≤130∧Good (-1) p.Hunks∧Ll text∧Fits text p.Hunks∧(Tt p.Hunks text 0).length≤120∧Tx p text=(Tt p.Hunks text 0,⟨0,0⟩):=by
 unfold Tx at h ⊢;by_cases hp:(Lk p).Code≠0
 ·rw [Af hp] at h;exact absurd h hp
 ·rw [Ae hp] at h ⊢;by_cases ht:(Cq text).Code≠0
  ·rw [Af ht] at h;exact absurd h ht
  ·rw [Ae ht] at h ⊢;cases ho:Yb text 0 p.Hunks with
   | some f =>
    rw [ho] at h;have:=oscan_code text _ _ _ ho;simp only at h;rw [this] at h;cases h
   | none =>
    rw [ho] at h;simp only at h ⊢;by_cases h120:(Tt p.Hunks text 0).length > 120
    ·rw [Af h120] at h;cases h
    ·rw [Ae h120];obtain ⟨a1,a2⟩:=(U4 p).1 (by omega)
     exact ⟨a1,a2,(Lo _).2 ((H4 _).2 (by omega)),(Zs _ _ _).1 ho,by omega,rfl⟩
theorem bool_or {p:Prop} [Decidable p] {b:Bool}:(if decide p=true then some true else some b)=some (decide p || b):=by
 by_cases h:p <;> simp [h]
def gr (h:Hunk):Int:=(h.New.length:Int) - h.Old.length
def rng (h:Hunk):Range_commute:=⟨h.At,h.At+h.Old.length,gr h⟩
def newR:Int→Bc→H7
 | _,[]=>[]
 | s,h::r=>⟨h.At+s,h.At+s+h.New.length,gr h⟩::newR (s+gr h) r
def tch (a b:Range_commute):Bool:=decide (a.High ≥ b.Low) && decide (b.High ≥ a.Low)
def SmH (B:Int) (h:Hunk):Prop:=-B≤h.At∧h.At≤B∧h.Old.length≤120∧h.New.length≤120
def Sm (B:Int) (l:Bc):Prop:=l.length≤130∧∀ h∈l,SmH B h
theorem sm_of {p:Patch} (h:(Lk p).Code=0):Sm 120 p.Hunks:=by
 obtain ⟨h1,h2⟩:=(U4 p).1 h;refine ⟨h1,fun x hx=>?_⟩;obtain ⟨a1,a2,a3,a4,_⟩:=Zo h2 (by omega) x hx
 exact ⟨by omega,by omega,Kp a3,Kp a4⟩
theorem growth_f (h:Hunk) (h1:h.Old.length≤120) (h2:h.New.length≤120):Qs h=some (gr h):=by
 unfold Qs;rw [Df (by omega) (by omega)];rfl
theorem rend_f (h:Hunk) (h0 : -1000000≤h.At) (h1:h.At≤1000000) (h2:h.Old.length≤1000000):G4 h=some (h.At+h.Old.length):=by
 unfold G4;rw [Df (by omega) (by omega)];rfl
theorem gr_small {h:Hunk} (h1:h.Old.length≤120) (h2:h.New.length≤120) : -120≤gr h∧gr h≤120:=by unfold gr;omega
theorem oldRanges_f {B:Int} (hB:B≤20000) (p:Patch) (hp:Sm B p.Hunks):Gu p=some (p.Hunks.map rng):=by
 obtain ⟨hl,hs⟩:=hp
 have key:∀ (rest:Bc) (k:Nat) (out:H7),p.Hunks.drop k=rest→out.length=k→Eo (fun s=>Gu.l1 p s.1 s.2) ((k:Int),out)=some (out++rest.map rng):=by
  intro rest
  induction rest with
  | nil =>
   intro k out hk _;have:=L3 hk;refine B5 ?_;simp only;unfold Gu.l1;rw [A5,Ae (by omega),List.map_nil,Bx]
  | cons h r ih =>
   intro k out hk h3;obtain ⟨hlt,hh,hr⟩:=Me hk;obtain ⟨b1,b2,b3,b4⟩:=hs h (hh ▸ Bn hlt)
   have e0:Gu.l1 p (k:Int) out=some (.next (((k+1:Nat):Int),out++[rng h])):=by
    unfold Gu.l1
    rw [A5,Af (by omega),Ch hlt,Aa,hh,end_f h (by omega) (by omega) (by omega),Aa,growth_f h b3 b4,Aa,
     Gm (by simp only [Ax];omega),Aa,Df (by omega) (by omega),Aa]
    rfl
   rw [C0 e0,ih (k+1) _ hr (by simp;omega),Ey,Az]
   rfl
 unfold Gu;rw [show (0:Int)=((0:Nat):Int) from rfl,key p.Hunks 0 [] rfl rfl,Aa];rfl
theorem clone_f (l:Ac) (h:l.length≤1000000):Nf l=some l:=by
 unfold Nf
 have e:((app? 16 ([]:Ac) l).bind fun y1=>some y1)=some l:=by
  rw [Gm (by simp only [G1];omega)];rfl
 rw [e,nilIf_same (fun h=>by rw [h])]
theorem copy_f {B:Int} (p:Patch) (hp:Sm B p.Hunks):Kc p=some p:=by
 obtain ⟨hl,hs⟩:=hp
 have key:∀ (rest:Bc) (k:Nat) (out:Bc),p.Hunks.drop k=rest→out.length=k→Eo (fun s=>Kc.l1 p s.1 s.2) ((k:Int),out)=some (out++rest):=by
  intro rest
  induction rest with
  | nil =>
   intro k out hk _;have:=L3 hk;refine B5 ?_;simp only;unfold Kc.l1;rw [A5,Ae (by omega),Bx]
  | cons h r ih =>
   intro k out hk h3;obtain ⟨hlt,hh,hr⟩:=Me hk;obtain ⟨b1,b2,b3,b4⟩:=hs h (hh ▸ Bn hlt)
   have e0:Kc.l1 p (k:Int) out=some (.next (((k+1:Nat):Int),out++[h])):=by
    unfold Kc.l1
    rw [A5,Af (by omega),Ch hlt,Aa,hh,clone_f _ (by omega),Aa,clone_f _ (by omega),Aa,
     Gm (by simp only [Ax];omega),Aa,Df (by omega) (by omega),Aa]
    rfl
   rw [C0 e0,ih (k+1) _ hr (by simp;omega),Az]
   rfl
 unfold Kc;rw [show (0:Int)=((0:Nat):Int) from rfl,key p.Hunks 0 [] rfl rfl,Aa];rfl
theorem fless {f:Fault} (h:f=⟨0,0⟩∨f.Code≠0):(!(decide (f.Code=0) && decide (f.Index=0)))=decide (f.Code≠0):=by
 rcases h with h | h
 ·rw [h];rfl
 ·simp [h]
theorem rat_f (c i:Int):B7 c i=some ⟨c,i⟩:=rfl
theorem rpatchFault_f (p:Patch):Dr p=some (Lk p):=by
 unfold Dr Lk;rw [A5];by_cases h130:p.Hunks.length > 130
 ·rw [Af (by omega),Af h130];rfl
 ·rw [Ae (by omega),Ae h130]
  have key:∀ (rest:Bc) (k:Nat) (e:Int),p.Hunks.drop k=rest→((k=0∧e = -1)∨(0 < k∧∃ (h:k - 1 < p.Hunks.length),e=p.Hunks[k - 1].At+p.Hunks[k - 1].Old.length∧0≤p.Hunks[k - 1].At∧e≤120)) →
    Eo (fun s=>Dr.l1 p s) (k:Int)=some (orL (Xh k e rest)):=by
   intro rest
   induction rest with
   | nil =>
    intro k e hk _;have:=L3 hk;refine B5 ?_;unfold Dr.l1;rw [A5,Ae (by omega)];rfl
   | cons h r ih =>
    intro k e hk he;obtain ⟨hlt,hh,hr⟩:=Me hk;rw [Xh]
    have e0:Dr.l1 p (k:Int)=if Yg h e=0 then some (.next ((k+1:Nat):Int)) else some (.done (.inl ⟨Yg h e,(k:Int)⟩)):=by
     unfold Dr.l1;rw [A5,Af (by omega),Ch hlt,Aa,hh]
     simp only [rat_f,N7,Aa];unfold Yg;rw [bool_or,Aa];by_cases c1:h.At < 0∨h.At > 120
     ·have:(decide (h.At < 0) || decide (h.At > 120))=true:=by simp;omega
      rw [Af this,Af c1,Ae (by decide)]
     ·have:(decide (h.At < 0) || decide (h.At > 120))=false:=by simp;omega
      rw [this,Ae (by decide),Ae c1]
      simp only [L5];by_cases c2:(Cq h.Old).Code=0
      ·rw [Af c2];by_cases c3:(Cq h.New).Code=0
       ·rw [Af c3];have l1:=Kp c2;have l2:=Kp c3;simp only [c2,c3,ne_eq,not_true,Eh];rw [Df (by omega) (by omega),Aa]
        have hprev:(if decide (((k:Nat):Int) > 0)=true then (ckK .i64 ((k:Int) - 1)).bind fun z2=>(at? p.Hunks z2).bind fun y8=>(G4 y8).bind fun y9=>some (decide (h.At≤y9)) else some false)=some (decide (h.At≤e)):=by
         rcases he with ⟨k0,e0⟩ | ⟨kp,hk1,e1,e2,e3⟩
         ·rw [A5,Ae (by omega),e0,Ao (by omega)]
         ·rw [A5,Af (by omega),Df (by omega) (by omega),Aa,show (k:Int) - 1=((k - 1:Nat):Int) by omega,Ch hk1,Aa,rend_f _ (by omega) (by omega) (by omega),Aa,e1]
        rw [hprev,Aa,bool_or,Aa];by_cases c4:h.Old.length+h.New.length=0∨h.At≤e
        ·have:(decide ((h.Old.length:Int)+(h.New.length:Int)=0) || decide (h.At≤e))=true:=by simp;omega
         rw [Af this,Af c4,Ae (by decide)]
        ·have:(decide ((h.Old.length:Int)+(h.New.length:Int)=0) || decide (h.At≤e))=false:=by simp;omega
         rw [this,Ae (by decide),Ae c4,rend_f h (by omega) (by omega) (by omega),Aa,A5]
         by_cases c5:h.At+h.Old.length > 120
         ·rw [Af c5,Af c5,Ae (by decide)]
         ·rw [Ae c5,Ae c5,Af rfl,Df (by omega) (by omega),Aa];rfl
       ·rw [Ae c3];simp only [c2,ne_eq,not_true,Eh,c3,not_false_iff,Gi]
      ·rw [Ae c2];simp only [c2,ne_eq,not_false_iff,Gi,Eh]
    by_cases hc:Yg h e=0
    ·rw [Af hc] at e0 ⊢;obtain ⟨z1,z2,z3,z4,z5,z6⟩:=Xn hc;rw [C0 e0];refine ih (k+1) _ hr (Or.inr ⟨by omega,by simpa using hlt,?_⟩)
     simp only [Nat.add_sub_cancel,hh];exact ⟨trivial,z1,z6⟩
    ·rw [Ae hc] at e0 ⊢;exact B5 e0
  rw [show (0:Int)=((0:Nat):Int) from rfl,key p.Hunks 0 (-1) rfl (Or.inl ⟨rfl,rfl⟩),Aa];cases Xh ((0:Nat):Int) (-1) p.Hunks <;> rfl
theorem patch_refl {B:Int} (p:Patch) (hp:Sm B p.Hunks):Ep p p=some true:=by
 obtain ⟨hl,hs⟩:=hp;unfold Ep;rw [L5,Af rfl]
 have key:∀ (rest:Bc) (k:Nat),p.Hunks.drop k=rest→Eo (fun s=>Ep.l1 p p s) (k:Int)=some (.inr ()):=by
  intro rest
  induction rest with
  | nil =>
   intro k hk;have:=L3 hk;refine B5 ?_;unfold Ep.l1;rw [A5,Ae (by omega)]
  | cons h r ih =>
   intro k hk;obtain ⟨hlt,hh,hr⟩:=Me hk;obtain ⟨b1,b2,b3,b4⟩:=hs h (hh ▸ Bn hlt)
   have e0:Ep.l1 p p (k:Int)=some (.next ((k+1:Nat):Int)):=by
    unfold Ep.l1;rw [A5,Af (by omega)]
    simp only [Ch hlt,Aa,hh,Zp h.Old h.Old (by omega),Zp h.New h.New (by omega),Hk,G9,Cl,Eh]
    rw [Df (by omega) (by omega)];rfl
   rw [C0 e0,ih (k+1) hr]
 rw [show (0:Int)=((0:Nat):Int) from rfl,key p.Hunks 0 rfl];rfl
structure Pc where
 k:Bool
 g:Int
 o:Ac
 n:Ac
def sel (t u:Bool):Int→List Pc→Bc
 | _,[]=>[]
 | e,c::r=>if c.k=t then ⟨e+c.g,c.o,c.n⟩::sel t u (e+c.g+c.o.length) r else sel t u (e+c.g+(if u=true then (c.n.length:Int) else c.o.length)) r
theorem sel_s {t u:Bool} {c:Pc} {r:List Pc} {e:Int} (h:c.k=t):sel t u e (c::r)=⟨e+c.g,c.o,c.n⟩::sel t u (e+c.g+c.o.length) r:=by rw [sel,Af h]
theorem sel_o {t:Bool} {c:Pc} {r:List Pc} {e:Int} (h:¬ c.k=t):sel t false e (c::r)=sel t false (e+c.g+c.o.length) r:=by rw [sel,Ae h,Ae (by decide)]
theorem sel_n {t:Bool} {c:Pc} {r:List Pc} {e:Int} (h:¬ c.k=t):sel t true e (c::r)=sel t true (e+c.g+c.n.length) r:=by rw [sel,Ae h,Af rfl]
def Val (m:List Pc):Prop:=∀ c∈m,1≤c.g
theorem val_nil:Val []:=fun _ hc=>by cases hc
def Srt:Int→Bc→Prop
 | _,[]=>True
 | e,h::r=>e < h.At∧Srt (h.At+h.Old.length) r
theorem srt_of:∀ (l:Bc) (e:Int),Good e l→Srt e l
 | [],_,_=>trivial
 | _::r,_,hg=>⟨(Xn hg.1).2.2.2.2.1,srt_of r _ hg.2⟩
def NoT (a b:H7):Prop:=∀ x∈a,∀ y∈b,tch x y=false
theorem lt_of_tch {a b:Range_commute} (h:tch a b=false):a.High < b.Low∨b.High < a.Low:=by
 unfold tch at h;by_cases h1:a.High ≥ b.Low
 ·by_cases h2:b.High ≥ a.Low
  ·rw [As h1,As h2] at h;cases h
  ·right;omega
 ·left;omega
theorem pieces:∀ (N:Nat) (pl ql:Bc) (e s:Int),pl.length+ql.length≤N→Srt e pl→Srt (e+s) ql→NoT (newR s pl) (ql.map rng)→∃ m,Val m∧pl=sel true false e m∧ql=sel false true (e+s) m:=by
 intro N
 induction N with
 | zero =>
  intro pl ql e s hN _ _ _;have h1:pl=[]:=Dz (by omega)
  have h2:ql=[]:=Dz (by omega)
  exact ⟨[],val_nil,h1,h2⟩
 | succ N ih =>
  intro pl ql e s hN hp hq hno
  have takeP:∀ (h:Hunk) (pr:Bc),pl=h::pr→Srt (h.At+h.Old.length+(s+gr h)) ql→∃ m,Val m∧pl=sel true false e m∧ql=sel false true (e+s) m:=by
   intro h pr hpl hq';subst hpl;obtain ⟨m,m1,m2,m3⟩:=ih pr ql (h.At+h.Old.length) (s+gr h) (by simp at hN;omega) hp.2 hq' (fun x hx y hy=>hno x (by rw [newR];exact B2 _ hx) y hy)
   refine ⟨⟨true,h.At - e,h.Old,h.New⟩::m,?_,?_,?_⟩
   ·intro c hc;rcases Cd.1 hc with rfl | hc
    ·have:=hp.1;simp only;omega
    ·exact m1 c hc
   ·rw [sel_s (c:=⟨true,h.At - e,h.Old,h.New⟩) rfl];simp only;rw [show e+(h.At - e)=h.At by omega,← m2]
   ·rw [sel_n (by simp)]
    simp only;rw [show e+s+(h.At - e)+(h.New.length:Int)=h.At+h.Old.length+(s+gr h) by unfold gr;omega]
    exact m3
  have takeQ:∀ (h:Hunk) (qr:Bc),ql=h::qr→Srt (h.At+h.Old.length - s) pl→∃ m,Val m∧pl=sel true false e m∧ql=sel false true (e+s) m:=by
   intro h qr hql hp';subst hql;have hq2:=hq.2;rw [show h.At+(h.Old.length:Int)=h.At+h.Old.length - s+s by omega] at hq2
   obtain ⟨m,m1,m2,m3⟩:=ih pl qr (h.At+h.Old.length - s) s (by simp at hN;omega) hp' hq2 (fun x hx y hy=>hno x hx y (by rw [Ey];exact B2 _ hy))
   refine ⟨⟨false,h.At - s - e,h.Old,h.New⟩::m,?_,?_,?_⟩
   ·intro c hc;rcases Cd.1 hc with rfl | hc
    ·have:=hq.1;simp only;omega
    ·exact m1 c hc
   ·rw [sel_o (by simp)]
    simp only;rw [show e+(h.At - s - e)+(h.Old.length:Int)=h.At+h.Old.length - s by omega]
    exact m2
   ·rw [sel_s (c:=⟨false,h.At - s - e,h.Old,h.New⟩) rfl];simp only;rw [show e+s+(h.At - s - e)=h.At by omega,show h.At+(h.Old.length:Int)=h.At+h.Old.length - s+s by omega,← m3]
  match hpl:pl,hql:ql with
  | [],[]=>exact ⟨[],val_nil,rfl,rfl⟩
  | h::pr,[]=>exact takeP h pr rfl trivial
  | [],h::qr=>exact takeQ h qr rfl trivial
  | h::pr,y::qr =>
   have ht:=hno ⟨h.At+s,h.At+s+h.New.length,gr h⟩ (by rw [newR];simp) (rng y) (by simp)
   rcases lt_of_tch ht with h1 | h1
   ·refine takeP h pr rfl ⟨?_,hq.2⟩;have h1':h.At+s+h.New.length < y.At:=h1;unfold gr;omega
   ·refine takeQ y qr rfl ⟨?_,hp.2⟩;have h1':y.At+y.Old.length < h.At+s:=h1;omega
theorem rawS_cut:∀ (hs:Bc) (T:Ac) (b n:Nat),(∀ h∈hs,((b+n:Nat):Int)≤h.At)→Tt hs T b=(T.drop b).take n++Tt hs T (b+n)
 | [],T,b,n,_=>by rw [Tt,Tt,← G5,Ki]
 | h::r,T,b,n,ha=>by
  have:=ha h (by simp)
  rw [Tt,Tt,show h.At.toNat - b=n+(h.At.toNat - (b+n)) by omega,Ua,G5,Az]
def chF (c:TreeChange):Int :=
 if c.Kind < 1∨c.Kind > 4 then 4
 else if La c.Path=false∨(c.Kind=3∧La c.To=false) then 12
 else if (c.Kind≠3∧c.To≠⟨#[]⟩)∨(c.Kind=3∧Oj c.Path c.To=true)∨(c.Lines≠[]∧(c.Kind=4∨c.Kind=3))∨(c.Kind=4∧c.Patch.Hunks=[])∨(c.Kind≠4∧c.Patch.Hunks≠[]) then 5
 else if (Cq c.Lines).Code≠0 then (Cq c.Lines).Code else (Lk c.Patch).Code
theorem len_pos_dec {α:Type} (l:List α):decide ((l.length:Int) > 0)=decide (l≠[]):=D4.2 (by cases l <;> simp <;> omega)
theorem len_zero_dec {α:Type} (l:List α):decide ((l.length:Int)=0)=decide (l=[]):=D4.2 (by cases l <;> simp <;> omega)
theorem rel_ok {c:TreeChange} (h:¬ (La c.Path=false∨(c.Kind=3∧La c.To=false))) (h3:c.Kind=3):c.Path.size≤1000000∧c.To.size≤1000000:=by
 have h1:La c.Path=true:=by cases hh:La c.Path with | true=>rfl | false=>exact absurd (Or.inl hh) h
 have h2:La c.To=true:=by cases hh:La c.To with | true=>rfl | false=>exact absurd (Or.inr ⟨h3,hh⟩) h
 have:=Mx h1;have:=Mx h2;omega
theorem check_f (c:TreeChange):Ta c=some (chF c):=by
 unfold Ta chF;simp only [ValidPath_f,orB,andB,Aa,len_pos_dec];by_cases h1:c.Kind < 1∨c.Kind > 4
 ·rw [Af h1,Af (by simpa using h1)]
 ·rw [Ae h1,Ae (by simpa using h1)]
  have e2:(!La c.Path || if decide (c.Kind=3)=true then !La c.To else false)=decide (La c.Path=false∨(c.Kind=3∧La c.To=false)):=by
   by_cases h3:c.Kind=3 <;> cases La c.Path <;> cases La c.To <;> simp [h3]
  have e2':(if !La c.Path=true then some true else (if decide (c.Kind=3)=true then some (!La c.To) else some false).bind fun x3=>some x3)=some (decide (La c.Path=false∨(c.Kind=3∧La c.To=false))):=by
   rw [← e2];by_cases h3:c.Kind=3 <;> cases La c.Path <;> cases La c.To <;> simp [h3]
  by_cases h2:La c.Path=false∨(c.Kind=3∧La c.To=false)
  ·rw [Af h2];rw [As h2] at e2';simp only [Aa,andB,orB] at e2' ⊢;rw [show (!La c.Path || (decide (c.Kind=3) && !La c.To))=true from by simpa using e2']
   rfl
  ·rw [Ae h2];rw [Ao h2] at e2';simp only [Aa,andB,orB] at e2' ⊢;rw [show (!La c.Path || (decide (c.Kind=3) && !La c.To))=false from by simpa using e2']
   rw [Ae (by decide)]
   have e3:(if decide (c.Kind=3)=true then (L7 c.Path c.To).bind fun y3=>some y3 else some false)=some (decide (c.Kind=3) && Oj c.Path c.To):=by
    by_cases h3:c.Kind=3
    ·obtain ⟨a,b⟩:=rel_ok h2 h3;rw [Related_f a b,As h3];rfl
    ·rw [Ao h3];rfl
   rw [e3];simp only [Aa,orB];by_cases h5:(c.Kind≠3∧c.To≠⟨#[]⟩)∨(c.Kind=3∧Oj c.Path c.To=true)∨(c.Lines≠[]∧(c.Kind=4∨c.Kind=3))∨(c.Kind=4∧c.Patch.Hunks=[])∨(c.Kind≠4∧c.Patch.Hunks≠[])
   ·rw [Af h5];by_cases g1:((!decide (c.Kind=3) && !decide (c.To=⟨#[]⟩)) || (decide (c.Kind=3) && Oj c.Path c.To))=true
    ·rw [Af g1]
    ·rw [Ae g1];by_cases g2:(decide (c.Lines≠[]) && (decide (c.Kind=4) || decide (c.Kind=3)))=true
     ·rw [Af g2]
     ·rw [Ae g2,Af];simp only [Gt,Ec,Bool.not_eq_true',Cg,E1,ne_eq] at g1 g2 h5 ⊢;by_cases k4:c.Kind=4 <;> by_cases kh:c.Patch.Hunks=[] <;> simp [k4,kh] at h5 g1 g2 ⊢
      all_goals first
       | omega
       | (rcases h5 with ⟨a,b⟩ | ⟨a,b⟩ | ⟨a,b⟩ <;> simp_all)
       | simp_all
   ·rw [Ae h5]
    rw [Ae (by
     simp only [Gt,Ec,Bool.not_eq_true',Cg,E1,ne_eq];intro h;rcases h with h | h
     ·exact h5 (Or.inl h)
     ·exact h5 (Or.inr (Or.inl h)))]
    rw [Ae (by
     simp only [Gt,Ec,Cg];intro h;exact h5 (Or.inr (Or.inr (Or.inl h))))]
    rw [Ae (by
     simp only [Bool.not_eq_true',E1];intro h;by_cases k4:c.Kind=4 <;> by_cases kh:c.Patch.Hunks=[] <;> simp [k4,kh] at h5 h)]
    rw [V3,Aa,fless (Q3 c.Lines),A5,pvalidate_f];split <;> rfl
theorem ChangeCode_f (c:TreeChange):Lw c=some (chF c):=by
 unfold Lw chF;simp only [PathValid_f,Xo,orB,andB,Aa,len_pos_dec,len_zero_dec];by_cases h1:c.Kind < 1∨c.Kind > 4
 ·rw [Af h1,Af (by simp;omega)]
 ·rw [Ae h1,Ae (by simp;omega)]
  have e2:(!La c.Path || (decide (c.Kind=3) && !La c.To))=decide (La c.Path=false∨(c.Kind=3∧La c.To=false)):=by
   by_cases h3:c.Kind=3 <;> cases La c.Path <;> cases La c.To <;> simp [h3]
  rw [e2,A5];by_cases h2:La c.Path=false∨(c.Kind=3∧La c.To=false)
  ·rw [Af h2,Af h2]
  ·rw [Ae h2,Ae h2]
   have e5:(!decide (c.Kind=3) && !decide (c.To=⟨#[]⟩) || decide (c.Kind=3) && Oj c.Path c.To || !decide (c.Kind=1) && !decide (c.Kind=2) && decide (c.Lines≠[]) || decide (c.Kind=4) && decide (c.Patch.Hunks=[]) || !decide (c.Kind=4) && decide (c.Patch.Hunks≠[])) =
     decide ((c.Kind≠3∧c.To≠⟨#[]⟩)∨(c.Kind=3∧Oj c.Path c.To=true)∨(c.Lines≠[]∧(c.Kind=4∨c.Kind=3))∨(c.Kind=4∧c.Patch.Hunks=[])∨(c.Kind≠4∧c.Patch.Hunks≠[])):=by
    have hk:c.Kind=1∨c.Kind=2∨c.Kind=3∨c.Kind=4:=by omega
    rcases hk with k | k | k | k <;> rw [k] <;> by_cases t1:c.To=⟨#[]⟩ <;> by_cases t2:c.Lines=[] <;> by_cases t3:c.Patch.Hunks=[] <;> cases Oj c.Path c.To <;> simp [t1,t2,t3]
   rw [e5,A5];split
   ·rfl
   ·rw [N7,Aa,rpatchFault_f,L5];by_cases h:(Cq c.Lines).Code=0
    ·rw [Af h,Ae (by simpa using h)];rfl
    ·rw [Ae h,Af h]
structure OkCh (c:TreeChange):Prop where
 kind:1≤c.Kind∧c.Kind≤4
 path:La c.Path=true
 to:c.Kind=3→La c.To=true∧Oj c.Path c.To=false
 noTo:c.Kind≠3→c.To=⟨#[]⟩
 noLines:c.Kind=4∨c.Kind=3→c.Lines=[]
 hunks:c.Kind=4→c.Patch.Hunks≠[]
 noHunks:c.Kind≠4→c.Patch.Hunks=[]
 lines:(Cq c.Lines).Code=0
 patch:(Lk c.Patch).Code=0
theorem chF_ok {c:TreeChange}:chF c=0↔OkCh c:=by
 unfold chF;constructor
 ·intro h;split at h
  ·cases h
  ·rename_i h1
   split at h
   ·cases h
   ·rename_i h2
    split at h
    ·cases h
    ·rename_i h3
     split at h
     ·rename_i h4;exact absurd h h4
     ·rename_i h4
      refine ⟨by omega,?_,fun k=>⟨?_,?_⟩,fun k=>?_,fun k=>?_,fun k e=>?_,fun k=>?_,by omega,h⟩
      ·cases hh:La c.Path with | true=>rfl | false=>exact absurd (Or.inl hh) h2
      ·cases hh:La c.To with | true=>rfl | false=>exact absurd (Or.inr ⟨k,hh⟩) h2
      ·cases hh:Oj c.Path c.To with | false=>rfl | true=>exact absurd (Or.inr (Or.inl ⟨k,hh⟩)) h3
      ·exact Decidable.by_contra fun e=>h3 (Or.inl ⟨k,e⟩)
      ·exact Decidable.by_contra fun e=>h3 (Or.inr (Or.inr (Or.inl ⟨e,k⟩)))
      ·exact h3 (Or.inr (Or.inr (Or.inr (Or.inl ⟨k,e⟩))))
      ·exact Decidable.by_contra fun e=>h3 (Or.inr (Or.inr (Or.inr (Or.inr ⟨k,e⟩))))
 ·rintro ⟨a1,a2,a3,a4,a5,a6,a7,a8,a9⟩;rw [Ae (by omega),Ae,Ae,Ae (by omega),a9]
  ·rintro (⟨h,e⟩ | ⟨h,e⟩ | ⟨e,h⟩ | ⟨h,e⟩ | ⟨h,e⟩)
   ·exact e (a4 h)
   ·rw [(a3 h).2] at e;cases e
   ·exact e (a5 h)
   ·exact a6 h e
   ·exact e (a7 h)
  ·rintro (h | ⟨h,e⟩)
   ·rw [a2] at h;cases h
   ·rw [(a3 h).1] at e;cases e
def Md (c:TreeChange):Ac:=if c.Kind=3 then [c.Path,c.To] else [c.Path]
def Tz (p:ByteArray) (c:TreeChange):Bool:=(Md c).any fun q=>Oj q p
def indB (a b:TreeChange):Bool:=!(Md a).any fun p=>Tz p b
theorem paths_f (c:TreeChange):Nu c=some (Md c):=by
 unfold Nu Md;rw [A5];split <;> rfl
theorem OkCh.size {c:TreeChange} (h:OkCh c):∀ p∈Md c,p.size≤60:=by
 intro p hp;unfold Md at hp;split at hp
 ·rename_i k
  simp only [Cd,List.not_mem_nil,or_false] at hp;rcases hp with rfl | rfl
  ·exact Mx h.path
  ·exact Mx (h.to k).1
 ·simp only [Bi] at hp;subst hp;exact Mx h.path
theorem any_drop {α:Type} (p:α→Bool) {l:List α} {k:Nat} (h:k < l.length):(l.drop k).any p=(p l[k] || (l.drop (k+1)).any p):=by
 rw [Eb h,Lj]
theorem paths_len (c:TreeChange):(Md c).length≤2:=by unfold Md;split <;> simp
theorem touches_f {p:ByteArray} {c:TreeChange} (hp:p.size≤1000000) (hc:∀ q∈Md c,q.size≤60):Ck p [c]=some (Tz p c):=by
 have hlen:=paths_len c
 have key:∀ (n k:Nat),k+n=(Md c).length→(Eo (fun s=>Ck.l2 p (Md c) s) (k:Int)=some (.inr ())∧((Md c).drop k).any (fun q=>Oj q p)=false) ∨
   ∃ j:Nat,Eo (fun s=>Ck.l2 p (Md c) s) (k:Int)=some (.inl (j:Int))∧((Md c).drop k).any (fun q=>Oj q p)=true:=by
  intro n
  induction n with
  | zero =>
   intro k hk;left;refine ⟨B5 ?_,by rw [Ef (by omega)];rfl⟩
   unfold Ck.l2;rw [A5,Ae (by omega)]
  | succ n ih =>
   intro k hk;have hlt:k < (Md c).length:=by omega
   have hq:=hc _ (Bn hlt);rw [any_drop _ hlt]
   have e:Ck.l2 p (Md c) (k:Int)=if Oj (Md c)[k] p=true then some (Step.done (Sum.inl (k:Int))) else some (Step.next ((k+1:Nat):Int)):=by
    unfold Ck.l2;rw [A5,Af (by omega),Ch hlt,Aa,Related_f (by omega) hp,Aa]
    split
    ·rfl
    ·rw [Df (by omega) (by omega)];rfl
   cases hb:Oj (Md c)[k] p with
   | true =>
    rw [hb,Af rfl] at e;exact Or.inr ⟨k,B5 e,by rw [Bool.true_or]⟩
   | false =>
    rw [hb,Ae (by decide)] at e
    rw [C0 e,K1];exact ih (k+1) (by omega)
 unfold Ck
 have e1:Ck.l1 p [c] 0=if Tz p c=true then some (Step.done (Sum.inl true)) else some (Step.next 1):=by
  unfold Ck.l1;rw [Af (by simp),show at? [c] 0=some c from rfl,Aa,paths_f,Aa]
  rcases key (Md c).length 0 (by omega) with ⟨h1,h2⟩ | ⟨j,h1,h2⟩
  ·rw [show (0:Int)=((0:Nat):Int) from rfl,h1,Aa];rw [List.drop_zero] at h2;unfold Tz;rw [h2,Ae (by decide)]
   rfl
  ·rw [show (0:Int)=((0:Nat):Int) from rfl,h1,Aa];rw [List.drop_zero] at h2;unfold Tz;rw [h2,Af rfl];simp only [Ck.j2];rw [A5,Af (by omega)]
 cases h:Tz p c with
 | true =>
  rw [h,Af rfl] at e1;rw [B5 e1];rfl
 | false =>
  rw [h,Ae (by decide)] at e1
  have e2:Ck.l1 p [c] 1=some (Step.done (Sum.inr ())):=by
   unfold Ck.l1;rw [Ae (by simp)]
  rw [C0 e1,B5 e2];rfl
theorem independent_f {a b:TreeChange} (ha:∀ q∈Md a,q.size≤60) (hb:∀ q∈Md b,q.size≤60):C9 a b=some (indB a b):=by
 have hlen:=paths_len a
 have key:∀ (n k:Nat),k+n=(Md a).length→(Eo (fun s=>C9.l1 b (Md a) s) (k:Int)=some (.inr ())∧((Md a).drop k).any (fun q=>Tz q b)=false) ∨
   ∃ j:Nat,Eo (fun s=>C9.l1 b (Md a) s) (k:Int)=some (.inl (j:Int))∧((Md a).drop k).any (fun q=>Tz q b)=true:=by
  intro n
  induction n with
  | zero =>
   intro k hk;left;refine ⟨B5 ?_,by rw [Ef (by omega)];rfl⟩
   unfold C9.l1;rw [A5,Ae (by omega)]
  | succ n ih =>
   intro k hk;have hlt:k < (Md a).length:=by omega
   have hq:=ha _ (Bn hlt);rw [any_drop _ hlt]
   have e:C9.l1 b (Md a) (k:Int)=if Tz (Md a)[k] b=true then some (Step.done (Sum.inl (k:Int))) else some (Step.next ((k+1:Nat):Int)):=by
    unfold C9.l1;rw [A5,Af (by omega),Ch hlt,Aa,touches_f (by omega) hb,Aa]
    split
    ·rfl
    ·rw [Df (by omega) (by omega)];rfl
   cases hx:Tz (Md a)[k] b with
   | true =>
    rw [hx,Af rfl] at e;exact Or.inr ⟨k,B5 e,by rw [Bool.true_or]⟩
   | false =>
    rw [hx,Ae (by decide)] at e
    rw [C0 e,K1];exact ih (k+1) (by omega)
 unfold C9 indB;rw [paths_f,Aa];rcases key (Md a).length 0 (by omega) with ⟨h1,h2⟩ | ⟨j,h1,h2⟩
 ·rw [show (0:Int)=((0:Nat):Int) from rfl,h1,Aa];rw [List.drop_zero] at h2;rw [h2];rfl
 ·rw [show (0:Int)=((0:Nat):Int) from rfl,h1,Aa];rw [List.drop_zero] at h2;rw [h2];simp only [C9.j1];rw [As (by omega)]
theorem touB_def (p:ByteArray) (c:TreeChange):Tz p c=(Oj c.Path p || (decide (c.Kind=3) && Oj c.To p)):=by
 unfold Tz Md;by_cases k:c.Kind=3 <;> simp [k]
theorem Touches_f (c:TreeChange) (p:ByteArray):Ml c p=some (Tz p c):=by
 unfold Ml;simp only [Xo,orB,andB,Aa];rw [touB_def]
def edF (path:ByteArray) (p:Patch):TreeChange:=⟨4,path,ByteArray.empty,[],p⟩
theorem vpatch1_f (c:TreeChange):Dl ⟨[c]⟩=some (if chF c≠0 then ⟨chF c,0⟩ else ⟨0,0⟩):=by
 unfold Dl;rw [Ae (by simp)]
 have e1:Dl.l1 ⟨[c]⟩ 0=if chF c≠0 then some (Step.done (Sum.inl ⟨chF c,0⟩)) else some (Step.next 1):=by
  unfold Dl.l1;rw [Af (by simp),show at? [c] 0=some c from rfl,Aa,check_f,Aa,L5]
  by_cases h:chF c=0
  ·rw [Af h,Ae (by simpa using h)];rfl
  ·rw [Ae h,Af h]
 by_cases h:chF c≠0
 ·rw [Af h] at e1;rw [B5 e1,Af h];rfl
 ·rw [Ae h] at e1
  have e2:Dl.l1 ⟨[c]⟩ 1=some (Step.done (Sum.inr ())):=by
   unfold Dl.l1;rw [Ae (by simp)]
  rw [C0 e1,B5 e2,Ae h];rfl
theorem secondPatch1_f (c:TreeChange) (i:Int):M6 ⟨[c]⟩ i=some (if chF c≠0 then ⟨chF c,i⟩ else ⟨0,0⟩):=by
 unfold M6;rw [vpatch1_f,Aa];by_cases h:chF c≠0
 ·rw [Af h,Af h,Af (by simp [h])]
 ·rw [Ae h,Ae h,Ae (by simp)]
theorem OkCh.sm {c:TreeChange} (h:OkCh c):Sm 120 c.Patch.Hunks:=sm_of h.patch
theorem OkCh.len {c:TreeChange} (h:OkCh c):c.Lines.length≤120:=Kp h.lines
theorem copyChange_f {c:TreeChange} {B:Int} (h1:c.Lines.length≤1000000) (h2:Sm B c.Patch.Hunks):Ms c=some c:=by
 unfold Ms;rw [clone_f _ h1,Aa,copy_f c.Patch h2,Aa]
theorem edit_f (p:ByteArray) (q:Patch):Nb p q=some (edF p q):=rfl
theorem and3 {p q r:Prop} [Decidable p] [Decidable q] [Decidable r]:((if decide p=true then some (decide q) else some false).bind fun x=>if x=true then some (decide r) else some false)=some (decide (p∧q∧r)):=by
 by_cases h1:p <;> by_cases h2:q <;> by_cases h3:r <;> simp [h1,h2,h3]
theorem and3K {p q r:Prop} [Decidable p] [Decidable q] [Decidable r] {β:Type} (K:Bool→Option β):((if decide p=true then some (decide q) else some false).bind fun x=>(if x=true then some (decide r) else some false).bind K)=K (decide (p∧q∧r)):=by
 rw [← Option.bind_assoc,and3,Aa]
theorem change_refl {c:TreeChange} {B:Int} (h1:c.Lines.length≤1000000) (h2:Sm B c.Patch.Hunks):Kn c c=some true:=by
 unfold Kn;rw [Zp _ _ h1,patch_refl _ h2];simp
theorem refl_ok {c:TreeChange} (h:OkCh c):Kn c c=some true:=change_refl (by have:=h.len;omega) h.sm
abbrev exR:TreeChange:=⟨3,⟨#[98]⟩,⟨#[97]⟩,[],⟨[]⟩⟩
abbrev exE:TreeChange:=⟨4,⟨#[97]⟩,ByteArray.empty,[],⟨[⟨0,[],[⟨#[120]⟩]⟩]⟩⟩
theorem exR_ok:chF exR=0:=by decide +kernel
theorem exE_ok:chF exE=0:=by decide +kernel
def Lines (t:Ac):Prop:=∀ s∈t,V4 s
theorem lines_of {t:Ac} (h:(Cq t).Code=0):Lines t:=((Lo t).2 ((H4 t).2 h)).2
theorem rawS_lines:∀ (hs:Bc) (t:Ac) (b:Nat),Lines t→(∀ h∈hs,Lines h.New)→Lines (Tt hs t b)
 | [],t,b,ht,_=>fun s hs=>ht s (Gq hs)
 | h::r,t,b,ht,hn=>by
  intro s hs;rw [Tt] at hs;rcases Bj.1 hs with hs | hs
  ·exact ht s (Gq (Hb hs))
  ·rcases Bj.1 hs with hs | hs
   ·exact hn h (by simp) s hs
   ·exact rawS_lines r t _ ht (fun x hx=>hn x (B2 _ hx)) s hs
theorem both_f (a b:Ac):U7 a b=some (if (Cq a).Code≠0 then Cq a else if (Cq b).Code=0 then ⟨0,0⟩ else ⟨(Cq b).Code,-2⟩):=by
 unfold U7;rw [V3,Aa];rcases Q3 a with h | h
 ·rw [h,second_f];rfl
 ·rw [Af (Yy.2 fun h2=>h h2.1),Af h]
abbrev Cst:=Bc×Int×Bool
def Vm (hs:Bc) (f:Hunk→Hunk):Bc:=match hs.getLast? with
 | some h=>hs.dropLast++[f h]
 | Option.none=>hs
def Om (s:Cst):Cst:=(s.1,s.2.1+1,false)
def Mh (s:Cst):Bc:=if s.2.2 then s.1 else s.1++[⟨s.2.1,[],[]⟩]
def Q6 (x:ByteArray) (s:Cst):Cst:=(Vm (Mh s) fun h=>{ h with Old:=h.Old++[x] },s.2.1+1,true)
def Tb (y:ByteArray) (s:Cst):Cst:=(Vm (Mh s) fun h=>{ h with New:=h.New++[y] },s.2.1,true)
def scr:Ac→Ac→Cst→Cst
 | [],[],s=>s
 | [],y::b,s=>scr [] b (Tb y s)
 | x::a,[],s=>scr a [] (Q6 x s)
 | x::a,y::b,s=>if x=y then scr a b (Om s) else if lcs a (y::b) ≥ lcs (x::a) b then scr a (y::b) (Q6 x s) else scr (x::a) b (Tb y s)
 termination_by a b=>a.length+b.length
theorem Ye {hs:Bc} {h:Hunk} (hl:hs.getLast? = some h) (f:Hunk→Hunk):∃ hlt:hs.length - 1 < hs.length,hs[hs.length - 1]=h∧hs.set (hs.length - 1) (f h)=Vm hs f:=by
 have hne:hs≠[]:=by intro e;subst e;cases hl
 have hlt:hs.length - 1 < hs.length:=by have:=L1.2 hne;omega
 have hgl:hs[hs.length - 1]=h:=by
  rw [List.getLast?_eq_some_getLast hne] at hl;simp only [Option.some.injEq] at hl;rw [← hl,List.getLast_eq_getElem]
 refine ⟨hlt,hgl,?_⟩;unfold Vm;rw [hl];simp only;rw [List.set_eq_take_append_cons_drop,Af hlt,List.dropLast_eq_take];have:hs.drop (hs.length - 1+1)=[]:=L4 (by omega)
 rw [this]
theorem Zr (s:Cst) (h:s.2.2=true→s.1≠[]):∃ q,(Mh s).getLast? = some q:=by
 unfold Mh;cases hb:s.2.2 with
 | true=>rw [Af rfl];exact ⟨_,List.getLast?_eq_some_getLast (h hb)⟩
 | false=>rw [Ae (by decide)];exact ⟨⟨s.2.1,[],[]⟩,by simp⟩
theorem setLast_len (hs:Bc) (f:Hunk→Hunk):(Vm hs f).length=hs.length:=by
 unfold Vm;cases h:hs.getLast? with
 | none=>rfl
 | some q =>
  have hne:hs≠[]:=by intro e;subst e;cases h
  have:=L1.2 hne
  simp;omega
theorem setLast_ne {hs:Bc} {f:Hunk→Hunk} (h:hs≠[]):Vm hs f≠[]:=by
 intro e;have:=setLast_len hs f;rw [e] at this;exact h (Dz this.symm)
theorem cOpen_ne (s:Cst) (h:s.2.2=true→s.1≠[]):Mh s≠[]:=by
 obtain ⟨q,hq⟩:=Zr s h;intro e;rw [e] at hq;cases hq
structure CInv (s:Cst) (k:Nat):Prop where
 open_:s.2.2=true→s.1≠[]
 len:s.1.length≤k
 at0:0≤s.2.1
 at1:s.2.1≤k
 each:∀ h∈s.1,h.Old.length≤k∧h.New.length≤k
theorem mem_setLast {hs:Bc} {f:Hunk→Hunk} {h:Hunk} (hm:h∈Vm hs f):h∈hs∨∃ q∈hs,h=f q:=by
 unfold Vm at hm;cases hl:hs.getLast? with
 | none=>rw [hl] at hm;exact .inl hm
 | some q =>
  rw [hl] at hm;simp only [Bj,Bi] at hm;rcases hm with hm | hm
  ·exact .inl ((List.dropLast_sublist hs).subset hm)
  ·exact .inr ⟨q,List.mem_of_getLast? hl,hm⟩
theorem V5 {s:Cst} {h:Hunk} (hm:h∈Mh s):h∈s.1∨(h.Old=[]∧h.New=[]):=by
 unfold Mh at hm;split at hm
 ·exact .inl hm
 ·rcases Bj.1 hm with hm | hm
  ·exact .inl hm
  ·simp at hm;subst hm;exact .inr ⟨rfl,rfl⟩
theorem Y6 (s:Cst):(Mh s).length≤s.1.length+1:=by unfold Mh;split <;> simp
theorem CInv.keep {s:Cst} {k:Nat} (h:CInv s k):CInv (Om s) (k+1):=⟨fun e=>by simp [Om] at e,by have:=h.len;simp only [Om];omega,by have:=h.at0;simp only [Om];omega,by have:=h.at1;simp only [Om];omega,fun q hq=>by have:=h.each q hq;omega⟩
theorem CInv.del {s:Cst} {k:Nat} (h:CInv s k) (x:ByteArray):CInv (Q6 x s) (k+1):=by
 refine ⟨fun _=>setLast_ne (cOpen_ne s h.open_),?_,by have:=h.at0;simp only [Q6];omega,by have:=h.at1;simp only [Q6];omega,fun q hq=>?_⟩
 ·have:=h.len;have:=Y6 s;simp only [Q6,setLast_len];omega
 ·simp only [Q6] at hq;rcases mem_setLast hq with hq | ⟨p,hp,rfl⟩
  ·rcases V5 hq with hq | ⟨h1,h2⟩
   ·have:=h.each q hq;omega
   ·simp [h1,h2]
  ·rcases V5 hp with hq | ⟨h1,h2⟩
   ·have:=h.each p hq;simp;omega
   ·simp [h1,h2]
theorem CInv.ins {s:Cst} {k:Nat} (h:CInv s k) (x:ByteArray):CInv (Tb x s) (k+1):=by
 refine ⟨fun _=>setLast_ne (cOpen_ne s h.open_),?_,h.at0,by have:=h.at1;simp only [Tb];omega,fun q hq=>?_⟩
 ·have:=h.len;have:=Y6 s;simp only [Tb,setLast_len];omega
 ·simp only [Tb] at hq;rcases mem_setLast hq with hq | ⟨p,hp,rfl⟩
  ·rcases V5 hq with hq | ⟨h1,h2⟩
   ·have:=h.each q hq;omega
   ·simp [h1,h2]
  ·rcases V5 hp with hq | ⟨h1,h2⟩
   ·have:=h.each p hq;simp;omega
   ·simp [h1,h2]
theorem coll_keep {s:Cst} {k:Nat} (h:CInv s k) (hk:k≤1000000):Nq ⟨s.1,s.2.1,s.2.2⟩ 1=some ⟨(Om s).1,(Om s).2.1,(Om s).2.2⟩:=by
 have hat0:=h.at0;have hat1:=h.at1;unfold Nq;rw [Af (by decide),Df (x:=s.2.1+1) (by omega) (by omega),Aa];rfl
theorem coll_del {s:Cst} {k:Nat} (h:CInv s k) (hk:k≤1000000) (x:ByteArray):Hg ⟨s.1,s.2.1,s.2.2⟩ x=some ⟨(Q6 x s).1,(Q6 x s).2.1,(Q6 x s).2.2⟩:=by
 obtain ⟨q,hq⟩:=Zr s h.open_;have hlen:=h.len;have hat0:=h.at0;have hat1:=h.at1
 have j4e:Hg.j1 ⟨s.1,s.2.1,s.2.2⟩ x (Mh s) true=some ⟨(Q6 x s).1,(Q6 x s).2.1,(Q6 x s).2.2⟩:=by
  obtain ⟨h1,h2,h3⟩:=Ye hq fun h=>{ h with Old:=h.Old++[x] };have hol:=Y6 s
  have hqm:q.Old.length≤k:=by
   rcases V5 (List.mem_of_getLast? hq) with hq | ⟨h1,_⟩
   ·exact (h.each q hq).1
   ·simp [h1]
  unfold Hg.j1;have ez:((Mh s).length:Int) - 1=(((Mh s).length - 1:Nat):Int):=by omega
  rw [Df (by omega) (by omega),Aa,ez,Ch h1,Aa,h2,Gm (by simp only [Ax];omega),Aa,Df (by show -9223372036854775808≤s.2.1+1;omega) (by show s.2.1+1≤9223372036854775807;omega),Aa,Aa]
  rw [Bh];have:(Mh s).set ((Mh s).length - 1) ({ At:=q.At,Old:=q.Old++[x],New:=q.New }:Hunk)=(Q6 x s).1:=h3;rw [this];rfl
 unfold Hg;simp only;cases hb:s.2.2 with
 | true =>
  have:Mh s=s.1:=by unfold Mh;rw [hb,Af rfl]
  rw [hb,this] at j4e;rw [Ae (by decide)];exact j4e
 | false =>
  have:Mh s=s.1++[⟨s.2.1,[],[]⟩]:=by unfold Mh;rw [hb,Ae (by decide)]
  rw [hb] at j4e;rw [Af (by decide),Gm (by simp only [Ax];omega),Aa,← this];exact j4e
theorem coll_ins {s:Cst} {k:Nat} (h:CInv s k) (hk:k≤1000000) (x:ByteArray):Hi ⟨s.1,s.2.1,s.2.2⟩ x=some ⟨(Tb x s).1,(Tb x s).2.1,(Tb x s).2.2⟩:=by
 obtain ⟨q,hq⟩:=Zr s h.open_;have hlen:=h.len;have hat0:=h.at0;have hat1:=h.at1
 have j4e:Hi.j1 ⟨s.1,s.2.1,s.2.2⟩ x (Mh s) true=some ⟨(Tb x s).1,(Tb x s).2.1,(Tb x s).2.2⟩:=by
  obtain ⟨h1,h2,h3⟩:=Ye hq fun h=>{ h with New:=h.New++[x] };have hol:=Y6 s
  have hqm:q.New.length≤k:=by
   rcases V5 (List.mem_of_getLast? hq) with hq | ⟨_,h1⟩
   ·exact (h.each q hq).2
   ·simp [h1]
  unfold Hi.j1;have ez:((Mh s).length:Int) - 1=(((Mh s).length - 1:Nat):Int):=by omega
  rw [Df (by omega) (by omega),Aa,ez,Ch h1,Aa,h2,Gm (by simp only [Ax];omega),Aa,Aa]
  rw [Bh];have:(Mh s).set ((Mh s).length - 1) ({ At:=q.At,Old:=q.Old,New:=q.New++[x] }:Hunk)=(Tb x s).1:=h3;rw [this];rfl
 unfold Hi;simp only;cases hb:s.2.2 with
 | true =>
  have:Mh s=s.1:=by unfold Mh;rw [hb,Af rfl]
  rw [hb,this] at j4e;rw [Ae (by decide)];exact j4e
 | false =>
  have:Mh s=s.1++[⟨s.2.1,[],[]⟩]:=by unfold Mh;rw [hb,Ae (by decide)]
  rw [hb] at j4e;rw [Af (by decide),Gm (by simp only [Ax];omega),Aa,← this];exact j4e
section
variable {a b : Ac}
theorem scr_loop (hab:a.length+b.length≤1000):∀ (n i j k:Nat) (s:Cst),i≤a.length→j≤b.length→(a.length - i)+(b.length - j)=n→k≤i+j→(N0 a b).drop k=N0 (a.drop i) (b.drop j)→CInv s (i+j) →
  Eo (fun s=>Gk.l1 a b (N0 a b) s.1 s.2.1 s.2.2.1 s.2.2.2.1 s.2.2.2.2.1 s.2.2.2.2.2) ((k:Int),(j:Int),(i:Int),s.1,s.2.1,s.2.2)=some (scr (a.drop i) (b.drop j) s):=by
 intro n
 induction n using Nat.strongRecOn with
 | _ n ih =>
 intro i j k s hi hj hn hk hal hs
 have j2e:∀ (p q:Int) (t:Cst),Gk.j2 (k:Int) q p t.1 t.2.1 t.2.2=some (.next (((k+1:Nat):Int),q,p,t.1,t.2.1,t.2.2)):=by
  intro p q t;unfold Gk.j2;rw [Df (by omega) (by omega),Aa];rfl
 have ed:∀ (x:ByteArray) (r:List Int),(N0 a b).drop k=1::r→(hx:∃ h:i < a.length,a[i]=x) →
   Gk.l1 a b (N0 a b) (k:Int) (j:Int) (i:Int) s.1 s.2.1 s.2.2=some (.next (((k+1:Nat):Int),(j:Int),((i+1:Nat):Int),(Q6 x s).1,(Q6 x s).2.1,(Q6 x s).2.2))∧(N0 a b).drop (k+1)=r:=by
  intro x r hr ⟨hx,hxe⟩;obtain ⟨hlt,hk1,hr1⟩:=Me hr;refine ⟨?_,hr1⟩;unfold Gk.l1;rw [A5,Af (by omega),Ch hlt,Aa,hk1,A5,Ae (by decide),A5,Af rfl,Ch hx,Aa,hxe,coll_del hs (by omega) x,Aa,Df (by omega) (by omega),Aa,j2e]
  rfl
 have ei:∀ (x:ByteArray) (r:List Int),(N0 a b).drop k=2::r→(hx:∃ h:j < b.length,b[j]=x) →
   Gk.l1 a b (N0 a b) (k:Int) (j:Int) (i:Int) s.1 s.2.1 s.2.2=some (.next (((k+1:Nat):Int),((j+1:Nat):Int),(i:Int),(Tb x s).1,(Tb x s).2.1,(Tb x s).2.2))∧(N0 a b).drop (k+1)=r:=by
  intro x r hr ⟨hx,hxe⟩;obtain ⟨hlt,hk1,hr1⟩:=Me hr;refine ⟨?_,hr1⟩;unfold Gk.l1;rw [A5,Af (by omega),Ch hlt,Aa,hk1,A5,Ae (by decide),A5,Ae (by decide),Ch hx,Aa,hxe,coll_ins hs (by omega) x,Aa,Df (by omega) (by omega),Aa,j2e]
  rfl
 have ek:∀ (r:List Int),(N0 a b).drop k=0::r →
   Gk.l1 a b (N0 a b) (k:Int) (j:Int) (i:Int) s.1 s.2.1 s.2.2=some (.next (((k+1:Nat):Int),((j+1:Nat):Int),((i+1:Nat):Int),(Om s).1,(Om s).2.1,(Om s).2.2))∧(N0 a b).drop (k+1)=r:=by
  intro r hr;obtain ⟨hlt,hk1,hr1⟩:=Me hr;refine ⟨?_,hr1⟩;have h0:=hs.at0;have h1:=hs.at1;unfold Gk.l1;rw [A5,Af (by omega),Ch hlt,Aa,hk1,A5,Af rfl,coll_keep hs (by omega),Aa,Df (by omega) (by omega),Aa,Df (by omega) (by omega),Aa]
  exact j2e _ _ (Om s)
 by_cases hia:i < a.length
 ·have hda:=M2 hia;by_cases hjb:j < b.length
  ·have hdb:=M2 hjb;have hal':=hal;rw [hda,hdb,N0,← hda,← hdb] at hal'
   have hsc:scr (a.drop i) (b.drop j) s=if a[i]=b[j] then scr (a.drop (i+1)) (b.drop (j+1)) (Om s) else if lcs (a.drop (i+1)) (b.drop j) ≥ lcs (a.drop i) (b.drop (j+1)) then scr (a.drop (i+1)) (b.drop j) (Q6 a[i] s) else scr (a.drop i) (b.drop (j+1)) (Tb b[j] s):=by
    conv=>lhs;rw [hda,hdb,scr]
    rw [← hda,← hdb]
   rw [hsc];by_cases heq:a[i]=b[j]
   ·rw [Af heq] at hal' ⊢;obtain ⟨e1,e2⟩:=ek _ hal';rw [C0 e1];exact ih _ (by omega) (i+1) (j+1) (k+1) (Om s) (by omega) (by omega) rfl (by omega) e2 ⟨hs.keep.open_,by have:=hs.keep.len;omega,hs.keep.at0,by have:=hs.keep.at1;omega,fun q hq=>by have:=hs.keep.each q hq;omega⟩
   ·rw [Ae heq] at hal' ⊢;by_cases hge:lcs (a.drop (i+1)) (b.drop j) ≥ lcs (a.drop i) (b.drop (j+1))
    ·rw [Af hge] at hal' ⊢;obtain ⟨e1,e2⟩:=ed _ _ hal' ⟨hia,rfl⟩;rw [C0 e1];exact ih _ (by omega) (i+1) j (k+1) (Q6 a[i] s) (by omega) (by omega) rfl (by omega) e2 (by have:=hs.del a[i];rwa [show i+j+1=i+1+j by omega] at this)
    ·rw [Ae hge] at hal' ⊢;obtain ⟨e1,e2⟩:=ei _ _ hal' ⟨hjb,rfl⟩;rw [C0 e1];exact ih _ (by omega) i (j+1) (k+1) (Tb b[j] s) (by omega) (by omega) rfl (by omega) e2 (hs.ins b[j])
  ·have hj':j=b.length:=by omega
   subst hj';have hal':=hal;rw [hda,List.drop_length,N0] at hal';obtain ⟨e1,e2⟩:=ed _ _ hal' ⟨hia,rfl⟩
   have hsc:scr (a.drop i) (b.drop b.length) s=scr (a.drop (i+1)) (b.drop b.length) (Q6 a[i] s):=by
    rw [hda,List.drop_length,scr]
   rw [C0 e1,hsc];exact ih _ (by omega) (i+1) b.length (k+1) (Q6 a[i] s) (by omega) (by omega) rfl (by omega) (by rw [e2,List.drop_length]) (by have:=hs.del a[i];rwa [show i+b.length+1=i+1+b.length by omega] at this)
 ·have hi':i=a.length:=by omega
  subst hi';by_cases hjb:j < b.length
  ·have hdb:=M2 hjb;have hal':=hal;rw [hdb,List.drop_length,N0] at hal';obtain ⟨e1,e2⟩:=ei _ _ hal' ⟨hjb,rfl⟩
   have hsc:scr (a.drop a.length) (b.drop j) s=scr (a.drop a.length) (b.drop (j+1)) (Tb b[j] s):=by
    rw [hdb,List.drop_length,scr]
   rw [C0 e1,hsc];exact ih _ (by omega) a.length (j+1) (k+1) (Tb b[j] s) (by omega) (by omega) rfl (by omega) (by rw [e2,List.drop_length]) (hs.ins b[j])
  ·have hj':j=b.length:=by omega
   subst hj';rw [List.drop_length,List.drop_length,N0] at hal;have:=L3 hal;rw [List.drop_length,List.drop_length,scr];refine B5 ?_;unfold Gk.l1;rw [A5,Ae (by omega)]
end
def Lt (a b:Ac):Bc:=(scr a b ([],0,false)).1
theorem script_f (a b:Ac):Gk a b=some (if (Cq a).Code≠0 then (⟨[]⟩,Cq a) else if (Cq b).Code≠0 then (⟨[]⟩,⟨(Cq b).Code,-2⟩) else (⟨Lt a b⟩,⟨0,0⟩)):=by
 unfold Gk;rw [both_f,Aa];by_cases ha:(Cq a).Code=0
 ·by_cases hb:(Cq b).Code=0
  ·simp only [ha,hb,ne_eq,not_true,Eh,Gi];have oa:=(Lo a).2 ((H4 a).2 ha);have ob:=(Lo b).2 ((H4 b).2 hb);have h1:=oa.1;have h2:=ob.1;rw [Ae (by simp),align_eq (okText_small oa ob),Aa]
   have:=scr_loop (a:=a) (b:=b) (by omega) _ 0 0 0 ([],0,false) (D3 _) (D3 _) rfl (D3 _) (by simp) ⟨fun h=>(by cases h),by simp,by simp,by simp,fun q hq=>(by cases hq)⟩
   simp only [List.drop_zero] at this;rw [show (0:Int)=((0:Nat):Int) from rfl,show ((([]:Bc),((0:Nat):Int),false):Cst)=([],0,false) from rfl,this,Aa];rfl
  ·simp only [ha,hb,ne_eq,not_true,not_false_iff,Eh,Gi];rw [Af (by simp)]
 ·simp only [ha,ne_eq,not_false_iff,Gi];rw [Af (by simp)]
def endS:Bc→Nat→Nat
 | [],low=>low
 | h::r,_=>endS r (h.At.toNat+h.Old.length)
def preS:Bc→Ac→Nat→Ac
 | [],_,_=>[]
 | h::r,t,low=>(t.drop low).take (h.At.toNat - low)++(h.New++preS r t (h.At.toNat+h.Old.length))
theorem N9:∀ (hs:Bc) (h:Hunk) (low:Nat),endS (hs++[h]) low=h.At.toNat+h.Old.length
 | [],h,low=>rfl
 | x::r,h,low=>by rw [List.cons_append,endS,N9 r h _]
theorem V9:∀ (hs:Bc) (h:Hunk) (t:Ac) (low:Nat),preS (hs++[h]) t low=preS hs t low++((t.drop (endS hs low)).take (h.At.toNat - endS hs low)++h.New)
 | [],h,t,low=>by simp [preS,endS]
 | x::r,h,t,low=>by rw [List.cons_append,preS,preS,endS,V9 r h t _];simp
def Chn:Int→Bc→Prop
 | _,[]=>True
 | e,h::r=>e < h.At∧Chn (h.At+h.Old.length) r
theorem Xf:∀ (l:Bc) (h:Hunk) (e:Int),Chn e (l++[h])↔Chn e l∧(l=[]→e < h.At)∧(∀ p q,l=p++[q]→q.At+q.Old.length < h.At)
 | [],h,e=>by simp [Chn]
 | x::r,h,e=>by
  rw [List.cons_append,Chn,Chn,Xf r h _];constructor
  ·rintro ⟨h1,h2,h3,h4⟩;refine ⟨⟨h1,h2⟩,by simp,fun p q e=>?_⟩
   cases p with
   | nil=>simp at e;obtain ⟨rfl,rfl⟩:=e;exact h3 rfl
   | cons y p=>simp at e;exact h4 p q e.2
  ·rintro ⟨⟨h1,h2⟩,h3,h4⟩;refine ⟨h1,h2,fun e=>?_,fun p q e=>h4 (x::p) q (by rw [e];rfl)⟩
   subst e;exact h4 [] x rfl
def HkOk (a b:Ac) (h:Hunk):Prop:=∃ p q:Nat,h.At=p∧p+h.Old.length≤a.length∧h.Old=(a.drop p).take h.Old.length∧q+h.New.length≤b.length∧h.New=(b.drop q).take h.New.length∧0 < h.Old.length+h.New.length
structure ScI (a b:Ac) (s:Cst) (i j:Nat):Prop where
 pos:s.2.1=i
 low:endS s.1 0≤i
 txt:preS s.1 a 0++(a.drop (endS s.1 0)).take (i - endS s.1 0)=b.take j
 opn:s.2.2=true→∃ hs h q,s.1=hs++[h]∧h.At.toNat+h.Old.length=i∧q+h.New.length=j∧h.New=(b.drop q).take h.New.length
 cls:s.2.2=false→s.1=[]∨endS s.1 0 < i
 chn:Chn (-1) s.1
 each:∀ h∈s.1,HkOk a b h
theorem W8 {α:Type} {l:List α} {k:Nat} (h:k < l.length):l.take (k+1)=l.take k++[l[k]]:=by
 rw [List.take_add_one,Bv h];rfl
theorem W6 (hs:Bc) (h:Hunk) (f:Hunk→Hunk):Vm (hs++[h]) f=hs++[f h]:=by
 unfold Vm;simp
theorem ScI.keep {a b:Ac} {s:Cst} {i j:Nat} (h:ScI a b s i j) (hi:i < a.length) (hj:j < b.length) (e:a[i]=b[j]):ScI a b (Om s) (i+1) (j+1):=by
 have hl:=h.low;refine ⟨by simp only [Om,h.pos];omega,by simp only [Om];omega,?_,fun h=>by simp [Om] at h,fun _=>.inr (by simp only [Om];omega),h.chn,h.each⟩
 simp only [Om];rw [W8 hj,← h.txt,show i+1 - endS s.1 0=(i - endS s.1 0)+1 by omega,W8 (by simp;omega),← e,Az]
 congr 3;rw [Eg];congr 1;omega
theorem HkOk.old {a b:Ac} {h:Hunk} (hh:HkOk a b h) (hi:h.At.toNat+h.Old.length < a.length):HkOk a b { h with Old:=h.Old++[a[h.At.toNat+h.Old.length]] }:=by
 obtain ⟨p,q,h1,h2,h3,h4,h5,h6⟩:=hh;have hp:h.At.toNat=p:=by omega
 refine ⟨p,q,h1,by simp;omega,?_,h4,h5,by simp;omega⟩
 simp only [Av,Ax];rw [W8 (by simp;omega),← h3]
 congr 2;rw [Eg];simp only [hp]
theorem HkOk.new {a b:Ac} {h:Hunk} (hh:HkOk a b h) {q:Nat} (hq:h.New=(b.drop q).take h.New.length) (hi:q+h.New.length < b.length):HkOk a b { h with New:=h.New++[b[q+h.New.length]] }∧h.New++[b[q+h.New.length]]=(b.drop q).take (h.New.length+1):=by
 obtain ⟨p,_,h1,h2,h3,h4,h5,h6⟩:=hh
 have e:h.New++[b[q+h.New.length]]=(b.drop q).take (h.New.length+1):=by
  rw [W8 (by simp;omega),← hq]
  congr 2;rw [Eg]
 refine ⟨⟨p,q,h1,h2,h3,by simp;omega,?_,by simp;omega⟩,e⟩
 simp only [Av,Ax];exact e
theorem ScI.del {a b:Ac} {s:Cst} {i j:Nat} (h:ScI a b s i j) (hi:i < a.length) (hj:j≤b.length):ScI a b (Q6 a[i] s) (i+1) j:=by
 have hl:=h.low;have ht:=h.txt;have hc:=h.chn;have he:=h.each;have hp:=h.pos;obtain ⟨hs0,at0,op⟩:=s;simp only at hl ht hc he hp;cases op with
 | true =>
  obtain ⟨hs,k,q,e1,e2,e3,e4⟩:=h.opn rfl;simp only at e1;subst e1
  have hcd:Q6 a[i] (hs++[k],at0,true)=(hs++[{ k with Old:=k.Old++[a[i]] }],at0+1,true):=by
   unfold Q6 Mh;simp only [Gi,W6]
  rw [hcd];rw [N9,e2,Mf,Hw,Bx,V9] at ht;have hk:=HkOk.old (he k (by simp)) (by omega)
  have hx:a[k.At.toNat+k.Old.length]'(by omega)=a[i]:=by congr 1
  rw [hx] at hk;rw [Xf] at hc;refine ⟨by simp only;omega,by simp only [N9,Av,Ax];omega,?_,fun _=>⟨hs,_,q,rfl,by simp only [Av,Ax];omega,e3,e4⟩,fun h=>by simp at h,(Xf _ _ _).2 hc,?_⟩
  ·simp only [N9,Av,Ax,V9];rw [show i+1 - (k.At.toNat+(k.Old.length+1))=0 by omega,Hw,Bx]
   exact ht
  ·intro m hm;rcases Bj.1 hm with hm | hm
   ·exact he m (Ej _ hm)
   ·rw [Bi] at hm;subst hm;exact hk
 | false =>
  have hcl:=h.cls rfl;simp only at hcl
  have hcd:Q6 a[i] (hs0,at0,false)=(hs0++[⟨at0,[a[i]],[]⟩],at0+1,true):=by
   unfold Q6 Mh;simp only [Cl,Eh,W6,Bo]
  rw [hcd];have hat:at0.toNat=i:=by omega
  refine ⟨by simp only;omega,by simp only [N9,Ax];omega,?_,fun _=>⟨hs0,_,j,rfl,by simp only [Ax];omega,by simp,by simp⟩,fun h=>by simp at h,(Xf _ _ _).2 ⟨hc,fun _=>by simp only;omega,fun p q e=>?_⟩,?_⟩
  ·simp only [N9,Ax,V9,hat,Mf,Hw,Bx];exact ht
  ·subst e;rcases hcl with hcl | hcl
   ·simp at hcl
   ·rw [N9] at hcl;obtain ⟨p',_,h1,_⟩:=he q (by simp)
    simp only;omega
  ·intro m hm;rcases Bj.1 hm with hm | hm
   ·exact he m hm
   ·rw [Bi] at hm;subst hm;refine ⟨i,j,hp,by simp;omega,?_,by simp;omega,by simp,by simp⟩
    simp only [Ax];rw [Eb hi];rfl
theorem ScI.ins {a b:Ac} {s:Cst} {i j:Nat} (h:ScI a b s i j) (hi:i≤a.length) (hj:j < b.length):ScI a b (Tb b[j] s) i (j+1):=by
 have hl:=h.low;have ht:=h.txt;have hc:=h.chn;have he:=h.each;have hp:=h.pos;obtain ⟨hs0,at0,op⟩:=s;simp only at hl ht hc he hp;cases op with
 | true =>
  obtain ⟨hs,k,q,e1,e2,e3,e4⟩:=h.opn rfl;simp only at e1;subst e1
  have hcd:Tb b[j] (hs++[k],at0,true)=(hs++[{ k with New:=k.New++[b[j]] }],at0,true):=by
   unfold Tb Mh;simp only [Gi,W6]
  rw [hcd];rw [N9,e2,Mf,Hw,Bx,V9] at ht;obtain ⟨hk,hk2⟩:=HkOk.new (he k (by simp)) e4 (by omega)
  have hx:b[q+k.New.length]'(by omega)=b[j]:=by congr 1
  rw [hx] at hk hk2;rw [Xf] at hc;refine ⟨hp,by simp only [N9];omega,?_,fun _=>⟨hs,_,q,rfl,e2,by simp only [Av,Ax];omega,by simp only [Av,Ax];exact hk2⟩,fun h=>by simp at h,(Xf _ _ _).2 hc,?_⟩
  ·simp only [N9,V9];rw [show i - (k.At.toNat+k.Old.length)=0 by omega,Hw,Bx,W8 hj,← ht]
   simp only [Az]
  ·intro m hm;rcases Bj.1 hm with hm | hm
   ·exact he m (Ej _ hm)
   ·rw [Bi] at hm;subst hm;exact hk
 | false =>
  have hcl:=h.cls rfl;simp only at hcl
  have hcd:Tb b[j] (hs0,at0,false)=(hs0++[⟨at0,[],[b[j]]⟩],at0,true):=by
   unfold Tb Mh;simp only [Cl,Eh,W6,Bo]
  rw [hcd];have hat:at0.toNat=i:=by omega
  have hn:[b[j]]=(b.drop j).take 1:=by rw [Eb hj];rfl
  refine ⟨hp,by simp only [N9,G1];omega,?_,fun _=>⟨hs0,_,j,rfl,by simp only [G1];omega,by simp,by simp only [Ax];exact hn⟩,fun h=>by simp at h,(Xf _ _ _).2 ⟨hc,fun _=>by simp only;omega,fun p q e=>?_⟩,?_⟩
  ·simp only [N9,G1,V9,hat,Eu,Mf,Hw,Bx];rw [W8 hj,← ht,Az]
  ·subst e;rcases hcl with hcl | hcl
   ·simp at hcl
   ·rw [N9] at hcl;obtain ⟨p',_,h1,_⟩:=he q (by simp)
    simp only;omega
  ·intro m hm;rcases Bj.1 hm with hm | hm
   ·exact he m hm
   ·rw [Bi] at hm;subst hm;exact ⟨i,j,hp,by simp;omega,by simp,by simp;omega,by simp only [Ax];exact hn,by simp⟩
theorem scr_ok {a b:Ac}:∀ (n i j:Nat) (s:Cst),(a.length - i)+(b.length - j)=n→i≤a.length→j≤b.length→ScI a b s i j→ScI a b (scr (a.drop i) (b.drop j) s) a.length b.length:=by
 intro n
 induction n using Nat.strongRecOn with
 | _ n ih =>
 intro i j s hn hi hj h;by_cases hia:i < a.length
 ·have hda:=Eb hia;by_cases hjb:j < b.length
  ·have hdb:=Eb hjb
   have hsc:scr (a.drop i) (b.drop j) s=if a[i]=b[j] then scr (a.drop (i+1)) (b.drop (j+1)) (Om s) else if lcs (a.drop (i+1)) (b.drop j) ≥ lcs (a.drop i) (b.drop (j+1)) then scr (a.drop (i+1)) (b.drop j) (Q6 a[i] s) else scr (a.drop i) (b.drop (j+1)) (Tb b[j] s):=by
    conv=>lhs;rw [hda,hdb,scr]
    rw [← hda,← hdb]
   rw [hsc];split
   ·rename_i e
    exact ih _ (by omega) (i+1) (j+1) _ rfl (by omega) (by omega) (h.keep hia hjb e)
   ·split
    ·exact ih _ (by omega) (i+1) j _ rfl (by omega) (by omega) (h.del hia hj)
    ·exact ih _ (by omega) i (j+1) _ rfl (by omega) (by omega) (h.ins hi hjb)
  ·have hj':j=b.length:=by omega
   subst hj'
   have hsc:scr (a.drop i) (b.drop b.length) s=scr (a.drop (i+1)) (b.drop b.length) (Q6 a[i] s):=by
    rw [hda,List.drop_length,scr]
   rw [hsc];exact ih _ (by omega) (i+1) b.length _ rfl (by omega) (by omega) (h.del hia hj)
 ·have hi':i=a.length:=by omega
  subst hi';by_cases hjb:j < b.length
  ·have hdb:=Eb hjb
   have hsc:scr (a.drop a.length) (b.drop j) s=scr (a.drop a.length) (b.drop (j+1)) (Tb b[j] s):=by
    rw [hdb,List.drop_length,scr]
   rw [hsc];exact ih _ (by omega) a.length (j+1) _ rfl (by omega) (by omega) (h.ins hi hjb)
  ·have hj':j=b.length:=by omega
   subst hj';rw [List.drop_length,List.drop_length,scr];exact h
theorem ok_part {l:Ac} (h:Ll l) (p k:Nat):(Cq ((l.drop p).take k)).Code=0:=by
 refine (H4 _).1 ((Lo _).1 ⟨?_,fun s hs=>h.2 s (Gq (Hb hs))⟩);have:=h.1
 simp;omega
theorem good_of {a b:Ac} (ha:Ll a) (hb:Ll b):∀ (l:Bc) (e:Int),Chn e l→(∀ h∈l,HkOk a b h)→Good e l∧(-1≤e→e≤120→(l.length:Int)≤120 - e)
 | [],e,_,_=>⟨trivial,fun _ _=>by simp;omega⟩
 | h::r,e,hc,he=>by
  obtain ⟨p,q,h1,h2,h3,h4,h5,h6⟩:=he h C6;obtain ⟨c1,c2⟩:=hc;have hl:=ha.1;obtain ⟨g1,g2⟩:=good_of ha hb r _ c2 fun x hx=>he x (B2 _ hx);refine ⟨⟨?_,g1⟩,fun _ _=>?_⟩
  ·unfold Yg;have t1:(Cq h.Old).Code=0:=by rw [h3];exact ok_part ha _ _
   have t2:(Cq h.New).Code=0:=by rw [h5];exact ok_part hb _ _
   rw [Ae (by omega),Ae (fun hn=>hn t1),Ae (fun hn=>hn t2),Ae (by omega),Ae (by omega)]
  ·have:=g2 (by omega) (by omega)
   rw [Ew];omega
def Ws (l:Ai) (x:File):Ai:=l.take (Ky l x.Path)++[x]++l.drop (Ky l x.Path)
theorem X5 {l:Ai} (h:Ng l) {p:ByteArray} (hh:Mv l p=true):∃ hp:Ky l p < l.length,l[Ky l p].Path=p:=by
 rw [has_at h] at hh;split at hh
 ·rename_i hp;exact ⟨hp,Mp hh⟩
 ·cases hh
theorem pos_of {l:Ai} (h:Ng l) {j:Nat} (hj:j < l.length):Ky l l[j].Path=j∧Mv l l[j].Path=true:=by
 have hh:Mv l l[j].Path=true:=by
  unfold Mv;rw [Kz];exact ⟨_,Bn hj,As rfl⟩
 refine ⟨?_,hh⟩;obtain ⟨hp,he⟩:=X5 h hh;rcases O0 (Ky l l[j].Path) j with h1 | h1 | h1
 ·have:=Ce.1 h _ _ hp hj h1;rw [he,Tr] at this;cases this
 ·exact h1
 ·have:=Ce.1 h _ _ hj hp h1;rw [he,Tr] at this;cases this
theorem rel_has {l:Ai} {p:ByteArray} (h:Hm l p=false):Mv l p=false:=by
 unfold Hm at h;unfold Mv;rw [Kq] at h ⊢;intro f hf e;have:=h f hf;rw [Mp e,relB_self] at this;exact this rfl
theorem ins_len (l:Ai) (x:File):(Ws l x).length=l.length+1:=by
 have:=pos_le l x.Path;unfold Ws;simp;omega
theorem ins_srt {l:Ai} (h:Ng l) {x:File} (hn:Mv l x.Path=false):Ng (Ws l x):=by
 unfold Ng Ws
 have hlow:∀ f∈l.take (Ky l x.Path),sLt f.Path x.Path=true:=by
  intro f hf;rw [H9] at hf;obtain ⟨i,hi,rfl⟩:=hf;rw [Ys h x.Path i (by omega)]
  exact As (by omega)
 have hhigh:∀ f∈l.drop (Ky l x.Path),sLt x.Path f.Path=true:=by
  intro f hf;obtain ⟨i,hi,rfl⟩:=Da hf;rw [Dg] at hi;rw [Eg];have h1:=Ys h x.Path (Ky l x.Path+i) (by omega)
  rw [Ao (by omega)] at h1
  rcases sLt_tri x.Path l[Ky l x.Path+i].Path with h2 | h2 | h2
  ·exact h2
  ·unfold Mv at hn;rw [Kq] at hn;exact absurd (As h2.symm) (hn _ (Bn (by omega)))
  ·rw [h1] at h2;cases h2
 rw [G8,G8];refine ⟨⟨h.sublist (List.take_sublist _ _),K8 _ _,?_⟩,h.sublist (List.drop_sublist _ _),?_⟩
 ·intro a ha b hb;rw [Bi] at hb;subst hb;exact hlow a ha
 ·intro a ha b hb;rcases Bj.1 ha with ha | ha
  ·exact Xc (hlow a ha) (hhigh b hb)
  ·rw [Bi] at ha;subst ha;exact hhigh b hb
theorem ins_mem {l:Ai} {x f:File}:f∈Ws l x↔f=x∨f∈l:=by
 unfold Ws;rw [Bj,Bj,Bi]
 conv=>rhs;rw [← Ki (Ky l x.Path) l,Bj]
 constructor
 ·rintro ((h | h) | h)
  ·exact .inr (.inl h)
  ·exact .inl h
  ·exact .inr (.inr h)
 ·rintro (h | h | h)
  ·exact .inl (.inr h)
  ·exact .inl (.inl h)
  ·exact .inr h
theorem Put_f {l:Ai} (h:Ng l) (hl:l.length≤1000) {p:ByteArray} (hn:Mv l p=false) {L:Ac} (hL:L.length≤1000000):Ku ⟨l⟩ p L=some ⟨Ws l ⟨p,L⟩⟩:=by
 have hp:=pos_le l p;unfold Ku;simp only;rw [Find_f h (by omega),Aa,hn,Af (by rfl)]
 have e:ins? 40 l ((Ky l p:Nat):Int) [⟨p,[]⟩]=some (l.take (Ky l p)++[⟨p,[]⟩]++l.drop (Ky l p)):=by
  unfold ins?;simp only;rw [Af (by omega),Gm (by simp;omega),Aa,Bh]
 rw [e,Aa];unfold Ku.j1;rw [clone_f _ hL,Aa];simp only;have hlen:(l.take (Ky l p)).length=Ky l p:=by simp;omega
 rw [Ch (by simp;omega),Aa,Aa,Bh]
 have e2:(l.take (Ky l p)++[(⟨p,[]⟩:File)]++l.drop (Ky l p))[Ky l p]'(by simp;omega)=⟨p,[]⟩:=by
  rw [Gn (by simp;omega),H8 (by omega)]
  simp [hlen]
 rw [e2];unfold Ws;congr 2;rw [Az,Az,List.set_append_right _ _ (by omega),hlen,Mf]
 rfl
theorem del_f (l:Ai) {j:Nat} (hj:j < l.length):del? l (j:Int) ((j+1:Nat):Int)=some (l.eraseIdx j):=by
 unfold del?;rw [Af (by omega),Bh,Bh,List.eraseIdx_eq_take_drop_succ]
def Qm (c:TreeChange) (l:Ai):Int×Ai :=
 if c.Kind=1 then if Hm l c.Path=true then (7,l) else if 24≤l.length then (14,l) else (0,Ws l ⟨c.Path,c.Lines⟩)
 else match (if Mv l c.Path=true then l[Ky l c.Path]? else Option.none) with
 | Option.none=>(6,l)
 | some f =>
  if c.Kind=2 then if f.Lines≠c.Lines then (19,l) else (0,l.eraseIdx (Ky l c.Path))
  else if c.Kind=3 then if Hm (l.eraseIdx (Ky l c.Path)) c.To=true then (7,l) else (0,Ws (l.eraseIdx (Ky l c.Path)) ⟨c.To,f.Lines⟩)
  else if (Tx c.Patch f.Lines).2.Code≠0 then ((Tx c.Patch f.Lines).2.Code,l) else (0,l.set (Ky l c.Path) ⟨f.Path,(Tx c.Patch f.Lines).1⟩)
theorem TrOk.text_len {l:Ai} (h:TrOk l) {f:File} (hf:f∈l):f.Lines.length≤120:=(h.text f hf).1
theorem make1_f {l:Ai} (h:TrOk l) {c:TreeChange} (hc:OkCh c):Ly c ⟨l⟩=some ((Qm c l).1,⟨(Qm c l).2⟩):=by
 have hl:=h.len;have hps:∀ f∈l,f.Path.size≤1000000:=fun f hf=>by have:=Mx (h.path f hf);omega
 have hcp:=Mx hc.path;have hcl:c.Lines.length≤120:=Kp hc.lines;unfold Ly Qm;simp only;rw [Find_f h.srt (by omega),Aa]
 by_cases k1:c.Kind=1
 ·rw [As k1,Af rfl,Af k1,clash_f hps (by omega) (by omega),Aa,clO_all]
  cases hr:Hm l c.Path
  ·rw [Ae Ah,Ae Ah];by_cases h24:24≤l.length
   ·rw [As (by omega),Af rfl,Af h24]
   ·rw [Ao (by omega),Ae Ah,Ae h24,Put_f h.srt (by omega) (rel_has hr) (by omega),Aa]
  ·rw [Af rfl,Af rfl]
 rw [Ao k1,Ae Ah,Ae k1];cases hh:Mv l c.Path with
 | false =>
  rw [Af (by rfl)]
  simp only [Cl,Eh]
 | true =>
  obtain ⟨hp,he⟩:=X5 h.srt hh;have hfm:=Bn hp;have hft:=h.text_len hfm;rw [Ae (show ¬ ((!true)=true) by decide),Ch hp,Aa,Af rfl,Bv hp]
  simp only
  have ez:ckK .i64 (((Ky l c.Path:Nat):Int)+1)=some ((Ky l c.Path+1:Nat):Int):=by
   rw [Df (by omega) (by omega)];rfl
  by_cases k2:c.Kind=2
  ·rw [As k2,Af rfl,Af k2,sequal_f _ _ (by omega),Aa]
   by_cases ht:l[Ky l c.Path].Lines=c.Lines
   ·rw [As ht,Ae (show ¬ ((!true)=true) by decide),Ae (fun hn=>hn ht),ez,Aa,del_f l hp,Aa];rfl
   ·rw [Ao ht,Af (by rfl),Af ht]
  rw [Ao k2,Ae Ah,Ae k2];by_cases k3:c.Kind=3
  ·have hto:=Mx (hc.to k3).1;have hcl3:=clO_ne (p:=c.To) l 0 (Ky l c.Path);rw [Ho] at hcl3;rw [As k3,Af rfl,Af k3,clash_f hps (by omega) (by omega),Aa,hcl3]
   cases hr:Hm (l.eraseIdx (Ky l c.Path)) c.To
   ·rw [Ae Ah,Ae Ah,ez,Aa,del_f l hp,Aa,
     Put_f (h.srt.sublist (List.eraseIdx_sublist _ _)) (by have:=List.length_eraseIdx_le l (Ky l c.Path);omega) (rel_has hr) (by omega),Aa];rfl
   ·rw [Af rfl,Af rfl]
  ·rw [Ao k3,Ae Ah,Ae k3,apply_f,Aa];by_cases ha:(Tx c.Patch l[Ky l c.Path].Lines).2.Code=0
   ·have hi:(Tx c.Patch l[Ky l c.Path].Lines).2.Index=0:=by rw [(applyF_ok ha).2.2.2.2.2]
    rw [As ha,As hi,Ae (by decide),Ae (fun hn=>hn ha),Aa,Aa,Bh];rfl
   ·rw [Af (by simp [ha]),Af ha]
theorem requal_f (a b:Ac) (hb:a.length≤1000000):D6 a b=some (decide (a=b)):=by
 unfold D6;rw [L5];by_cases hl:a.length=b.length
 ·rw [Af (by omega)]
  have key:∀ (ra rb:Ac) (k:Nat),a.drop k=ra→b.drop k=rb→ra.length=rb.length→Eo (fun s=>D6.l1 a b s) (k:Int)=some (if ra=rb then .inr () else .inl false):=by
   intro ra
   induction ra with
   | nil =>
    intro rb k hka hkb hll;have:=L3 hka;obtain rfl:rb=[]:=Dz (by simpa using hll.symm)
    refine B5 ?_;unfold D6.l1;rw [A5,Ae (by omega)];rfl
   | cons x ra ih =>
    intro rb k hka hkb hll;cases rb with
    | nil=>simp at hll
    | cons y rb =>
     obtain ⟨h1,h2,h3⟩:=Me hka;obtain ⟨h4,h5,h6⟩:=Me hkb;by_cases hxy:x=y
     ·have e0:D6.l1 a b (k:Int)=some (.next ((k+1:Nat):Int)):=by
       unfold D6.l1;rw [A5,Af (by omega),Ch h1,Aa,h2,Ch h4,Aa,h5,L5,Af hxy,Df (by omega) (by omega)];rfl
      rw [C0 e0,ih rb (k+1) h3 h6 (by simpa using hll)]
      subst hxy;simp
     ·rw [Ae (by simp [hxy])]
      refine B5 ?_;unfold D6.l1;rw [A5,Af (by omega),Ch h1,Aa,h2,Ch h4,Aa,h5,L5,Ae hxy]
  rw [show (0:Int)=((0:Nat):Int) from rfl,key a b 0 rfl rfl hl,Aa];by_cases h:a=b
  ·rw [Af h,As h];rfl
  ·rw [Ae h,Ao h]
 ·rw [Ae (by omega),Ao (fun h=>hl (by rw [h]))]
theorem has_f (text part:Ac) (i:Int) (h1:text.length≤1000000) (h2:part.length≤1000000) (hi:i≤1000000):M3 text i part=some (decide (0≤i∧occ text part i.toNat)):=by
 unfold M3;rw [A5];by_cases h0:i < 0
 ·rw [Af h0,Aa,Af rfl,Ao (by omega)]
 ·rw [Ae h0,Df (by omega) (by omega),Aa,Aa,A5]
  by_cases h3:i+(part.length:Int) > text.length
  ·rw [Af h3,Ao (fun h=>by have:=occ_len h.2;omega)]
  ·rw [Ae h3,Aa,Uj (by omega) (by omega) (by omega),Aa,requal_f _ _ (by simp;omega),Aa,List.drop_take,show (i+(part.length:Int)).toNat - i.toNat=part.length by omega]
   congr 1;rw [D4];exact ⟨fun h=>⟨by omega,by omega,h⟩,fun h=>h.2.2⟩
theorem rawS_len:∀ (l:Bc) (t:Ac) (b:Nat),(∀ h∈l,h.New.length≤120)→(Tt l t b).length≤t.length+(t.length+120) * l.length
 | [],t,b,_=>by rw [Tt,Dg];simp
 | h::r,t,b,hn=>by
  have:=rawS_len r t (h.At.toNat+h.Old.length) (fun x hx=>hn x (B2 _ hx));have h1:=hn h (by simp)
  rw [Tt,Av,Av,B9,Dg,Ew,Nat.mul_succ];omega
theorem srt_all:∀ (l:Bc) (e:Int),Srt e l→∀ h∈l,e < h.At
 | [],_,_,h,hh=>by cases hh
 | x::l,e,hs,h,hh=>by
  rcases Cd.1 hh with rfl | hh
  ·exact hs.1
  ·have:=srt_all l _ hs.2 h hh;have:=hs.1;omega
theorem rapply_f (p:Patch) (text:Ac):Cm p text=some (Tx p text):=by
 unfold Cm Tx;rw [rpatchFault_f,Aa,L5];by_cases hp:(Lk p).Code≠0
 ·rw [Ae hp,Af hp]
 ·rw [Af (by omega),Ae hp,N7,Aa,L5]
  by_cases ht:(Cq text).Code≠0
  ·rw [Ae ht,Af ht];rfl
  ·rw [Af (by omega),Ae ht]
   obtain ⟨hn,hg⟩:=(U4 p).1 (by omega)
   have hl:=Kp (l:=text) (by omega)
   have key:∀ (rest:Bc) (k:Nat),p.Hunks.drop k=rest→(∀ h∈rest,0≤h.At∧h.At≤120∧h.Old.length≤120)→Eo (fun s=>Cm.l2 p text s) (k:Int)=some (orL ((Yb text k rest).map fun f=>(([]:Ac),f))):=by
    intro rest
    induction rest with
    | nil =>
     intro k hk _;have:=L3 hk;refine B5 ?_;unfold Cm.l2;rw [A5,Ae (by omega)];rfl
    | cons h r ih =>
     intro k hk hall;obtain ⟨hlt,hh,hr⟩:=Me hk;obtain ⟨h0,h1,h2⟩:=hall h (by simp)
     rw [Yb]
     have eo:M3 text h.At h.Old=some (decide (occ text h.Old h.At.toNat)):=by
      rw [has_f _ _ _ (by omega) (by omega) (by omega)];simp [h0]
     by_cases hc:occ text h.Old h.At.toNat
     ·have e0:Cm.l2 p text (k:Int)=some (.next ((k+1:Nat):Int)):=by
       unfold Cm.l2;rw [A5,Af (by omega),Ch hlt,Aa,Aa,hh,eo,Aa,As hc,Ae (by decide),Df (by omega) (by omega),Aa];rfl
      rw [Af hc,C0 e0];exact ih (k+1) hr (fun q hq=>hall q (B2 _ hq))
     ·rw [Ae hc];refine B5 ?_;unfold Cm.l2;rw [A5,Af (by omega),Ch hlt,Aa,Aa,hh,eo,Aa,Ao hc,Af (by decide)];rfl
   rw [show (0:Int)=((0:Nat):Int) from rfl,key p.Hunks 0 rfl (fun h hm=>by
    obtain ⟨z1,z3,z2,_⟩:=Zo hg (by omega) h hm
    exact ⟨z1,by omega,Kp z2⟩),Aa,show (((0:Nat):Int))=0 from rfl]
   cases ho:Yb text 0 p.Hunks with
   | some f=>rfl
   | none =>
    have hf:=(Zs text p.Hunks 0).1 ho;have hs:=srt_of _ _ hg;simp only [Option.map_none,orL];unfold Cm.j1;rw [Gm (by simp only [G1];omega),Aa,Bo,Df (by omega) (by omega),Aa]
    have back:∀ (k:Nat),k≤p.Hunks.length→Eo (fun s=>Cm.l1 p s.1 s.2) ((k:Int) - 1,Tt (p.Hunks.drop k) text 0)=some (Tt p.Hunks text 0):=by
     intro k
     induction k with
     | zero =>
      intro _;refine B5 ?_;simp only;unfold Cm.l1;rw [A5,Ae (by omega)];rfl
     | succ k ih =>
      intro hk;have hlt:k < p.Hunks.length:=by omega
      have hm:=Bn hlt;obtain ⟨z1,z3,z2,z4,_⟩:=Zo hg (by omega) _ hm
      have lo:=Kp z2;have ln:=Kp z4;have hol:=occ_len (hf _ hm);have hd:=Eb hlt
      have habove:∀ x∈p.Hunks.drop (k+1),p.Hunks[k].At+(p.Hunks[k].Old.length:Int) < x.At:=by
       have:∀ (l:Bc) (e:Int) (k:Nat) (h:k < l.length),Srt e l→∀ x∈l.drop (k+1),l[k].At+(l[k].Old.length:Int) < x.At:=by
        intro l
        induction l with
        | nil=>intro e k h;simp at h
        | cons y l ih =>
         intro e k h hs x hx;cases k with
         | zero=>exact srt_all l _ hs.2 x hx
         | succ k=>exact ih _ k (by simpa using h) hs.2 x hx
       exact this p.Hunks (-1) k hlt hs
      have hcut:=rawS_cut (p.Hunks.drop (k+1)) text 0 (p.Hunks[k].At.toNat+p.Hunks[k].Old.length) (fun x hx=>by have:=habove x hx;omega)
      rw [Ho,List.drop_zero] at hcut
      have hV:(Tt (p.Hunks.drop (k+1)) text 0).length≤120+(120+120) * 130:=by
       have:=rawS_len (p.Hunks.drop (k+1)) text 0 (fun x hx=>by
        obtain ⟨_,_,_,b,_⟩:=Zo hg (by omega) x (Gq hx)
        exact Kp b)
       have h2:(text.length+120) * (p.Hunks.drop (k+1)).length≤(120+120) * 130:=Tq (by omega) (by rw [Dg];omega)
       omega
      have htl:(text.take (p.Hunks[k].At.toNat+p.Hunks[k].Old.length)).length=p.Hunks[k].At.toNat+p.Hunks[k].Old.length:=by simp;omega
      have e1:(Tt (p.Hunks.drop (k+1)) text 0).take p.Hunks[k].At.toNat=text.take p.Hunks[k].At.toNat:=by
       rw [hcut,C7 (by omega),List.take_take];congr 1;omega
      have e2:(Tt (p.Hunks.drop (k+1)) text 0).drop (p.Hunks[k].At.toNat+p.Hunks[k].Old.length)=Tt (p.Hunks.drop (k+1)) text (p.Hunks[k].At.toNat+p.Hunks[k].Old.length):=by
       have:=congrArg (List.drop (p.Hunks[k].At.toNat+p.Hunks[k].Old.length)) hcut;rw [this];have h4:=List.drop_left (l₁:=text.take (p.Hunks[k].At.toNat+p.Hunks[k].Old.length)) (l₂:=Tt (p.Hunks.drop (k+1)) text (p.Hunks[k].At.toNat+p.Hunks[k].Old.length));rw [htl] at h4;exact h4
      have hlenV:p.Hunks[k].At.toNat+p.Hunks[k].Old.length≤(Tt (p.Hunks.drop (k+1)) text 0).length:=by
       rw [hcut,Av,htl];omega
      have e0:Cm.l1 p (k:Int) (Tt (p.Hunks.drop (k+1)) text 0)=some (.next ((k:Int) - 1,Tt (p.Hunks.drop k) text 0)):=by
       unfold Cm.l1
       rw [A5,Af (by omega),Ch hlt,Aa,rend_f _ (by omega) (by omega) (by omega),Aa,Uj (by omega) (by omega) (by omega),Aa,Bh,De,
        show (p.Hunks[k].At+(p.Hunks[k].Old.length:Int)).toNat=p.Hunks[k].At.toNat+p.Hunks[k].Old.length by omega,e2]
       have hr:(Tt (p.Hunks.drop (k+1)) text (p.Hunks[k].At.toNat+p.Hunks[k].Old.length)).length≤120+(120+120) * 130:=by rw [← e2,Dg];omega
       rw [Gm (by simp only [G1];omega),Aa,Bo,Uj (by omega) (by omega) (by omega),Aa,e1,show ((0:Int)).toNat=0 from rfl,List.drop_zero,
        Gm (by rw [B9];omega),Aa,Gm (by rw [Av,B9];omega),Aa,Df (by omega) (by omega),Aa,hd,Tt,List.drop_zero,Nat.sub_zero,Az]
      rw [show ((k+1:Nat):Int) - 1=(k:Int) by omega,C0 (m:=fun s:Int×Ac=>Cm.l1 p s.1 s.2) (s:=((k:Int),Tt (p.Hunks.drop (k+1)) text 0)) e0]
      exact ih (by omega)
    have b0:=back p.Hunks.length (C1 _);rw [List.drop_length,Tt,List.drop_zero] at b0;rw [b0,Aa];unfold Cm.j2;rw [A5];by_cases h120:(Tt p.Hunks text 0).length > 120
    ·rw [Af (by omega),Af h120];rfl
    ·rw [Ae (by omega),Ae h120]
theorem pos_eq {m:Ai} (h:Ng m) {p:ByteArray} {k:Nat} (hk:k≤m.length) (h1:∀ i (hi:i < m.length),i < k→sLt m[i].Path p=true) (h2:∀ i (hi:i < m.length),k≤i→sLt m[i].Path p=false):Ky m p=k:=by
 have hp:=pos_le m p;rcases O0 (Ky m p) k with h3 | h3 | h3
 ·have:=h1 (Ky m p) (by omega) h3
  rw [Ys h] at this;simp at this
 ·exact h3
 ·have:=h2 k (by omega) (C1 _)
  rw [Ys h] at this;simp at this;omega
def Ol (m:Ai) (j:Nat) (g:File):Ai:=m.take j++[g]++m.drop j
theorem T3 {m:Ai} {j:Nat} (hj:j≤m.length) (g:File):(Ol m j g).length=m.length+1:=by unfold Ol;simp;omega
theorem Y1 {m:Ai} {i j:Nat} (hj:j≤m.length) (hi:i < j) (g:File):(Ol m j g)[i]'(by rw [T3 hj];omega)=m[i]:=by
 unfold Ol;rw [Gn (by simp;omega),Gn (by simp;omega),E7]
theorem hole_set {m:Ai} {j:Nat} (hj:j≤m.length) (g v:File):(Ol m j g).set j v=Ol m j v:=by
 unfold Ol;have hl:(m.take j).length=j:=by simp;omega
 rw [Az,Az,List.set_append_right _ _ (by omega),hl,Mf]
 rfl
theorem hole_shift {m:Ai} {j:Nat} (hj:j+1≤m.length):Ol m (j+1) m[j]=Ol m j m[j]:=by
 unfold Ol;rw [List.take_add_one,Bv (by omega),Option.toList_some,Eb (i:=j) (by omega)]
 simp
theorem ord_inner {L m:Ai} {k:Nat} (hk:k < L.length) (hm:Ng m) (hn:Mv m L[k].Path=false) (hl:m.length≤1000):∀ (n j:Nat) (gb:File),j=Ky m L[k].Path+n→j≤m.length →
  ∃ gb',Eo (fun s=>A9.l2 L (k:Int) s.1 s.2) ((j:Int),Ol m j gb)=some (((Ky m L[k].Path:Nat):Int),Ol m (Ky m L[k].Path) gb'):=by
 intro n
 induction n with
 | zero =>
  intro j gb hj hjl;have hj:j=Ky m L[k].Path:=by omega
  refine ⟨gb,?_⟩;rw [← hj];refine B5 ?_;show A9.l2 L (k:Int) (j:Int) (Ol m j gb)=_;unfold A9.l2;by_cases h0:j=0
  ·rw [Ao (by omega),Ae Ah,Aa,Ae Ah]
  ·have hz:ckK .i64 ((j:Int) - 1)=some ((j - 1:Nat):Int):=by rw [Df (by omega) (by omega)];congr 1;omega
   have hlt:sLt m[j - 1].Path L[k].Path=true:=by rw [Ys hm];exact As (by omega)
   rw [As (by omega),Af rfl,Ch hk,Aa,hz,Aa,Ch (by rw [T3 hjl];omega),Aa,Y1 hjl (by omega),Qk hlt,Aa,Ae Ah]
 | succ n ih =>
  intro j gb hj hjl;obtain ⟨j,rfl⟩:∃ q,j=q+1:=⟨j - 1,by omega⟩
  have hz:ckK .i64 (((j+1:Nat):Int) - 1)=some (j:Int):=by rw [Df (by omega) (by omega)];congr 1;omega
  have hlt:sLt L[k].Path m[j].Path=true:=by
   have h1:=Ys hm L[k].Path j (by omega)
   rw [Ao (by omega)] at h1
   rcases sLt_tri L[k].Path m[j].Path with h2 | h2 | h2
   ·exact h2
   ·unfold Mv at hn;rw [Kq] at hn;exact absurd (As h2.symm) (hn _ (Bn (by omega)))
   ·rw [h1] at h2;cases h2
  have hstep:A9.l2 L (k:Int) ((j+1:Nat):Int) (Ol m (j+1) gb)=some (Step.next ((j:Int),Ol m j m[j])):=by
   unfold A9.l2
   rw [As (by omega),Af rfl,Ch hk,Aa,hz,Aa,Ch (by rw [T3 hjl];omega),Aa,Y1 hjl (by omega),hlt,Aa,Af rfl,Aa,
    Ch (by rw [T3 hjl];omega),Aa,Y1 hjl (by omega),Ch (by rw [T3 hjl];omega),Aa,Aa,Aa,Bh,hole_set hjl,hole_shift (by omega)]
  obtain ⟨gb',e⟩:=ih j m[j] (by omega) (by omega)
  exact ⟨gb',by rw [C0 (s':=((j:Int),Ol m j m[j])) hstep];exact e⟩
theorem ord_step {L m:Ai} {k:Nat} (hk:k < L.length) (hL:L.length≤1000) (hm:Ng m) (hn:Mv m L[k].Path=false) (hl:m.length≤1000) :
  A9.l1 L (k:Int) m=some (Step.next (((k+1:Nat):Int),Ws m L[k])):=by
 have hp:=pos_le m L[k].Path;unfold A9.l1;rw [As (by omega),Af rfl,Ch hk,Aa,Gm (by simp;omega),Aa]
 have e0:m++[L[k]]=Ol m m.length L[k]:=by unfold Ol;simp
 obtain ⟨gb',e⟩:=ord_inner hk hm hn hl (m.length - Ky m L[k].Path) m.length L[k] (by omega) (C1 _)
 rw [e0,e,Aa];unfold A9.j3 A9.j2;rw [Ch hk,Aa,Ch (by rw [T3 hp];omega),Aa,Aa,Bh,hole_set hp,Df (by omega) (by omega),Aa]
 rfl
theorem tw_all {α:Type} {p:α→Bool}:∀ {l:List α},(∀ f∈l,p f=true)→l.takeWhile p=l
 | [],_=>rfl
 | f::l,h=>by rw [List.takeWhile_cons,h f C6,Af rfl,tw_all fun g hg=>h g (B2 _ hg)]
theorem ins_end {m:Ai} {x:File} (h:∀ f∈m,sLt f.Path x.Path=true):Ws m x=m++[x]:=by
 have:Ky m x.Path=m.length:=by
  unfold Ky;rw [tw_all fun f hf=>h f hf]
 unfold Ws;rw [this];simp
theorem Ordered_f {l:Ai} (h:Ng l) (hl:l.length≤900) {x:File} (hn:Mv l x.Path=false):A9 (l++[x])=some ⟨Ws l x⟩:=by
 have hL:(l++[x]).length=l.length+1:=by simp
 have key:∀ (n k:Nat),k+n=l.length→Eo (fun s=>A9.l1 (l++[x]) s.1 s.2) ((k:Int),l.take k)=some (Ws l x):=by
  intro n
  induction n with
  | zero =>
   intro k hk;have e:k=l.length:=by omega
   subst e;rw [De];have hx:(l++[x])[l.length]'(by omega)=x:=by simp
   have hs:=ord_step (L:=l++[x]) (k:=l.length) (m:=l) (by omega) (by omega) h (by rw [hx];exact hn) (by omega)
   rw [C0 (s':=(((l.length+1:Nat):Int),Ws l (l++[x])[l.length])) hs,hx];refine B5 ?_;show A9.l1 (l++[x]) _ _=_;unfold A9.l1;rw [Ao (by omega),Ae Ah]
  | succ n ih =>
   intro k hk;have hkl:k < l.length:=by omega
   have hx:(l++[x])[k]'(by omega)=l[k]:=Gn hkl
   have hlow:∀ f∈l.take k,sLt f.Path l[k].Path=true:=by
    intro f hf;rw [H9] at hf;obtain ⟨i,hi,rfl⟩:=hf;exact Ce.1 h i k (by omega) hkl (by omega)
   have hno:Mv (l.take k) l[k].Path=false:=by
    unfold Mv;rw [Kq];intro f hf e;exact sLt_ne (hlow f hf) (Mp e)
   have hs:=ord_step (L:=l++[x]) (k:=k) (m:=l.take k) (by omega) (by omega) (h.sublist (List.take_sublist _ _)) (by rw [hx];exact hno) (by rw [B9];omega)
   rw [C0 (s':=(((k+1:Nat):Int),Ws (l.take k) (l++[x])[k])) hs,hx,ins_end hlow];have:=ih (k+1) (by omega)
   rw [List.take_add_one,Bv hkl] at this;exact this
 unfold A9;have:=key l.length 0 (by omega)
 rw [Hw] at this;rw [show ((0:Nat):Int)=0 from rfl] at this;rw [this,Aa];rfl
theorem without_f {l:Ai} {j:Nat} (hj:j < l.length) (hl:l.length≤1000):K9 ⟨l⟩ (j:Int)=some ⟨l.eraseIdx j⟩:=by
 unfold K9;simp only;rw [Uj (by omega) (by omega) (by omega),Aa,Gm (by simp;omega),Aa,Df (by omega) (by omega),Aa,Uj (by omega) (by omega) (by omega),Aa,Gm (by simp;omega),Aa]
 congr 2;rw [List.eraseIdx_eq_take_drop_succ];simp
theorem with_f {l:Ai} (h:Ng l) (hl:l.length≤900) (x:File):D7 ⟨l⟩ x=some (if Hm l x.Path=true then (⟨l⟩,7) else if 24≤l.length then (⟨l⟩,14) else (⟨Ws l x⟩,0)):=by
 unfold D7;rw [scan0 l (fun _ f=>if Oj f.Path x.Path=true then some ((⟨l⟩:FileTree),(7:Int)) else Option.none) ?_ ?_,Aa]
 ·have:∀ (m:Ai) (j:Nat),Mw (fun _ f=>if Oj f.Path x.Path=true then some ((⟨l⟩:FileTree),(7:Int)) else Option.none) j m=if Hm m x.Path=true then some (⟨l⟩,7) else Option.none:=by
   intro m
   induction m with
   | nil=>intro j;rfl
   | cons f m ih =>
    intro j;rw [Mw];unfold Hm;rw [Lj];cases hr:Oj f.Path x.Path
    ·simp only [Cl,Eh,K1];exact ih (j+1)
    ·simp
  rw [this];cases hr:Hm l x.Path
  ·rw [Ae Ah,Ae Ah];unfold orL D7.j1 D7.j2;simp only;by_cases h24:24≤l.length
   ·rw [As (by omega),Af rfl,Af h24]
   ·rw [Ao (by omega),Ae Ah,Ae h24,Gm (by simp;omega),Aa,Bo,Gm (by simp;omega),Aa,Ordered_f h hl (rel_has hr),Aa]
  ·rw [Af rfl,Af rfl];rfl
 ·intro k hk _;unfold D7.l1;simp only;rw [As (by omega),Af rfl,Ch hk,Aa,Xo,Aa]
  cases Oj l[k].Path x.Path
  ·rw [Ae Ah,Ae Ah,Df (by omega) (by omega),Aa];rfl
  ·rw [Af rfl,Af rfl]
 ·unfold D7.l1;rw [Ao (by simp),Ae Ah]
theorem FileAt_f {l:Ai} (h:Ng l) (hl:l.length≤900) (p:ByteArray):Co ⟨l⟩ p=some (if Mv l p=true then ((Ky l p:Nat):Int) else -1):=by
 unfold Co;rw [scan0 l (fun k f=>if f.Path=p then some ((k:Nat):Int) else Option.none) ?_ ?_,Aa]
 ·cases hs:Mw (fun k f=>if f.Path=p then some ((k:Nat):Int) else Option.none) 0 l with
  | none =>
   rw [V7] at hs
   have:Mv l p=false:=by
    unfold Mv;rw [Kq];intro f hf e;obtain ⟨j,hj,rfl⟩:=Da hf;have:=hs j hj;rw [Af (Mp e)] at this;cases this
   rw [this,Ae Ah];rfl
  | some y =>
   obtain ⟨j,hj,e⟩:=Tw hs;rw [Ho] at e;split at e
   ·rename_i he
    obtain ⟨h1,h2⟩:=pos_of h hj;rw [he] at h1 h2;rw [h2,Af rfl,h1,← Km e];rfl
   ·cases e
 ·intro k hk _;unfold Co.l1;simp only;rw [As (by omega),Af rfl,Ch hk,Aa]
  by_cases he:l[k].Path=p
  ·rw [As he,Af rfl,Af he]
  ·rw [Ao he,Ae Ah,Ae he,Df (by omega) (by omega),Aa];rfl
 ·unfold Co.l1;rw [Ao (by simp),Ae Ah]
theorem erase_rel {l:Ai} (h:TrOk l) {j:Nat} (hj:j < l.length):Hm (l.eraseIdx j) l[j].Path=false:=by
 unfold Hm;rw [Kq];intro f hf;rw [List.mem_eraseIdx_iff_getElem] at hf;obtain ⟨i,hi,hne,rfl⟩:=hf;rcases Nat.lt_or_gt_of_ne hne with h1 | h1
 ·have:=Ce.1 h.rel i j hi hj h1;rw [this];decide
 ·have:=Ce.1 h.rel j i hj hi h1;rw [relB_comm,this];decide
theorem pos_erase {l:Ai} (h:Ng l) {j:Nat} (hj:j < l.length):Ky (l.eraseIdx j) l[j].Path=j:=by
 have hlen:(l.eraseIdx j).length=l.length - 1:=by rw [Qt,Af hj]
 refine pos_eq (h.sublist (List.eraseIdx_sublist _ _)) (by omega) ?_ ?_
 ·intro i hi hij;rw [List.getElem_eraseIdx_of_lt _ hij];exact Ce.1 h i j (by omega) hj hij
 ·intro i hi hij;rw [List.getElem_eraseIdx_of_ge _ hij];exact Qk (Ce.1 h j (i+1) hj (by omega) (by omega))
theorem ins_erase {l:Ai} (h:Ng l) {j:Nat} (hj:j < l.length) {x:File} (hx:x.Path=l[j].Path):Ws (l.eraseIdx j) x=l.set j x:=by
 unfold Ws;rw [hx,pos_erase h hj,List.eraseIdx_eq_take_drop_succ,List.set_eq_take_append_cons_drop,Af hj];have h1:(l.take j++l.drop (j+1)).take j=l.take j:=by rw [C7 (by simp;omega),List.take_take,Nat.min_self]
 have h2:(l.take j++l.drop (j+1)).drop j=l.drop (j+1):=by
  have hl:(l.take j).length=j:=by simp;omega
  rw [List.drop_append_of_le_length (by omega),Ef (by omega),Bo]
 rw [h1,h2];simp
theorem RChange_f {l:Ai} (h:TrOk l) {c:TreeChange} (hc:OkCh c):∃ t',Kh ⟨l⟩ c=some (t',(Qm c l).1)∧((Qm c l).1=0→t'=⟨(Qm c l).2⟩):=by
 have hl:=h.len;unfold Kh Qm;by_cases k1:c.Kind=1
 ·rw [As k1,Af rfl,Af k1,with_f h.srt (by omega),Aa]
  simp only;cases hr:Hm l c.Path
  ·rw [Ae Ah,Ae Ah];by_cases h24:24≤l.length
   ·rw [Af h24,Af h24];exact ⟨_,rfl,fun e=>absurd e (by simp)⟩
   ·rw [Ae h24,Ae h24];exact ⟨_,rfl,fun _=>rfl⟩
  ·rw [Af rfl,Af rfl];exact ⟨_,rfl,fun e=>absurd e (by simp)⟩
 rw [Ao k1,Ae Ah,Ae k1,FileAt_f h.srt (by omega),Aa]
 cases hh:Mv l c.Path with
 | false =>
  rw [Ae Ah,Ae Ah];exact ⟨_,rfl,fun e=>absurd e (by simp)⟩
 | true =>
  obtain ⟨hp,he⟩:=X5 h.srt hh;have hfm:=Bn hp;have hft:=h.text_len hfm;have hle:(l.eraseIdx (Ky l c.Path)).length=l.length - 1:=by rw [Qt,Af hp]
  have hes:Ng (l.eraseIdx (Ky l c.Path)):=h.srt.sublist (List.eraseIdx_sublist _ _);simp only [Gi];rw [Ao (by omega),Ae Ah,Bv hp]
  simp only;by_cases k2:c.Kind=2
  ·rw [As k2,Af rfl,Af k2,Ch hp,Aa,requal_f _ _ (by omega),Aa]
   by_cases ht:l[Ky l c.Path].Lines=c.Lines
   ·rw [As ht,Ae (show ¬ ((!true)=true) by decide),Ae (fun hn=>hn ht),without_f hp (by omega),Aa];exact ⟨_,rfl,fun _=>rfl⟩
   ·rw [Ao ht,Af (by rfl),Af ht];exact ⟨_,rfl,fun e=>absurd e (by simp)⟩
  rw [Ao k2,Ae Ah,Ae k2];by_cases k3:c.Kind=3
  ·rw [As k3,Af rfl,Af k3,Ch hp,Aa,without_f hp (by omega),Aa,with_f hes (by omega),Aa]
   simp only;cases hr:Hm (l.eraseIdx (Ky l c.Path)) c.To
   ·rw [Ae Ah,Ae Ah,Ae (by omega)]
    exact ⟨_,rfl,fun _=>rfl⟩
   ·rw [Af rfl,Af rfl];exact ⟨_,rfl,fun e=>absurd e (by simp)⟩
  ·rw [Ao k3,Ae Ah,Ae k3,Ch hp,Aa,rapply_f,Aa];unfold Kh.j1;by_cases ha:(Tx c.Patch l[Ky l c.Path].Lines).2.Code=0
   ·rw [As ha,Ae (show ¬ ((!true)=true) by decide),Ae (fun hn=>hn ha),without_f hp (by omega),Aa,with_f hes (by omega),Aa]
    have hrel:=erase_rel h hp;rw [he] at hrel;simp only;rw [hrel,Ae Ah,Ae (by omega),ins_erase h.srt hp he.symm,he]
    exact ⟨_,rfl,fun _=>rfl⟩
   ·rw [Ao ha,Af (by rfl),Af ha];exact ⟨_,rfl,fun e=>absurd e ha⟩
theorem ins_ok {l:Ai} (h:TrOk l) {x:File} (h1:La x.Path=true) (h2:Hm l x.Path=false) (h3:Ll x.Lines) (h4:l.length < 24):TrOk (Ws l x):=by
 have hrel:∀ f∈l,Oj f.Path x.Path=false:=by
  intro f hf;unfold Hm at h2;rw [Kq] at h2;simpa using h2 f hf
 refine ⟨by rw [ins_len];omega,ins_srt h.srt (rel_has h2),?_,?_,?_⟩
 ·intro f hf;rcases ins_mem.1 hf with rfl | hf
  ·exact h1
  ·exact h.path f hf
 ·unfold Ws;rw [G8,G8];have hr:=h.rel;rw [← Ki (Ky l x.Path) l,G8] at hr;refine ⟨⟨hr.1,K8 _ _,?_⟩,hr.2.1,?_⟩
  ·intro a ha b hb;rw [Bi] at hb;subst hb;exact hrel a (Hb ha)
  ·intro a ha b hb;rcases Bj.1 ha with ha | ha
   ·exact hr.2.2 a ha b hb
   ·rw [Bi] at ha;subst ha;rw [relB_comm];exact hrel b (Gq hb)
 ·intro f hf;rcases ins_mem.1 hf with rfl | hf
  ·exact h3
  ·exact h.text f hf
theorem erase_ok {l:Ai} (h:TrOk l) (j:Nat):TrOk (l.eraseIdx j):=by
 have hs:=List.eraseIdx_sublist l j;refine ⟨Cc hs.length_le h.len,h.srt.sublist hs,fun f hf=>h.path f (hs.subset hf),h.rel.sublist hs,fun f hf=>h.text f (hs.subset hf)⟩
theorem applyF_text {p:Patch} {t:Ac} (h:(Tx p t).2.Code=0):Ll (Tx p t).1:=by
 obtain ⟨h1,h2,h3,h4,h5,h6⟩:=applyF_ok h;rw [h6];exact ⟨h5,rawS_lines _ _ _ h3.2 fun x hx=>lines_of (Zo h2 (by omega) x hx).2.2.2.1⟩
theorem makeF_ok {l:Ai} (h:TrOk l) {c:TreeChange} (hc:OkCh c) (h0:(Qm c l).1=0):TrOk (Qm c l).2:=by
 unfold Qm at h0 ⊢;by_cases k1:c.Kind=1
 ·rw [Af k1] at h0 ⊢;cases hr:Hm l c.Path
  ·rw [hr,Ae Ah] at h0;rw [Ae Ah];by_cases h24:24≤l.length
   ·rw [Af h24] at h0;simp at h0
   ·rw [Ae h24];exact ins_ok h hc.path hr ((Lo _).2 ((H4 _).2 hc.lines)) (by omega)
  ·rw [hr,Af rfl] at h0;simp at h0
 rw [Ae k1] at h0 ⊢;cases hh:Mv l c.Path with
 | false=>rw [hh] at h0;simp at h0
 | true =>
  obtain ⟨hp,he⟩:=X5 h.srt hh;have hfm:=Bn hp;have hle:(l.eraseIdx (Ky l c.Path)).length=l.length - 1:=by rw [Qt,Af hp]
  have hl:=h.len;rw [hh,Af rfl,Bv hp] at h0;rw [Af rfl,Bv hp];simp only at h0 ⊢;by_cases k2:c.Kind=2
  ·rw [Af k2] at h0 ⊢;by_cases ht:l[Ky l c.Path].Lines≠c.Lines
   ·rw [Af ht] at h0;simp at h0
   ·rw [Ae ht];exact erase_ok h _
  rw [Ae k2] at h0 ⊢;by_cases k3:c.Kind=3
  ·rw [Af k3] at h0 ⊢;cases hr:Hm (l.eraseIdx (Ky l c.Path)) c.To
   ·rw [Ae Ah];exact ins_ok (erase_ok h _) (hc.to k3).1 hr (show Ll l[Ky l c.Path].Lines from h.text _ hfm) (by omega)
   ·rw [hr,Af rfl] at h0;simp at h0
  ·rw [Ae k3] at h0 ⊢;by_cases ha:(Tx c.Patch l[Ky l c.Path].Lines).2.Code=0
   ·rw [Ae (fun hn=>hn ha)];simp only;rw [← ins_erase h.srt hp (x:=⟨l[Ky l c.Path].Path,(Tx c.Patch l[Ky l c.Path].Lines).1⟩) rfl];refine ins_ok (erase_ok h _) (show La l[Ky l c.Path].Path=true from h.path _ hfm) (erase_rel h hp) ?_ (by omega)
    exact applyF_text ha
   ·rw [Af ha] at h0;exact absurd h0 ha
def pcG (k:Nat) (c:TreeChange):Option Fault:=if chF c≠0 then some ⟨chF c,k⟩ else Option.none
def pcF (p:Ei):Fault:=if p.length > 30 then ⟨2,-1⟩ else (Mw pcG 0 p).getD ⟨0,0⟩
theorem VPatch_f (p:TreePatch):Dl p=some (pcF p.Changes):=by
 obtain ⟨l⟩:=p;unfold Dl pcF;simp only;by_cases h:l.length > 30
 ·rw [As (by omega),Af rfl,Af h]
 rw [Ao (by omega),Ae Ah,Ae h,scan0 l pcG ?_ ?_,Aa]
 ·cases Mw pcG 0 l <;> rfl
 ·intro k hk _;unfold Dl.l1 pcG;simp only;rw [As (by omega),Af rfl,Ch hk,Aa,check_f,Aa]
  by_cases hc:chF l[k]=0
  ·rw [As hc,Ae (show ¬ ((!true)=true) by decide),Ae (fun hn=>hn hc),Df (by omega) (by omega),Aa];rfl
  ·rw [Ao hc,Af (by rfl),Af hc]
 ·unfold Dl.l1;rw [Ao (by simp),Ae Ah]
theorem RVPatch_f (p:TreePatch):Dy p=some (pcF p.Changes):=by
 obtain ⟨l⟩:=p;unfold Dy pcF;simp only;by_cases h:l.length > 30
 ·rw [As (by omega),Af rfl,Af h];rfl
 rw [Ao (by omega),Ae Ah,Ae h,scan0 l pcG ?_ ?_,Aa]
 ·cases Mw pcG 0 l <;> rfl
 ·intro k hk _;unfold Dy.l1 pcG;simp only;rw [As (by omega),Af rfl,Ch hk,Aa,ChangeCode_f,Aa]
  by_cases hc:chF l[k]=0
  ·rw [As hc,Ae (show ¬ ((!true)=true) by decide),Ae (fun hn=>hn hc),Df (by omega) (by omega),Aa];rfl
  ·rw [Ao hc,Af (by rfl),Af hc];rfl
 ·unfold Dy.l1;rw [Ao (by simp),Ae Ah]
theorem pcG_code {k:Nat} {c:TreeChange} {y:Fault} (h:pcG k c=some y):y.Code≠0:=by
 unfold pcG at h;split at h
 ·rename_i hc;cases h;exact hc
 ·cases h
theorem pcF_ok (p:Ei):pcF p=⟨0,0⟩∨(pcF p).Code≠0:=by
 unfold pcF;split
 ·right;simp
 ·cases h:Mw pcG 0 p with
  | none=>left;rfl
  | some y=>right;obtain ⟨j,hj,e⟩:=Tw h;exact pcG_code e
theorem pcF_zero (p:Ei):(pcF p).Code=0↔p.length≤30∧∀ c∈p,OkCh c:=by
 unfold pcF;by_cases h:p.length > 30
 ·rw [Af h];exact ⟨fun e=>by simp at e,fun e=>by omega⟩
 rw [Ae h]
 have e1:(((Mw pcG 0 p).getD ⟨0,0⟩).Code=0)↔Mw pcG 0 p=Option.none:=by
  cases h:Mw pcG 0 p with
  | none=>simp
  | some y=>obtain ⟨j,hj,e⟩:=Tw h;simp [pcG_code e]
 rw [e1,V7];constructor
 ·intro hh;refine ⟨by omega,fun c hc=>?_⟩
  obtain ⟨j,hj,rfl⟩:=Da hc;have:=hh j hj;unfold pcG at this;split at this
  ·cases this
  ·rename_i h0;exact chF_ok.1 (by simpa using h0)
 ·rintro ⟨_,hh⟩ j hj;unfold pcG;rw [Ae (by rw [chF_ok.2 (hh _ (Bn hj))];simp)]
def Xz:Nat→Ei→Ai→Ai×Fault
 | _,[],l=>(l,⟨0,0⟩)
 | k,c::r,l=>if (Qm c l).1≠0 then ([],⟨(Qm c l).1,k⟩) else Xz (k+1) r (Qm c l).2
def Ke (p:Ei) (l:Ai):Ai×Fault :=
 if (pcF p).Code≠0 then ([],pcF p) else if (K0 l).Code≠0 then ([],⟨(K0 l).Code,-2⟩) else Xz 0 p l
theorem copyT_f {l:Ai} (h:∀ f∈l,f.Lines.length≤1000000) (hl:l.length≤1000):Gf ⟨l⟩=some ⟨l⟩:=by
 have key:∀ (n k:Nat),k+n=l.length→Eo (fun s=>Gf.l1 ⟨l⟩ s.1 s.2) ((k:Int),l.take k)=some l:=by
  intro n
  induction n with
  | zero =>
   intro k hk;refine B5 ?_;show Gf.l1 ⟨l⟩ _ _=_;unfold Gf.l1;simp only;rw [Ao (by omega),Ae Ah,D0 (by omega)]
  | succ n ih =>
   intro k hk;have hkl:k < l.length:=by omega
   have hs:Gf.l1 ⟨l⟩ (k:Int) (l.take k)=some (Step.next (((k+1:Nat):Int),l.take (k+1))):=by
    unfold Gf.l1;simp only
    rw [As (by omega),Af rfl,Ch hkl,Aa,clone_f _ (h _ (Bn hkl)),Aa,Gm (by simp;omega),Aa,Df (by omega) (by omega),Aa,
     List.take_add_one,Bv hkl];rfl
   rw [C0 (s':=(((k+1:Nat):Int),l.take (k+1))) hs];exact ih (k+1) (by omega)
 unfold Gf;have:=key l.length 0 (by omega)
 rw [Hw,show ((0:Nat):Int)=0 from rfl] at this;rw [this,Aa];rfl
theorem run_ok:∀ (r:Ei) (k:Nat) (l:Ai),TrOk l→(∀ c∈r,OkCh c)→(Xz k r l).2.Code=0→TrOk (Xz k r l).1∧(Xz k r l).2=⟨0,0⟩
 | [],k,l,h,_,_=>⟨h,rfl⟩
 | c::r,k,l,h,hc,h0=>by
  rw [Xz] at h0 ⊢;by_cases hm:(Qm c l).1≠0
  ·rw [Af hm] at h0;exact absurd h0 hm
  ·rw [Ae hm] at h0 ⊢;exact run_ok r (k+1) _ (makeF_ok h (hc c C6) (by simpa using hm)) (fun d hd=>hc d (B2 _ hd)) h0
theorem run_iter {p:Ei} (hp:∀ c∈p,OkCh c) (hpl:p.length≤30):∀ (r:Ei) (k:Nat) (l:Ai),p.drop k=r→TrOk l →
  Eo (fun s=>Hd.l1 ⟨p⟩ s.1 s.2) ((k:Int),l)=some (if (Xz k r l).2.Code≠0 then .inl (⟨[]⟩,(Xz k r l).2) else .inr (Xz k r l).1):=by
 intro r
 induction r with
 | nil =>
  intro k l hk h;have:=L3 hk;rw [Xz,Ae (by simp)]
  refine B5 ?_;show Hd.l1 ⟨p⟩ _ _=_;unfold Hd.l1;simp only;rw [Ao (by omega),Ae Ah]
 | cons c r ih =>
  intro k l hk h;obtain ⟨hlt,hx,hr⟩:=Me hk;have hc:OkCh c:=hp c (hx ▸ Bn hlt)
  have hs:Hd.l1 ⟨p⟩ (k:Int) l=if (Qm c l).1≠0 then some (Step.done (Sum.inl (⟨[]⟩,⟨(Qm c l).1,k⟩))) else some (Step.next (((k+1:Nat):Int),(Qm c l).2)):=by
   unfold Hd.l1;simp only;rw [As (by omega),Af rfl,Ch hlt,Aa,hx,make1_f h hc,Aa]
   by_cases hm:(Qm c l).1=0
   ·rw [As hm,Ae (show ¬ ((!true)=true) by decide),Ae (fun hn=>hn hm),Df (by omega) (by omega),Aa];rfl
   ·rw [Ao hm,Af (by rfl),Af hm]
  rw [Xz];by_cases hm:(Qm c l).1≠0
  ·rw [Af hm] at hs ⊢;rw [Af (by simpa using hm)]
   exact B5 hs
  ·rw [Ae hm] at hs ⊢;rw [C0 (s':=(((k+1:Nat):Int),(Qm c l).2)) hs];exact ih (k+1) _ hr (makeF_ok h hc (by simpa using hm))
theorem rrun_iter {p:Ei} (hp:∀ c∈p,OkCh c) (hpl:p.length≤30):∀ (r:Ei) (k:Nat) (l:Ai),p.drop k=r→TrOk l →
  Eo (fun s=>Dq.l1 ⟨p⟩ s.1 s.2) ((k:Int),l)=some (if (Xz k r l).2.Code≠0 then .inl (⟨[]⟩,(Xz k r l).2) else .inr (Xz k r l).1):=by
 intro r
 induction r with
 | nil =>
  intro k l hk h;have:=L3 hk;rw [Xz,Ae (by simp)]
  refine B5 ?_;show Dq.l1 ⟨p⟩ _ _=_;unfold Dq.l1;simp only;rw [Ao (by omega),Ae Ah]
 | cons c r ih =>
  intro k l hk h;obtain ⟨hlt,hx,hr⟩:=Me hk;have hc:OkCh c:=hp c (hx ▸ Bn hlt);obtain ⟨t',e1,e2⟩:=RChange_f h hc
  have hs:Dq.l1 ⟨p⟩ (k:Int) l=if (Qm c l).1≠0 then some (Step.done (Sum.inl (⟨[]⟩,⟨(Qm c l).1,k⟩))) else some (Step.next (((k+1:Nat):Int),(Qm c l).2)):=by
   unfold Dq.l1;simp only;rw [As (by omega),Af rfl,Ch hlt,Aa,hx,e1,Aa]
   simp only;by_cases hm:(Qm c l).1=0
   ·rw [As hm,Ae (show ¬ ((!true)=true) by decide),Ae (fun hn=>hn hm),Df (by omega) (by omega),Aa,e2 hm];rfl
   ·rw [Ao hm,Af (by rfl),Af hm];rfl
  rw [Xz];by_cases hm:(Qm c l).1≠0
  ·rw [Af hm] at hs ⊢;rw [Af (by simpa using hm)]
   exact B5 hs
  ·rw [Ae hm] at hs ⊢;rw [C0 (s':=(((k+1:Nat):Int),(Qm c l).2)) hs];exact ih (k+1) _ hr (makeF_ok h hc (by simpa using hm))
theorem run_fail:∀ (r:Ei) (k:Nat) (l:Ai),(Xz k r l).2.Code≠0→(Xz k r l).1=[]
 | [],k,l,h=>absurd rfl h
 | c::r,k,l,h=>by
  rw [Xz] at h ⊢;by_cases hm:(Qm c l).1≠0
  ·rw [Af hm]
  ·rw [Ae hm] at h ⊢;exact run_fail r (k+1) _ h
theorem Apply_f (p:TreePatch) (t:FileTree):Hd p t=some (⟨(Ke p.Changes t.Files).1⟩,(Ke p.Changes t.Files).2):=by
 obtain ⟨p⟩:=p;obtain ⟨l⟩:=t;unfold Hd Ke;rw [VPatch_f,Aa];simp only;rcases pcF_ok p with h | h
 ·have h0:(pcF p).Code=0:=by rw [h]
  obtain ⟨hpl,hp⟩:=(pcF_zero p).1 h0;rw [Ae (by rw [h];decide),Ae (fun hn=>hn h0),tsecond_f,Aa]
  simp only;by_cases ht:(K0 l).Code=0
  ·have hT:=(Od l).1 ht;rw [Af ht,Ae (by decide),Ae (fun hn=>hn ht),copyT_f (fun f hf=>by have:=hT.text_len hf;omega) (by have:=hT.len;omega),Aa]
   have:=run_iter hp hpl p 0 l rfl hT;rw [show ((0:Nat):Int)=0 from rfl] at this;rw [this,Aa];by_cases hr:(Xz 0 p l).2.Code≠0
   ·rw [Af hr,run_fail _ _ _ hr]
   ·rw [Ae hr,(run_ok p 0 l hT hp (by simpa using hr)).2];rfl
  ·rw [Ae ht,Af (by simp [ht]),Af ht]
 ·rw [Af (by simp [h]),Af h]
theorem RApply_f (p:TreePatch) (t:FileTree):Dq p t=some (⟨(Ke p.Changes t.Files).1⟩,(Ke p.Changes t.Files).2):=by
 obtain ⟨p⟩:=p;obtain ⟨l⟩:=t;unfold Dq Ke;rw [RVPatch_f,Aa];simp only;rcases pcF_ok p with h | h
 ·have h0:(pcF p).Code=0:=by rw [h]
  obtain ⟨hpl,hp⟩:=(pcF_zero p).1 h0;rw [Ae (by rw [h];decide),Ae (fun hn=>hn h0),TreeFault_f,Aa]
  simp only;by_cases ht:(K0 l).Code=0
  ·have hT:=(Od l).1 ht;rw [As ht,Ae (by decide),Ae (fun hn=>hn ht)]
   have:=rrun_iter hp hpl p 0 l rfl hT;rw [show ((0:Nat):Int)=0 from rfl] at this;rw [this,Aa];by_cases hr:(Xz 0 p l).2.Code≠0
   ·rw [Af hr,run_fail _ _ _ hr]
   ·rw [Ae hr,(run_ok p 0 l hT hp (by simpa using hr)).2];rfl
  ·rw [Ao ht,Af (by rfl),Af ht];rfl
 ·rw [Af (by simp [h]),Af h]
theorem tree_refl {l:Ai} (h:∀ f∈l,f.Lines.length≤1000000) (hl:l.length≤1000000):Ex ⟨l⟩ ⟨l⟩=some true:=by
 unfold Ex;simp only;rw [Ae (by simp),scan0 l (fun _ _=>(Option.none:Option Bool)) ?_ ?_,Aa]
 ·have:Mw (fun _ _=>(Option.none:Option Bool)) 0 l=Option.none:=by rw [V7];intro j hj;rfl
  rw [this];rfl
 ·intro k hk _;unfold Ex.l1;simp only
  rw [As (by omega),Af rfl,Ch hk,Aa,Aa,As rfl,Ae (show ¬ ((!true)=true) by decide),Aa,Aa,Zp _ _ (h _ (Bn hk)),Aa,
   As rfl,Aa,Ae (by decide),Df (by omega) (by omega),Aa];rfl
 ·unfold Ex.l1;rw [Ao (by simp),Ae Ah]
theorem tree_nil:Ex ⟨[]⟩ ⟨[]⟩=some true:=tree_refl (by simp) (by simp)
theorem T9 {p:Ei} {l:Ai} (h:(Ke p l).2.Code=0):p.length≤30∧(∀ c∈p,OkCh c)∧TrOk l∧Ke p l=Xz 0 p l∧TrOk (Ke p l).1:=by
 unfold Ke at h ⊢;by_cases hp:(pcF p).Code≠0
 ·rw [Af hp] at h;exact absurd h hp
 rw [Ae hp] at h ⊢;have hp0:=(pcF_zero p).1 (by simpa using hp)
 by_cases ht:(K0 l).Code≠0
 ·rw [Af ht] at h;exact absurd h ht
 rw [Ae ht] at h ⊢;have hT:=(Od l).1 (by simpa using ht)
 exact ⟨hp0.1,hp0.2,hT,rfl,(run_ok p 0 l hT hp0.2 h).1⟩
theorem res_eq:∀ {a b:Ai},Ng a→Ng b→(∀ f,f∈a↔f∈b)→a=b
 | [],[],_,_,_=>rfl
 | [],g::b,_,_,h=>absurd ((h g).2 C6) (by simp)
 | f::a,[],_,_,h=>absurd ((h f).1 C6) (by simp)
 | f::a,g::b,ha,hb,h=>by
  have ha':=Em.1 ha;have hb':=Em.1 hb
  have e:f=g:=by
   rcases Cd.1 ((h f).1 C6) with e | e
   ·exact e
   ·rcases Cd.1 ((h g).2 C6) with e2 | e2
    ·exact e2.symm
    ·have h1:=hb'.1 f e;have h2:=ha'.1 g e2;rw [Qk h1] at h2;cases h2
  subst e;congr 1;refine res_eq ha'.2 hb'.2 fun x=>?_
  have hne:∀ y∈a,y≠f:=fun y hy e=>by
   subst e;have:=ha'.1 y hy;rw [Tr] at this;cases this
  have hne2:∀ y∈b,y≠f:=fun y hy e=>by
   subst e;have:=hb'.1 y hy;rw [Tr] at this;cases this
  constructor
  ·intro hx;rcases Cd.1 ((h x).1 (B2 _ hx)) with e | e
   ·exact absurd e (hne x hx)
   ·exact e
  ·intro hx;rcases Cd.1 ((h x).2 (B2 _ hx)) with e | e
   ·exact absurd e (hne2 x hx)
   ·exact e
theorem mem_has {l:Ai} (h:Ng l) {P:ByteArray} {L:Ac} (hm:(⟨P,L⟩:File)∈l):∃ hp:Ky l P < l.length,Mv l P=true∧l[Ky l P]=⟨P,L⟩:=by
 obtain ⟨i,hi,e⟩:=Da hm;have:=pos_of h hi;rw [e] at this;simp only at this;refine ⟨by omega,this.2,?_⟩
 rw [← e];congr 1;exact this.1
theorem sLt_not {a b:ByteArray} (h:sLt a b=false):a=b∨sLt b a=true:=by
 rcases sLt_tri a b with h1 | h1 | h1
 ·rw [h1] at h;cases h
 ·exact .inl h1
 ·exact .inr h1
theorem sLt_not_trans {a b c:ByteArray} (h1:sLt a b=false) (h2:sLt b c=false):sLt a c=false:=by
 rcases sLt_not h1 with rfl | h1
 ·exact h2
 rcases sLt_not h2 with rfl | h2
 ·exact Qk h1
 ·exact Qk (Xc h2 h1)
def SAsc (l:Ac):Prop:=l.Pairwise fun x y=>sLt x y=true
theorem sasc_uniq:∀ {l m:Ac},SAsc l→SAsc m→(∀ z,z∈l↔z∈m)→l=m
 | [],[],_,_,_=>rfl
 | [],y::m,_,_,h=>by have:=(h y).2 (by simp);cases this
 | x::l,[],_,_,h=>by have:=(h x).1 (by simp);cases this
 | x::l,y::m,hl,hm,h=>by
  unfold SAsc at hl hm;rw [Em] at hl hm
  have e:x=y:=by
   rcases Cd.1 ((h x).1 (by simp)) with e | hx
   ·exact e
   ·rcases Cd.1 ((h y).2 (by simp)) with e | hy
    ·exact e.symm
    ·have h1:=hm.1 x hx;have h2:=hl.1 y hy;rw [Qk h2] at h1;cases h1
  subst e;rw [sasc_uniq (l:=l) (m:=m) hl.2 hm.2 (fun z=>?_)];constructor
  ·intro hz;rcases Cd.1 ((h z).1 (by simp [hz])) with rfl | h1
   ·have:=hl.1 z hz;rw [Tr] at this;cases this
   ·exact h1
  ·intro hz;rcases Cd.1 ((h z).2 (by simp [hz])) with rfl | h1
   ·have:=hm.1 z hz;rw [Tr] at this;cases this
   ·exact h1
theorem sortS_pw (l:Ac):(Wu l).Pairwise fun x y=>sLt y x=false:=by
 have h:=List.pairwise_mergeSort (le:=fun x y=>!sLt y x) (l:=l)
  (fun a b c h1 h2=>by simp only [Bool.not_eq_true'] at h1 h2 ⊢;exact sLt_not_trans h2 h1)
  (fun a b=>by
   cases h1:sLt b a with
   | false=>rfl
   | true=>rw [Qk h1];rfl)
 exact h.imp (fun {a b} hab=>by simpa using hab)
theorem sortS_perm (l:Ac):(Wu l).Perm l:=List.mergeSort_perm _ _
def sdq (p:ByteArray):Ac→Ac
 | []=>[]
 | y::r=>if y=p then sdq p r else y::sdq y r
def sdd:Ac→Ac
 | []=>[]
 | x::r=>x::sdq x r
theorem sdq_snoc:∀ (m:Ac) (p y:ByteArray),sdq p (m++[y])=if y=(m.getLast?).getD p then sdq p m else sdq p m++[y]
 | [],p,y=>by
  by_cases h:y=p <;> simp [sdq,h]
 | x::m,p,y=>by
  rw [List.cons_append,sdq,sdq,sdq_snoc m,sdq_snoc m]
  have hl:((x::m).getLast?).getD p=(m.getLast?).getD x:=by
   rw [List.getLast?_cons];cases m.getLast? <;> rfl
  rw [hl];by_cases h:x=p
  ·rw [Af h,Af h,h]
  ·rw [Ae h,Ae h];split <;> rfl
theorem sdd_snoc {m:Ac} {x y:ByteArray} (hx:m.getLast? = some x):sdd (m++[y])=if y=x then sdd m else sdd m++[y]:=by
 cases m with
 | nil=>cases hx
 | cons z m =>
  rw [List.cons_append,sdd,sdd,sdq_snoc];rw [List.getLast?_cons] at hx
  have:(m.getLast?).getD z=x:=by
   cases h:m.getLast? with
   | none=>rw [h] at hx;cases hx;rfl
   | some w=>rw [h] at hx;cases hx;rfl
  rw [this];split <;> rfl
theorem slast_at {l:Ac} (h:0 < l.length):l.getLast? = some l[l.length - 1]:=by
 rw [List.getLast?_eq_getElem?,Bv (by omega)]
theorem sdd_take {l:Ac} {k:Nat} (h:k < l.length) (h0:0 < k):sdd (l.take (k+1))=if l[k]=l[k - 1] then sdd (l.take k) else sdd (l.take k)++[l[k]]:=by
 rw [Bg h];refine sdd_snoc ?_;have hlen:(l.take k).length=k:=by rw [B9];omega
 rw [slast_at (by omega),E7]
 congr 2;omega
theorem sdd_none {l:Ac}:∀ k,k≤l.length→(∀ j (h:j < l.length),0 < j→j < k→l[j]≠l[j - 1])→sdd (l.take k)=l.take k
 | 0,_,_=>by rw [Hw];rfl
 | 1,h1,_=>by
  cases l with
  | nil=>rfl
  | cons x l=>simp [sdd,sdq]
 | k+2,hk,h=>by
  rw [sdd_take (by omega) (by omega),Ae (h (k+1) (by omega) (by omega) (by omega)),sdd_none (k+1) (by omega) (fun j hj h1 h2=>h j hj h1 (by omega))]
  rw [← Bg]
def scG (l:Ac) (k:Nat) (v:ByteArray):Option Ac:=if 0 < k∧l[k - 1]? = some v then some (sdd l) else Option.none
theorem sc2_f {l:Ac} (hl:l.length≤100000) {k:Nat} (hk:k < l.length) (h0:0 < k) (hd:sdd (l.take (k+1))=l.take k) :
  ∃ r,Eo (fun s=>Dj.l2 (k:Int) ((l.length:Int) - k) s.1 s.2.1 s.2.2) (1,(k:Int),l)=some r∧∃ p:Nat,r.1=p∧p≤r.2.length∧r.2.length=l.length∧r.2.take p=sdd l:=by
 refine inv_loopE (f:=fun s=>Dj.l2 (k:Int) ((l.length:Int) - k) s.1 s.2.1 s.2.2) 1 (l.length - k) (by omega)
  (fun j t=>t.2.length=l.length∧∃ p:Nat,t.1=p∧p≤k+j - 1∧t.2.take p=sdd (l.take (k+j))∧t.2.drop (k+j - 1)=l.drop (k+j - 1)) _ ?_ ?_ ((k:Int),l) ⟨rfl,k,rfl,by omega,hd.symm,rfl⟩
 ·rintro j ⟨_,t⟩ hj1 hj ⟨ht,p,hp,hpk,htake,hdrop⟩;simp only at ht hp htake hdrop;subst hp;left;have hkj:k+j < l.length:=by omega
  have g1:t[k+j]'(by omega)=l[k+j]:=by
   have h1:=Eg (xs:=t) (i:=k+j - 1) (j:=1) (h:=by rw [Dg];omega)
   have h2:=Eg (xs:=l) (i:=k+j - 1) (j:=1) (h:=by rw [Dg];omega)
   have e:k+j - 1+1=k+j:=by omega
   simp only [hdrop,e] at h1 h2;rw [← h1,← h2]
  have g2:t[k+j - 1]'(by omega)=l[k+j - 1]:=by
   have h1:=Eg (xs:=t) (i:=k+j - 1) (j:=0) (h:=by rw [Dg];omega)
   have h2:=Eg (xs:=l) (i:=k+j - 1) (j:=0) (h:=by rw [Dg];omega)
   simp only [hdrop,Eu] at h1 h2;rw [← h1,← h2]
  have a1:atA? t (k:Int) ((l.length:Int) - k) (j:Int)=some l[k+j]:=by
   unfold atA?;rw [Af (by omega),show ((k:Int)+(j:Int))=((k+j:Nat):Int) by omega,Ch (by omega),g1]
  have a2:atA? t (k:Int) ((l.length:Int) - k) ((j:Int) - 1)=some l[k+j - 1]:=by
   unfold atA?;rw [Af (by omega),show ((k:Int)+((j:Int) - 1))=((k+j - 1:Nat):Int) by omega,Ch (by omega),g2]
  unfold Dj.l2;simp only;rw [A5,Af (by omega),a1,Aa,Df (by omega) (by omega),Aa,a2,Aa,L5]
  have hdd:=sdd_take (l:=l) (k:=k+j) hkj (by omega)
  unfold Dj.j4;by_cases hc:l[k+j]=l[k+j - 1]
  ·rw [Af hc,Df (by omega) (by omega),Aa]
   rw [Af hc] at hdd;refine ⟨_,rfl,ht,p,rfl,by omega,?_,?_⟩
   ·rw [show k+(j+1)=k+j+1 by omega,hdd];exact htake
   ·have e:k+(j+1) - 1=(k+j - 1)+1:=by omega
    rw [e,← G5,← G5,hdrop]
  ·rw [Ae hc];rw [Ae hc] at hdd;simp only [Aa];rw [Ch (by omega),Aa,Df (by omega) (by omega),Aa,Df (by omega) (by omega),Aa,Bh]
   refine ⟨_,rfl,by simpa using ht,p+1,by omega,by omega,?_,?_⟩
   ·rw [show k+(j+1)=k+j+1 by omega,hdd,← htake]
    have hpl:p < t.length:=by omega
    rw [Bg (by simpa using hpl),List.getElem_set_self,List.take_set_of_le (C1 _)]
   ·have e:k+(j+1) - 1=(k+j - 1)+1:=by omega
    rw [e,List.drop_set_of_lt (by omega),← G5,← G5,hdrop]
 ·rintro ⟨_,t⟩ ⟨ht,p,hp,hpk,htake,hdrop⟩;simp only at ht hp htake hdrop;subst hp;unfold Dj.l2;simp only;rw [A5,Ae (by omega)]
  refine ⟨_,rfl,p,rfl,?_,ht,?_⟩
  ·simp only;omega
  ·have e:k+(l.length - k)=l.length:=by omega
   rw [e,De] at htake;exact htake
theorem scompact_f {l:Ac} (hl:l.length≤100000):Dj l=some (sdd l):=by
 unfold Dj;rw [A5];by_cases h2:l.length < 2
 ·rw [Af (by omega)]
  congr 1
  match l,h2 with
  | [],_=>rfl
  | [x],_=>rfl
  | _::_::_,h=>simp at h;omega
 rw [Ae (by omega)]
 have hg:∀ k (h:k < l.length),scG l k l[k]=if 0 < k∧l[k - 1]=l[k] then some (sdd l) else Option.none:=by
  intro k h;unfold scG;rw [Bv (by omega)]
  simp only [Option.some.injEq]
 have hi:=scn_iter (f:=fun s=>Dj.l1 l s) (dn:=Sum.inl) (e:=.inr ()) 1 l (scG l) ?_ ?_ (l.drop 1) 1 rfl (by omega) (C1 _) (fun j hj h=>by
  have:j=0:=by omega
  subst this;unfold scG;rw [Ae (by omega)])
 ·rw [show ((1:Nat):Int)=1 from rfl] at hi;rw [hi,Aa];cases hs:scn (scG l) 1 (l.drop 1) with
  | some r =>
   obtain ⟨j,hj,he⟩:=scn_some hs;unfold scG at he;split at he
   ·cases he;rfl
   ·cases he
  | none =>
   show Dj.j1 l=_;unfold Dj.j1
   have:=sdd_none (l:=l) l.length (C1 _) (fun j hj h0 _=>by
    have:=scn_none.1 hs (j - 1) (by rw [Dg];omega)
    rw [Eg] at this;have e:1+(j - 1)=j:=by omega
    simp only [e] at this;rw [hg j hj] at this;split at this
    ·cases this
    ·rename_i hn
     exact fun h=>hn ⟨h0,h.symm⟩)
   rw [De] at this;rw [this]
 ·intro k h hk0 hp;rw [hg k h]
  ·unfold Dj.l1;rw [A5,Af (by omega),Ch h,Aa,Df (by omega) (by omega),Aa,show ((k:Int) - 1)=((k - 1:Nat):Int) by omega,Ch (by omega),Aa,A5]
   by_cases hc:l[k]=l[k - 1]
   ·rw [Af hc,Af ⟨by omega,hc.symm⟩]
    have hd:sdd (l.take (k+1))=l.take k:=by
     rw [sdd_take h (by omega),Af hc,sdd_none k (by omega)]
     intro j hj h0 hjk;have:=hp j hj hjk;rw [hg j hj] at this;split at this
     ·cases this
     ·rename_i hn
      exact fun h=>hn ⟨h0,h.symm⟩
    obtain ⟨r,e,p,hr1,hpl,hlen,htk⟩:=sc2_f hl h (by omega) hd
    have e1:als? l (k:Int)=some ((l.length:Int) - k):=by
     unfold als?;rw [Af (by omega)]
    rw [e1,Aa,e,Aa];unfold Dj.j3
    have e2:als? r.2 r.1=some ((r.2.length:Int) - p):=by
     unfold als?;rw [hr1,Af (by omega)]
    rw [e2,Aa]
    have e3:clr? r.2 r.1 ((r.2.length:Int) - p) ByteArray.empty=some (r.2.take p++List.replicate ((r.2.length:Int) - p).toNat ByteArray.empty):=by
     unfold clr?;rw [hr1,Af (by omega),Bh]
    rw [e3,Aa,hr1,Uj (by omega) (by omega) (by simp;omega),Aa]
    simp only [Bh,Int.toNat_zero,List.drop_zero];rw [C7 (by simp;omega),List.take_take,Nat.min_self,htk]
   ·rw [Ae hc,Ae (fun h=>hc h.2.symm)];unfold Dj.j2;rw [Df (by omega) (by omega),Aa];rfl
 ·unfold Dj.l1;rw [A5,Ae (by omega)]
theorem sdq_spec:∀ (l:Ac) (p:ByteArray),(∀ y∈l,sLt y p=false)→l.Pairwise (fun x y=>sLt y x=false) →
  (sdq p l).Pairwise (fun x y=>sLt x y=true)∧(∀ z∈sdq p l,sLt p z=true)∧∀ z,z∈sdq p l↔z∈l∧z≠p
 | [],p,_,_=>by simp [sdq]
 | y::r,p,hge,hs=>by
  rw [Em] at hs;rw [sdq];by_cases h:y=p
  ·rw [Af h];obtain ⟨h1,h2,h3⟩:=sdq_spec r p (fun z hz=>hge z (by simp [hz])) hs.2
   refine ⟨h1,h2,fun z=>?_⟩;rw [h3,Cd];constructor
   ·rintro ⟨a,b⟩;exact ⟨.inr a,b⟩
   ·rintro ⟨rfl | a,b⟩
    ·exact absurd h b
    ·exact ⟨a,b⟩
  ·rw [Ae h];obtain ⟨h1,h2,h3⟩:=sdq_spec r y (fun z hz=>hs.1 z hz) hs.2
   have hpy:sLt p y=true:=by
    rcases sLt_not (hge y (by simp)) with h4 | h4
    ·exact absurd h4 h
    ·exact h4
   refine ⟨Em.2 ⟨h2,h1⟩,?_,fun z=>?_⟩
   ·intro z hz;rcases Cd.1 hz with rfl | hz
    ·exact hpy
    ·exact Xc hpy (h2 z hz)
   ·rw [Cd,h3,Cd];constructor
    ·rintro (rfl | ⟨a,b⟩)
     ·exact ⟨.inl rfl,h⟩
     ·refine ⟨.inr a,fun e=>?_⟩;have h4:=h2 z ((h3 z).2 ⟨a,b⟩);rw [e,Qk hpy] at h4;cases h4
    ·rintro ⟨rfl | a,b⟩
     ·exact .inl rfl
     ·by_cases e:z=y
      ·exact .inl e
      ·exact .inr ⟨a,e⟩
theorem sdd_spec {l:Ac} (hs:l.Pairwise (fun x y=>sLt y x=false)):SAsc (sdd l)∧∀ z,z∈sdd l↔z∈l:=by
 cases l with
 | nil=>simp [sdd,SAsc]
 | cons x r =>
  rw [Em] at hs;obtain ⟨h1,h2,h3⟩:=sdq_spec r x hs.1 hs.2;rw [sdd];refine ⟨Em.2 ⟨h2,h1⟩,fun z=>?_⟩;rw [Cd,h3,Cd];constructor
  ·rintro (rfl | ⟨a,_⟩)
   ·exact .inl rfl
   ·exact .inr a
  ·rintro (rfl | a)
   ·exact .inl rfl
   ·by_cases e:z=x
    ·exact .inl e
    ·exact .inr ⟨a,e⟩
theorem sdq_len:∀ (l:Ac) (p:ByteArray),(sdq p l).length≤l.length
 | [],_=>C1 _
 | y::r,p=>by
  rw [sdq];split
  ·have:=sdq_len r p;simp only [Ew];omega
  ·have:=sdq_len r y;simp only [Ew];omega
theorem sdd_len (l:Ac):(sdd l).length≤l.length:=by
 cases l with
 | nil=>exact C1 _
 | cons x r=>have:=sdq_len r x;simp only [sdd,Ew];omega
def ksort (l:Ac):Ac:=sdd (Wu l)
theorem ksort_asc (l:Ac):SAsc (ksort l):=(sdd_spec (sortS_pw l)).1
theorem ksort_mem (l:Ac) (z:ByteArray):z∈ksort l↔z∈l:=by
 unfold ksort;rw [(sdd_spec (sortS_pw l)).2,(sortS_perm l).mem_iff]
theorem ksort_len (l:Ac):(ksort l).length≤l.length:=by
 have:=sdd_len (Wu l);rw [(sortS_perm l).length_eq] at this;exact this
end Go.Dc
set_option linter.unusedSimpArgs false
set_option linter.unusedVariables false
set_option maxRecDepth 4000
namespace Go.Dc
open Go
theorem followed_f:Ma=some true:=by
 have ha:=chF_ok.1 exR_ok;have hb:=chF_ok.1 exE_ok;have hc:OkCh (edF ⟨#[98]⟩ ⟨[⟨0,[],[⟨#[120]⟩]⟩]⟩):=chF_ok.1 (by decide +kernel)
 have hi:indB exR exE=false:=by decide +kernel
 have h:Eq exR exE=some (edF ⟨#[98]⟩ ⟨[⟨0,[],[⟨#[120]⟩]⟩]⟩,exR,true,⟨0,0⟩):=by
  unfold Eq
  have e0:Eq.l1 exR exE 0=some (Step.next 1):=by
   unfold Eq.l1;rw [Af (by simp),show at? [exR,exE] 0=some exR from rfl,Aa,secondPatch1_f,Aa,exR_ok,Ae (by decide)];rfl
  have e1:Eq.l1 exR exE 1=some (Step.next 2):=by
   unfold Eq.l1;rw [Af (by simp),show at? [exR,exE] 1=some exE from rfl,Aa,secondPatch1_f,Aa,exE_ok,Ae (by decide)];rfl
  have e2:Eq.l1 exR exE 2=some (Step.done (Sum.inr ())):=by
   unfold Eq.l1;rw [Ae (by simp)]
  rw [C0 e0,C0 e1,B5 e2,Aa];simp only;unfold Eq.j1;have la:=ha.len;have lb:=hb.len;rw [copyChange_f (by omega) ha.sm,Aa,copyChange_f (by omega) hb.sm,Aa,independent_f ha.size hb.size,Aa,hi,Ae Ah,and3K,A5,Ae (by decide),and3K,A5,Af ⟨rfl,rfl,rfl⟩,edit_f,Aa]
 have r2:=refl_ok ha;have r1:Kn (edF ⟨#[98]⟩ ⟨[⟨0,[],[⟨#[120]⟩]⟩]⟩) ⟨4,⟨#[98]⟩,ByteArray.empty,[],⟨[⟨0,[],[⟨#[120]⟩]⟩]⟩⟩=some true:=refl_ok hc;unfold Ma;rw [h,Aa];simp only;rw [r1,r2];rfl
end Go.Dc
