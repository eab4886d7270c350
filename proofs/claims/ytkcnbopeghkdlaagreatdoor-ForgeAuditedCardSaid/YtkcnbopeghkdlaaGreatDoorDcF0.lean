import Derived.Test.YtkcnbopeghkdlaaGreatDoorDcPS
import Derived.Test.YtkcnbopeghkdlaaGreatDoorDcM
import Derived.Test.YtkcnbopeghkdlaaGreatDoorDcRS
import Derived.Lib.IndexAny
set_option linter.unusedSimpArgs false
set_option linter.unusedVariables false
set_option maxRecDepth 4000
namespace Go.Dc
open Go
def lcs:Ag→Ag→Nat
 | [],_=>0
 | _::_,[]=>0
 | x::a,y::b=>if x=y then lcs a b+1 else max (lcs a (y::b)) (lcs (x::a) b)
 termination_by a b=>a.length+b.length
def Of:Ag→Ag→List Int
 | [],[]=>[]
 | [],_::b=>2::Of [] b
 | _::a,[]=>1::Of a []
 | x::a,y::b=>if x=y then 0::Of a b else if lcs a (y::b) ≥ lcs (x::a) b then 1::Of a (y::b) else 2::Of (x::a) b
 termination_by a b=>a.length+b.length
theorem lcs_nil_r (a:Ag):lcs a []=0:=by cases a <;> simp [lcs]
theorem lcs_cons (x y:ByteArray) (a b:Ag):lcs (x::a) (y::b)=if x=y then lcs a b+1 else max (lcs a (y::b)) (lcs (x::a) b):=by rw [lcs]
theorem lcs_le:∀ (a b:Ag),lcs a b≤a.length∧lcs a b≤b.length
 | [],b=>by simp [lcs]
 | _::_,[]=>by simp [lcs]
 | x::a,y::b=>by
  rw [lcs_cons];have h1:=lcs_le a b;have h2:=lcs_le a (y::b);have h3:=lcs_le (x::a) b;simp only [Dl] at *;split <;> omega
 termination_by a b=>a.length+b.length
theorem place_inj {w p q i j:Nat} (hq:q < w) (hj:j < w) (h:p * w+q=i * w+j):p=i∧q=j:=by
 have h1:(p * w+q) / w=p:=by rw [Nat.mul_comm,Nat.mul_add_div (by omega)];simp [Nat.div_eq_of_lt hq]
 have h2:(i * w+j) / w=i:=by rw [Nat.mul_comm,Nat.mul_add_div (by omega)];simp [Nat.div_eq_of_lt hj]
 have:p=i:=by rw [← h1,← h2,h]
 subst this;exact ⟨rfl,by omega⟩
theorem place_lt {w p q n:Nat} (hq:q < w) (hp:p≤n):p * w+q < (n+1) * w:=by
 have:p * w≤n * w:=A3 _ hp;rw [B4,Nat.one_mul];omega
def Tab (a b:Ag) (T:List Int) (K:Nat→Nat→Prop):Prop :=
 T.length=(a.length+1) * (b.length+1)∧∀ p q,p≤a.length→q≤b.length→(K p q∨p=a.length∨q=b.length)→T[p * (b.length+1)+q]? = some (lcs (a.drop p) (b.drop q):Int)
section
variable {a b : Ag} (hs : (a.length + 1) * (b.length + 1) * 8 ≤ 140737488355328) include hs
theorem small_w:a.length+1≤140737488355328∧b.length+1≤140737488355328∧(a.length+1) * (b.length+1)≤140737488355328:=by
 have h1:a.length+1≤(a.length+1) * (b.length+1):=Nat.le_mul_of_pos_right _ (by omega)
 have h2:b.length+1≤(a.length+1) * (b.length+1):=Nat.le_mul_of_pos_left _ (by omega)
 omega
theorem at_place {T:List Int} {K:Nat→Nat→Prop} (h:Tab a b T K) {p q:Nat} (hp:p≤a.length) (hq:q≤b.length) (hk:K p q∨p=a.length∨q=b.length) :
  M1 p q T (b.length+1:Nat)=some (lcs (a.drop p) (b.drop q):Int):=by
 obtain ⟨s1,s2,s3⟩:=small_w hs;have hlt:=place_lt (w:=b.length+1) (q:=q) (n:=a.length) (by omega) hp
 have e:((p:Int) * ((b.length+1:Nat):Int))=((p * (b.length+1):Nat):Int):=by rw [Int.natCast_mul]
 unfold M1;rw [e,C9 (by omega) (by omega)]
 simp only [Aa];rw [show ((p * (b.length+1):Nat):Int)+(q:Int)=((p * (b.length+1)+q:Nat):Int) from by omega,C9 (by omega) (by omega)]
 simp only [Aa];have:=h.2 p q hp hq hk;have hl:p * (b.length+1)+q < T.length:=by rw [h.1];exact hlt
 rw [Ds hl];rw [Bb hl] at this;simpa using this
set_option linter.unusedVariables false in omit hs in
theorem tab_set {T:List Int} {K:Nat→Nat→Prop} (h:Tab a b T K) {i j:Nat} (hi:i < a.length) (hj:j < b.length) {x:Int} (hx:x=lcs (a.drop i) (b.drop j)) :
  Tab a b (T.set (i * (b.length+1)+j) x) (fun p q=>K p q∨(p=i∧q=j)):=by
 refine ⟨by rw [Qx];exact h.1,fun p q hp hq hk=>?_⟩
 by_cases he:p=i∧q=j
 ·obtain ⟨rfl,rfl⟩:=he;have hlt:=place_lt (w:=b.length+1) (q:=q) (n:=a.length) (by omega) hp
  rw [List.getElem?_set_self (by rw [h.1];exact hlt),hx]
 ·have hne:i * (b.length+1)+j≠p * (b.length+1)+q:=by
   intro e;obtain ⟨h1,h2⟩:=place_inj (by omega) (by omega) e
   exact he ⟨h1.symm,h2.symm⟩
  rw [List.getElem?_set_ne hne];refine h.2 p q hp hq ?_;rcases hk with (hk | hk) | hk
  ·exact .inl hk
  ·exact absurd hk he
  ·exact .inr hk
set_option linter.unusedVariables false in omit hs in
theorem Qg {l:Ag} {i:Nat} (h:i < l.length):l.drop i=l[i]::l.drop (i+1):=E3 h
theorem row_eq {i:Nat} (hi:i < a.length) {T:List Int} (h:Tab a b T (fun p _=>i < p)) :
  ∃ T',Gk (fun s=>Dp.l3 a b (b.length+1:Nat) i s.1 s.2) ((b.length:Int) - 1,T)=some T'∧Tab a b T' (fun p _=>i≤p):=by
 obtain ⟨s1,s2,s3⟩:=small_w hs;refine T7 (fun s=>∃ k:Nat,k≤b.length∧s.1=(k:Int) - 1∧Tab a b s.2 (fun p q=>i < p∨(p=i∧k≤q))) (fun s=>(s.1+1).toNat) _ ?_ _ ⟨b.length,C8 _,rfl,?_⟩
 ·rintro ⟨x,T⟩ ⟨k,hk,hx,hT⟩;simp only at hx;subst hx;unfold Dp.l3;rw [A2];cases k with
  | zero =>
   rw [Ae (by omega)]
   refine .inr ⟨T,rfl,hT.1,fun p q hp hq hk=>hT.2 p q hp hq ?_⟩;rcases hk with hk | hk
   ·rcases N8 hk with h | h
    ·exact .inl (.inl h)
    ·exact .inl (.inr ⟨h.symm,Dh _⟩)
   ·exact .inr hk
  | succ k =>
   have hkb:k < b.length:=hk;rw [Af (by omega)]
   rw [show ((k+1:Nat):Int) - 1=(k:Int) from by omega]
   rw [C9 (by omega) (by omega)]
   simp only [Aa];rw [show ((i:Int)+1)=((i+1:Nat):Int) from by omega,at_place hs hT (p:=i+1) (q:=k) (by omega) (by omega) (.inl (.inl (by omega)))]
   simp only [Aa];rw [C9 (by omega) (by omega)]
   simp only [Aa];rw [show ((k:Int)+1)=((k+1:Nat):Int) from by omega,at_place hs hT (p:=i) (q:=k+1) (by omega) (by omega) (.inl (.inr ⟨rfl,by omega⟩))]
   simp only [Aa];rw [Ds hi];simp only [Aa];rw [Ds hkb];simp only [Aa];have hlt:=place_lt (w:=b.length+1) (q:=k) (n:=a.length) (p:=i) (by omega) (by omega)
   have fin:∀ x:Int,x=lcs (a.drop i) (b.drop k)→∃ s',Dp.j5 (b.length+1:Nat) i k T x=some (.next s')∧(∃ k':Nat,k'≤b.length∧s'.1=(k':Int) - 1∧Tab a b s'.2 (fun p q=>i < p∨(p=i∧k'≤q)))∧(s'.1+1).toNat < (((k:Int))+1).toNat:=by
    intro x hx;have e:((i:Int) * ((b.length+1:Nat):Int))=((i * (b.length+1):Nat):Int):=by rw [Int.natCast_mul]
    unfold Dp.j5;rw [e,C9 (by omega) (by omega)]
    simp only [Aa];rw [show ((i * (b.length+1):Nat):Int)+(k:Int)=((i * (b.length+1)+k:Nat):Int) from by omega,C9 (by omega) (by omega)]
    simp only [Aa];rw [Ds (by rw [hT.1];exact hlt)]
    simp only [Aa];rw [C9 (by omega) (by omega)]
    simp only [Aa];refine ⟨_,rfl,⟨k,by omega,rfl,?_⟩,by simp only;omega⟩
    simp only [Bn];have:=tab_set hT hi hkb hx;refine ⟨this.1,fun p q hp hq hk=>this.2 p q hp hq ?_⟩;rcases hk with (hk | ⟨h1,h2⟩) | hk
    ·exact .inl (.inl (.inl hk))
    ·rcases N8 h2 with h | h
     ·exact .inl (.inl (.inr ⟨h1,h⟩))
     ·exact .inl (.inr ⟨h1,h.symm⟩)
    ·exact .inr hk
   left;rw [A2];by_cases heq:a[i]=b[k]
   ·rw [Af heq];rw [at_place hs hT (p:=i+1) (q:=k+1) (by omega) (by omega) (.inl (.inl (by omega)))]
    simp only [Aa];have hb:=(lcs_le (a.drop (i+1)) (b.drop (k+1))).1;rw [Bz] at hb;rw [C9 (by omega) (by omega)]
    simp only [Aa]
    obtain ⟨s',h1,h2,h3⟩:=fin (((lcs (a.drop (i+1)) (b.drop (k+1)):Nat):Int)+1) (by
     rw [Qg hi,Qg hkb,lcs_cons,Af heq];omega)
    exact ⟨s',h1,h2,h3⟩
   ·rw [Ae heq]
    obtain ⟨s',h1,h2,h3⟩:=fin (max ((lcs (a.drop (i+1)) (b.drop k):Nat):Int) ((lcs (a.drop i) (b.drop (k+1)):Nat):Int)) (by
     have e1:=Qg hi;have e2:=Qg hkb;rw [e1,e2,lcs_cons,Ae heq,← e1,← e2]
     omega)
    exact ⟨s',h1,h2,h3⟩
 ·refine ⟨h.1,fun p q hp hq hk=>h.2 p q hp hq ?_⟩;rcases hk with (hk | ⟨_,h2⟩) | hk
  ·exact .inl hk
  ·exact .inr (.inr (by omega))
  ·exact .inr hk
theorem table_eq:∃ T',Gk (fun s=>Dp.l2 a b (b.length+1:Nat) s.1 s.2) ((a.length:Int) - 1,List.replicate ((a.length+1) * (b.length+1)) 0)=some T'∧Tab a b T' (fun _ _=>True):=by
 obtain ⟨s1,s2,s3⟩:=small_w hs;refine T7 (fun s=>∃ k:Nat,k≤a.length∧s.1=(k:Int) - 1∧Tab a b s.2 (fun p _=>k≤p)) (fun s=>(s.1+1).toNat) _ ?_ _ ⟨a.length,C8 _,rfl,?_⟩
 ·rintro ⟨x,T⟩ ⟨k,hk,hx,hT⟩;simp only at hx;subst hx;unfold Dp.l2;rw [A2];cases k with
  | zero =>
   rw [Ae (by omega)]
   exact .inr ⟨T,rfl,hT.1,fun p q hp hq _=>hT.2 p q hp hq (.inl (Dh _))⟩
  | succ k =>
   rw [Af (by omega),show ((k+1:Nat):Int) - 1=(k:Int) from by omega,C9 (by omega) (by omega)]
   simp only [Aa]
   obtain ⟨T',h1,h2⟩:=row_eq hs (i:=k) (by omega) (T:=T) ⟨hT.1,fun p q hp hq hk=>hT.2 p q hp hq (by
    rcases hk with hk | hk
    ·exact .inl hk
    ·exact .inr hk)⟩
   rw [h1];simp only [Aa];unfold Dp.j4 Dp.j3;rw [C9 (by omega) (by omega)]
   simp only [Aa];exact .inl ⟨_,rfl,⟨k,by omega,rfl,h2⟩,by simp only;omega⟩
 ·refine ⟨by simp,fun p q hp hq hk=>?_⟩
  have hlt:=place_lt (w:=b.length+1) (q:=q) (n:=a.length) (p:=p) (by omega) hp
  have hz:lcs (a.drop p) (b.drop q)=0:=by
   rcases hk with hk | hk | hk
   ·have:p=a.length:=by omega
    subst this;simp [lcs]
   ·subst hk;simp [lcs]
   ·subst hk;simp [lcs_nil_r]
  rw [hz,List.getElem?_replicate,Af hlt];rfl
theorem sum_small:(a.length+b.length) * 8≤140737488355328:=by
 have:a.length+b.length+1≤(a.length+1) * (b.length+1):=by
  rw [B4,Nat.mul_add,Nat.mul_one,Nat.one_mul];omega
 omega
theorem script_eq {T:List Int} (hT:Tab a b T (fun _ _=>True)):Gk (fun s=>Dp.l1 a b (b.length+1:Nat) T s.1 s.2.1 s.2.2) (0,0,[])=some (Of a b):=by
 obtain ⟨s1,s2,s3⟩:=small_w hs;have s4:=sum_small hs;refine iter_eq_of (σ:=Int×Int×List Int) (fun s=>∃ i j:Nat,i≤a.length∧j≤b.length∧s.1=(j:Int)∧s.2.1=(i:Int)∧s.2.2.length≤i+j∧s.2.2++Of (a.drop i) (b.drop j)=Of a b) (fun s=>(a.length+b.length) - (s.1.toNat+s.2.1.toNat)) _ ?_ _ ⟨0,0,Dh _,Dh _,rfl,rfl,by simp,by simp⟩
 rintro ⟨x,y,out⟩ ⟨i,j,hi,hj,hx,hy,hl,hout⟩;simp only at hx hy hl hout ⊢;subst hx;subst hy;unfold Dp.l1;simp only [A2];by_cases hend:i=a.length∧j=b.length
 ·obtain ⟨rfl,rfl⟩:=hend;right;rw [Ae (by omega)]
  simp only [Aa];rw [Ae (by simp)]
  simp only [List.drop_length] at hout;rw [← hout];simp [Of]
 ·left
  have hgo:(if (i:Int) < (a.length:Int) then some true else some (decide ((j:Int) < (b.length:Int))))=some true:=by
   by_cases h:i < a.length
   ·rw [Af (by omega)]
   ·rw [Ae (by omega),Aw (by omega)]
  rw [hgo];simp only [Aa,G0]
  have keepNext:∀ (x:Int) (i' j':Nat),i'≤a.length→j'≤b.length→i+j < i'+j'→out++([x]++Of (a.drop i') (b.drop j'))=Of a b →
    ((app? 8 out [x])=some (out++[x]))∧(∃ (i_ j_:Nat),i_≤a.length∧j_≤b.length∧((j':Nat):Int)=j_∧((i':Nat):Int)=i_∧(out++[x]).length≤i_+j_∧(out++[x])++Of (a.drop i_) (b.drop j_)=Of a b)∧(a.length+b.length) - (j'+i') < (a.length+b.length) - (j+i):=by
   intro x i' j' h1 h2 h3 h4;refine ⟨H6 (by simp only [Ar];omega),⟨i',j',h1,h2,rfl,rfl,by simp;omega,by rw [A6];exact h4⟩,by omega⟩
  by_cases hia:i < a.length
  ·by_cases hjb:j < b.length
   ·have hda:=Qg hia;have hdb:=Qg hjb
    have hboth:(if (i:Int) < (a.length:Int) then some (decide ((j:Int) < (b.length:Int))) else some false)=some true:=by
     rw [Af (by omega),Aw (by omega)]
    rw [hboth];simp only [Aa,G0];rw [Ds hia,Ds hjb];simp only [Aa,Cs];by_cases heq:a[i]=b[j]
    ·rw [Af heq]
     have h4:out++([0]++Of (a.drop (i+1)) (b.drop (j+1)))=Of a b:=by
      rw [← hout,hda,hdb]
      conv=>rhs;rw [Of]
      rw [Af heq];rfl
     obtain ⟨e1,e2,e3⟩:=keepNext 0 (i+1) (j+1) (by omega) (by omega) (by omega) h4
     rw [e1];simp only [Aa];rw [C9 (by omega) (by omega)]
     simp only [Aa];rw [C9 (by omega) (by omega)]
     simp only [Aa];exact ⟨_,rfl,e2,by simp only;omega⟩
    ·rw [Ae heq];have hjn:¬ ((j:Int)=(b.length:Int)):=by omega
     rw [Ae hjn,Af (by omega),C9 (by omega) (by omega)]
     simp only [Aa];rw [show ((i:Int)+1)=((i+1:Nat):Int) from by omega,at_place hs hT (p:=i+1) (q:=j) (by omega) (by omega) (.inl trivial)]
     simp only [Aa];rw [C9 (by omega) (by omega)]
     simp only [Aa];rw [show ((j:Int)+1)=((j+1:Nat):Int) from by omega,at_place hs hT (p:=i) (q:=j+1) (by omega) (by omega) (.inl trivial)]
     simp only [Aa,Cs];by_cases hge:((lcs (a.drop (i+1)) (b.drop j):Nat):Int) ≥ ((lcs (a.drop i) (b.drop (j+1)):Nat):Int)
     ·rw [Af hge]
      have h4:out++([1]++Of (a.drop (i+1)) (b.drop j))=Of a b:=by
       rw [← hout]
       conv=>rhs;rw [hda,hdb,Of]
       rw [Ae heq,← hda,← hdb,Af (by omega)];rfl
      obtain ⟨e1,e2,e3⟩:=keepNext 1 (i+1) j (by omega) (by omega) (by omega) h4
      rw [e1];simp only [Aa];exact ⟨_,rfl,e2,by simp only;omega⟩
     ·rw [Ae hge]
      have h4:out++([2]++Of (a.drop i) (b.drop (j+1)))=Of a b:=by
       rw [← hout]
       conv=>rhs;rw [hda,hdb,Of]
       rw [Ae heq,← hda,← hdb,Ae (by omega)];rfl
      obtain ⟨e1,e2,e3⟩:=keepNext 2 i (j+1) (by omega) (by omega) (by omega) h4
      rw [e1];simp only [Aa];exact ⟨_,rfl,e2,by simp only;omega⟩
   ·
    have hj':j=b.length:=by omega
    subst hj';have hda:=Qg hia
    have hboth:(if (i:Int) < (a.length:Int) then some (decide ((b.length:Int) < (b.length:Int))) else some false)=some false:=by
     rw [Af (by omega),Az (by omega)]
    rw [hboth];simp only [Aa,Bc,Cg,G0]
    have h4:out++([1]++Of (a.drop (i+1)) (b.drop b.length))=Of a b:=by
     rw [← hout,hda,List.drop_length]
     conv=>rhs;rw [Of]
     rfl
    obtain ⟨e1,e2,e3⟩:=keepNext 1 (i+1) b.length (by omega) (by omega) (by omega) h4
    rw [e1];simp only [Aa];rw [C9 (by omega) (by omega)]
    simp only [Aa];exact ⟨_,rfl,e2,by simp only;omega⟩
  ·have hi':i=a.length:=by omega
   subst hi';have hjb:j < b.length:=by omega
   have hdb:=Qg hjb
   have hboth:(if (a.length:Int) < (a.length:Int) then some (decide ((j:Int) < (b.length:Int))) else some false)=some false:=by
    rw [Ae (by omega)]
   rw [hboth];simp only [Aa,Bc,Cg];rw [Ae (show ¬ ((j:Int)=(b.length:Int)) by omega),Ae (show ¬ ((a.length:Int) < (a.length:Int)) by omega)]
   simp only [Aa,Bc,Cg]
   have h4:out++([2]++Of (a.drop a.length) (b.drop (j+1)))=Of a b:=by
    rw [← hout,hdb,List.drop_length]
    conv=>rhs;rw [Of]
    rfl
   obtain ⟨e1,e2,e3⟩:=keepNext 2 a.length (j+1) (by omega) (by omega) (by omega) h4
   rw [e1];simp only [Aa];rw [C9 (by omega) (by omega)]
   simp only [Aa];exact ⟨_,rfl,e2,by simp only;omega⟩
theorem align_eq:Dp a b=some (Of a b):=by
 obtain ⟨s1,s2,s3⟩:=small_w hs;have c1:ckK .i64 ((b.length:Int)+1)=some (((b.length+1:Nat)):Int):=C9 (by omega) (by omega)
 have c2:ckK .i64 ((a.length:Int)+1)=some (((a.length+1:Nat)):Int):=C9 (by omega) (by omega)
 have c3:ckK .i64 ((((a.length+1:Nat)):Int) * (((b.length+1:Nat)):Int))=some (((a.length+1) * (b.length+1):Nat):Int):=by
  rw [← Int.natCast_mul];exact C9 (by omega) (by omega)
 have c4:mk? 8 ((((a.length+1) * (b.length+1):Nat)):Int) (0:Int)=some (List.replicate ((a.length+1) * (b.length+1)) 0):=by
  rw [mk_eq (Int.natCast_nonneg _) (by omega),Bn]
 have c5:ckK .i64 ((a.length:Int) - 1)=some ((a.length:Int) - 1):=C9 (by omega) (by omega)
 obtain ⟨T,h1,h2⟩:=table_eq hs;have h3:=script_eq hs h2;unfold Dp;rw [c1,Aa,c2,Aa,c3,Aa,c4,Aa,c5,Aa,h1,Aa];unfold Dp.j1 Dp.j2;rw [h3,Aa]
end
def OkLine (s:ByteArray):Prop:=s.size≤80∧idxB s 10 < 0
def Lr (l:Ag):Prop:=l.length≤120∧∀ s∈l,OkLine s
theorem not_okText {l:Ag} {k:Nat} (h:k < l.length) (hs:¬ OkLine l[k]):¬ Lr l:=fun ⟨_,hl⟩=>hs (hl _ (A5 h))
theorem validate_eq (l:Ag):∃ f,Ez l=some f∧((f=⟨0,0⟩∧Lr l)∨(f.Code≠0∧¬ Lr l)):=by
 unfold Ez;rw [A2];by_cases h120:(l.length:Int) > 120
 ·rw [Af h120];exact ⟨_,rfl,.inr ⟨by simp,fun h=>by have:=h.1;omega⟩⟩
 ·rw [Ae h120]
  obtain ⟨r,h1,h2⟩:=T7 (m:=fun s=>Ez.l1 l s) (fun s=>∃ k:Nat,s=(k:Int)∧k≤l.length∧∀ q (hq:q < l.length),q < k→OkLine l[q]) (fun s=>l.length - s.toNat)
   (fun r=>(r=.inr ()∧Lr l)∨∃ f,r=.inl f∧f.Code≠0∧¬ Lr l) (by
    rintro s ⟨k,rfl,hk,hall⟩;unfold Ez.l1;rw [A2];by_cases hlt:k < l.length
    ·rw [Af (by omega),Ds hlt,Aa,A2]
     by_cases h80:(l[k].size:Int) > 80
     ·rw [Af h80];exact .inr ⟨_,rfl,.inr ⟨_,rfl,by simp,not_okText hlt (fun h=>by have:=h.1;omega)⟩⟩
     ·rw [Ae h80];unfold Om Lp;simp only [Aa,A2];by_cases h10:idxB l[k] 10 ≥ 0
      ·rw [Af h10];exact .inr ⟨_,rfl,.inr ⟨_,rfl,by simp,not_okText hlt (fun h=>by have:=h.2;omega)⟩⟩
      ·rw [Ae h10,C9 (by omega) (by omega),Aa]
       refine .inl ⟨_,rfl,⟨k+1,by omega,hlt,fun q hq hqk=>?_⟩,by omega⟩
       by_cases he:q=k
       ·subst he;exact ⟨by omega,by omega⟩
       ·exact hall q hq (by omega)
    ·rw [Ae (by omega)]
     refine .inr ⟨_,rfl,.inl ⟨rfl,by omega,fun s hs=>?_⟩⟩
     obtain ⟨q,hq,rfl⟩:=Cd hs;exact hall q hq (by omega)) 0 ⟨0,rfl,Dh _,fun q hq h=>absurd h (by omega)⟩
  rw [h1,Aa];rcases h2 with ⟨rfl,h⟩ | ⟨f,rfl,h,h'⟩
  ·exact ⟨_,rfl,.inl ⟨rfl,h⟩⟩
  ·exact ⟨_,rfl,.inr ⟨h,h'⟩⟩
theorem Qd {f:Fault}:(!(decide (f.Code=0) && decide (f.Index=0)))=true↔¬ (f.Code=0∧f.Index=0):=by
 by_cases h:f.Code=0 <;> by_cases h':f.Index=0 <;> simp [h,h']
theorem Zm (a b:Ag) (hb:a.length≤1000000):Dg a b=some (decide (a=b)):=by
 unfold Dg;rw [Q8];by_cases hl:(a.length:Int)=(b.length:Int)
 ·rw [Af hl];have hl':a.length=b.length:=by omega
  obtain ⟨r,h1,h2⟩:=T7 (m:=fun s=>Dg.l1 a b s) (fun s=>∃ k:Nat,s=(k:Int)∧k≤a.length∧a.take k=b.take k) (fun s=>a.length - s.toNat)
   (fun r=>(r=.inr ()∧a=b)∨(r=.inl false∧a≠b)) (by
    rintro s ⟨k,rfl,hk,hall⟩;unfold Dg.l1;rw [A2];by_cases hlt:k < a.length
    ·rw [Af (by omega),Ds hlt,Aa,Ds (by omega),Aa,Q8]
     by_cases he:a[k]=b[k]
     ·rw [Af he,C9 (by omega) (by omega),Aa]
      exact .inl ⟨_,rfl,⟨k+1,by omega,hlt,by rw [Bi hlt,Bi (by omega),hall,he]⟩,by omega⟩
     ·rw [Ae he];exact .inr ⟨_,rfl,.inr ⟨rfl,fun h=>he (by subst h;rfl)⟩⟩
    ·rw [Ae (by omega)]
     refine .inr ⟨_,rfl,.inl ⟨rfl,?_⟩⟩;rw [C5 (by omega),C5 (by omega)] at hall
     exact hall) 0 ⟨0,rfl,Dh _,by simp⟩
  rw [h1,Aa];rcases h2 with ⟨rfl,h⟩ | ⟨rfl,h⟩
  ·rw [Aw h];rfl
  ·rw [Az h]
 ·rw [Ae hl,Az (fun h=>hl (by rw [h]))]
def orL {α:Type}:Option α→α ⊕ Unit
 | some x=>.inl x
 | Option.none=>.inr ()
theorem N7 {α:Type} {l r:List α} {x:α} {k:Nat} (h:l.drop k=x::r):∃ hk:k < l.length,l[k]=x∧l.drop (k+1)=r:=by
 have hk:k < l.length:=by
  rcases Es k l.length with h' | h'
  ·exact h'
  ·rw [Oe h'] at h;cases h
 rw [E3 hk] at h;exact ⟨hk,(List.cons.inj h).1,(List.cons.inj h).2⟩
theorem Ni {α:Type} {l:List α} {k:Nat} (h:l.drop k=[]):l.length≤k:=by simpa using h
def hasNL (s:ByteArray):Bool:=s.data.toList.contains 10
theorem idxB_nl (s:ByteArray):decide (idxB s 10 ≥ 0)=hasNL s:=by
 unfold hasNL idxB;rw [Lib.contains_iff_indexByte];rfl
def tscan:Int→Ag→Option Fault
 | _,[]=>Option.none
 | i,s::r=>if s.size > 80 then some ⟨2,i⟩ else if hasNL s then some ⟨5,i⟩ else tscan (i+1) r
def Cl (l:Ag):Fault:=if l.length > 120 then ⟨2,-1⟩ else (tscan 0 l).getD ⟨0,0⟩
theorem V8 (l:Ag):Ez l=some (Cl l):=by
 unfold Ez Cl;rw [A2];by_cases h120:l.length > 120
 ·rw [Af (by omega),Af h120]
 ·rw [Ae (by omega),Ae h120]
  have key:∀ (rest:Ag) (k:Nat),l.drop k=rest→Gk (fun s=>Ez.l1 l s) (k:Int)=some (orL (tscan k rest)):=by
   intro rest
   induction rest with
   | nil =>
    intro k hk;have:=Ni hk;refine C4 ?_;unfold Ez.l1;rw [A2,Ae (by omega)];rfl
   | cons s r ih =>
    intro k hk;obtain ⟨hlt,hs,hr⟩:=N7 hk
    have e1:Ez.l1 l (k:Int)=if s.size > 80 then some (Step.done (.inl ⟨2,(k:Int)⟩)) else if hasNL s then some (Step.done (.inl ⟨5,(k:Int)⟩)) else some (Step.next ((k:Int)+1)):=by
     unfold Ez.l1 Om Lp;simp (disch:=omega) only [Ds hlt,hs,Aa,C9,Af,← idxB_nl,Cs];by_cases h:s.size > 80
     ·rw [Af (by omega),Af h]
     ·rw [Ae (by omega),Ae h]
    rw [tscan];by_cases h80:s.size > 80
    ·rw [Af h80] at e1 ⊢;exact C4 e1
    ·rw [Ae h80] at e1 ⊢;cases hn:hasNL s with
     | true=>rw [hn,Af rfl] at e1;exact C4 e1
     | false =>
      rw [hn,Ae (by decide)] at e1
      have:=ih (k+1) hr;rw [C7 e1];exact this
  have:=key l 0 rfl;simp only [Int.natCast_zero] at this;rw [show (0:Int)=((0:Nat):Int) from rfl] at *;rw [key l 0 rfl,Aa];cases tscan ((0:Nat):Int) l <;> rfl
theorem sAt_nat {s:ByteArray} {k:Nat} (h:k < s.size):sAt? s (k:Int)=some ((s[k].toNat:Nat):Int):=by
 unfold sAt?;rw [Af (by omega)]
 simp [h]
theorem tscan_code:∀ (l:Ag) (i:Int) (f:Fault),tscan i l=some f→f.Code≠0
 | [],_,_,h=>by cases h
 | s::r,i,f,h=>by
  rw [tscan] at h;split at h
  ·cases h;show (2:Int)≠0;decide
  ·split at h
   ·cases h;show (5:Int)≠0;decide
   ·exact tscan_code r _ f h
theorem Qr (l:Ag):Cl l=⟨0,0⟩∨(Cl l).Code≠0:=by
 unfold Cl;split
 ·right;decide
 ·cases h:tscan 0 l with
  | none=>left;rfl
  | some f=>right;exact tscan_code l 0 f h
theorem Gq (l:Ag):Cl l=⟨0,0⟩↔(Cl l).Code=0:=by
 rcases Qr l with h | h
 ·rw [h];exact ⟨fun _=>rfl,fun _=>rfl⟩
 ·constructor
  ·intro h2;rw [h2]
  ·intro h2;exact absurd h2 h
theorem Ko (l:Ag):Lr l↔Cl l=⟨0,0⟩:=by
 obtain ⟨f,h1,h2⟩:=validate_eq l;rw [V8] at h1;cases h1;rcases h2 with ⟨h3,h4⟩ | ⟨h3,h4⟩
 ·exact ⟨fun _=>h3,fun _=>h4⟩
 ·exact ⟨fun h=>absurd h h4,fun h=>absurd (by rw [h]) h3⟩
theorem second_f (l:Ag) (i:Int):M0 l i=some (if (Cl l).Code=0 then ⟨0,0⟩ else ⟨(Cl l).Code,i⟩):=by
 unfold M0;rw [V8,Aa];rcases Qr l with h | h
 ·rw [h];rfl
 ·rw [Af (Qd.2 fun h2=>h h2.1),Ae h]
theorem okText_small {a b:Ag} (ha:Lr a) (hb:Lr b):(a.length+1) * (b.length+1) * 8≤140737488355328:=by
 have h1:a.length+1≤121:=by have:=ha.1;omega
 have h2:b.length+1≤121:=by have:=hb.1;omega
 have:=Nat.mul_le_mul h1 h2;omega
theorem orB (b c:Bool):(if b=true then some true else some c)=some (b || c):=by cases b <;> rfl
theorem andB (b c:Bool):(if b=true then some c else some false)=some (b && c):=by cases b <;> rfl
def bts (s:ByteArray):List UInt8:=s.data.toList
def str (l:List UInt8):ByteArray:=⟨l.toArray⟩
theorem bts_len (s:ByteArray):(bts s).length=s.size:=rfl
@[simp] theorem bts_str (l : List UInt8) : bts (str l) = l := by simp [bts, str]
@[simp] theorem str_bts (s : ByteArray) : str (bts s) = s := by cases s; simp [bts, str]
@[simp] theorem Q7 (l : List UInt8) : (str l).size = l.length := by rw [← bts_len, bts_str]
theorem str_inj {a b:List UInt8} (h:str a=str b):a=b:=by rw [← bts_str a,h,bts_str]
theorem str_dec (a b:List UInt8):decide (str a=str b)=decide (a=b):=C1.2 ⟨str_inj,fun h=>by rw [h]⟩
theorem bts_inj {a b:ByteArray} (h:bts a=bts b):a=b:=by rw [← str_bts a,h,str_bts]
theorem sAt_str {l:List UInt8} {k:Nat} (h:k < l.length):sAt? (str l) (k:Int)=some ((l[k].toNat:Nat):Int):=by
 have hk:k < (str l).size:=by rw [Q7];exact h
 have:(str l)[k]=l[k]:=by simp [str];rfl
 rw [sAt_nat hk,this];rfl
theorem scut_str {l:List UInt8} {i j:Nat} (h1:i≤j) (h2:j≤l.length):scut? (str l) (i:Int) (j:Int)=some (str ((l.take j).drop i)):=by
 unfold scut?;rw [Af (by rw [Q7];omega)]
 congr 1;refine ByteArray.ext ?_;rw [ByteArray.data_extract];refine Array.toList_inj.1 ?_;rw [Array.toList_extract];simp [List.extract_eq_take_drop,str,List.drop_take]
def letB (c:UInt8):Bool:=(decide (97≤c.toNat) && decide (c.toNat≤122)) || (decide (65≤c.toNat) && decide (c.toNat≤90)) || (decide (48≤c.toNat) && decide (c.toNat≤57)) || decide (c.toNat=46) || decide (c.toNat=95) || decide (c.toNat=45)
theorem letter_f (c:UInt8):Mx ((c.toNat:Nat):Int)=some (letB c):=by
 unfold Mx letB;generalize c.toNat=n;simp only [orB,andB,Aa]
 rw [show decide ((n:Int) ≥ 97)=decide (97≤n) from C1.2 (by omega),show decide ((n:Int)≤122)=decide (n≤122) from C1.2 (by omega),
  show decide ((n:Int) ≥ 65)=decide (65≤n) from C1.2 (by omega),show decide ((n:Int)≤90)=decide (n≤90) from C1.2 (by omega),
  show decide ((n:Int) ≥ 48)=decide (48≤n) from C1.2 (by omega),show decide ((n:Int)≤57)=decide (n≤57) from C1.2 (by omega),
  show decide ((n:Int)=46)=decide (n=46) from C1.2 (by omega),show decide ((n:Int)=95)=decide (n=95) from C1.2 (by omega),
  show decide ((n:Int)=45)=decide (n=45) from C1.2 (by omega)]
def badP (p:List UInt8):Bool:=decide (p=[]) || decide (p=[46]) || decide (p=[46,46])
def okPart (p:List UInt8):Bool:=!badP p && p.all letB
def vp:List UInt8→List UInt8→Bool
 | cur,[]=>okPart cur
 | cur,c::r=>if c=47 then okPart cur && vp [] r else vp (cur++[c]) r
def K3 (s:ByteArray):Bool:=decide (s.size≤60) && vp [] (bts s)
theorem vp_span:∀ (l cur:List UInt8),vp cur l=match l.dropWhile (· != 47) with
  | []=>okPart (cur++l.takeWhile (· != 47))
  | _::r=>okPart (cur++l.takeWhile (· != 47)) && vp [] r
 | [],cur=>by simp [vp]
 | c::r,cur=>by
  rw [vp];by_cases h:c=47
  ·subst h;rw [Af rfl];simp [List.dropWhile_cons,List.takeWhile_cons]
  ·rw [Ae h,vp_span r (cur++[c])];have:(c != 47)=true:=by simpa using h
   rw [List.dropWhile_cons,List.takeWhile_cons,this,Af rfl,Af rfl,A6,List.singleton_append]
theorem letters_f {f:Int→Option (Step Int (Unit ⊕ Unit))} {l:List UInt8} (hl:l.length≤1000)
  (hf:∀ x,f x=if decide (x < ((str l).size:Int))=true then (sAt? (str l) x).bind fun y1=>(Mx y1).bind fun y2=>if (!y2)=true then some (Step.done (Sum.inl ())) else (ckK .i64 (x+1)).bind fun z1=>some (Step.next z1) else some (Step.done (Sum.inr ()))) :
  Gk (fun s=>f s) 0=some (if l.all letB=true then .inr () else .inl ()):=by
 have key:∀ (r:List UInt8) (k:Nat),l.drop k=r→Gk (fun s=>f s) (k:Int)=some (if r.all letB=true then .inr () else .inl ()):=by
  intro r
  induction r with
  | nil =>
   intro k hk;have:=Ni hk;refine C4 ?_;rw [hf,A2,Ae (by rw [Q7];omega)];rfl
  | cons c r ih =>
   intro k hk;obtain ⟨hlt,hc,hr⟩:=N7 hk
   have e:f (k:Int)=if letB c=true then some (Step.next ((k:Int)+1)) else some (Step.done (.inl ())):=by
    rw [hf,A2,Af (by rw [Q7];omega),sAt_str hlt,Aa,hc,letter_f,Aa]
    cases letB c
    ·rfl
    ·rw [Ae (by decide),C9 (by omega) (by omega)];rfl
   cases h:letB c with
   | false =>
    rw [h,Ae (by decide)] at e
    rw [C4 e];simp [h]
   | true =>
    rw [h,Af rfl] at e;rw [C7 e,show ((k:Int)+1)=((k+1:Nat):Int) from rfl,ih (k+1) hr];simp [h]
 exact key l 0 rfl
theorem bad_f (p:List UInt8):((if decide (str p=(⟨#[]⟩:ByteArray)) then some true else some (decide (str p=(⟨#[46]⟩:ByteArray)))).bind fun x2 =>
  (if x2 then some true else some (decide (str p=(⟨#[46,46]⟩:ByteArray)))))=some (badP p):=by
 rw [show (⟨#[]⟩:ByteArray)=str [] from rfl,show (⟨#[46]⟩:ByteArray)=str [46] from rfl,show (⟨#[46,46]⟩:ByteArray)=str [46,46] from rfl];simp only [orB,Aa,str_dec];rfl
theorem badK_f (p:List UInt8) {β:Type} (K:Bool→Option β):((if decide (str p=(⟨#[]⟩:ByteArray)) then some true else some (decide (str p=(⟨#[46]⟩:ByteArray)))).bind fun x2 =>
  (if x2 then some true else some (decide (str p=(⟨#[46,46]⟩:ByteArray)))).bind K)=K (badP p):=by
 have:=bad_f p;rw [← Option.bind_assoc,this,Aa]
theorem vj1_f {p:List UInt8} (hp:p.length≤1000):A8.j1 (str p)=some (okPart p):=by
 unfold A8.j1;rw [badK_f];cases h:badP p with
 | true=>simp [okPart,h,A8.j2]
 | false =>
  rw [Ae (by decide),letters_f (f:=fun x=>A8.l1 (str p) x) hp (fun x=>rfl),Aa]
  unfold okPart;rw [h];cases p.all letB <;> rfl
theorem idx_f (l:List UInt8):Lib.indexByte l 47=match l.dropWhile (· != 47) with
  | []=>-1
  | _::_=>((l.takeWhile (· != 47)).length:Int):=by
 induction l with
 | nil=>rfl
 | cons c r ih =>
  unfold Lib.indexByte;by_cases h:c=47
  ·subst h;simp [List.dropWhile_cons,List.takeWhile_cons]
  ·have h2:(c != 47)=true:=by simpa using h
   rw [List.dropWhile_cons,List.takeWhile_cons,h2,Af rfl,Af rfl];have h3:(c == 47)=false:=by simpa using h
   rw [ih];cases hd:r.dropWhile (· != 47) with
   | nil=>simp [h3,h]
   | cons a b=>simp [h3,h] <;> omega
theorem index_f (l:List UInt8):Uj (str l)=some (Lib.indexByte l 47):=by
 unfold Uj Tk;rw [A2];by_cases h:(⟨#[47]⟩:ByteArray)=str l
 ·rw [Af h];have:l=[47]:=(str_inj (a:=[47]) (b:=l) h).symm;subst this;rfl
 ·rw [Ae h];show (some (idxB (str l) 47)).bind _=_;unfold idxB;rw [show (str l).data.toList=l from bts_str l];rfl
noncomputable def outV:Bool ⊕ ByteArray→Option Bool:=fun r=>match r with
 | .inl p=>some p
 | .inr p=>A8.j1 p
theorem vp_iter:∀ (n:Nat) (l:List UInt8),l.length < n→l.length≤60→(Gk (fun s=>A8.l2 s) (str l)).bind outV=some (vp [] l)
 | 0,_,h,_=>absurd h (by omega)
 | n+1,l,hn,hl=>by
  have hi:=idx_f l;have hs:=vp_span l [];have htd:l.takeWhile (· != 47)++l.dropWhile (· != 47)=l:=List.takeWhile_append_dropWhile;have e:A8.l2 (str l)=A8.l2 (str l):=rfl
  conv at e=>rhs;unfold A8.l2
  rw [index_f,Aa] at e;simp only [Cw] at hs;generalize ha:l.takeWhile (· != 47)=a at hi hs htd;cases hd:l.dropWhile (· != 47) with
  | nil =>
   rw [hd] at hi hs htd;simp only at hi hs;simp only [Ba] at htd;rw [hi,Af (by decide)] at e
   rw [C4 e,Aa,hs];rw [htd];exact vj1_f (by omega)
  | cons c r =>
   rw [hd] at hi hs htd
   have hc:c=47:=by
    have:=List.head?_dropWhile_not (fun x:UInt8=>x != 47) l;rw [hd] at this;simpa using this
   subst hc;simp only at hi hs;have hlen:a.length+r.length+1=l.length:=by rw [← htd];simp;omega
   have hcut:scut? (str l) 0 (a.length:Int)=some (str a):=by
    have:=scut_str (l:=l) (i:=0) (j:=a.length) (by omega) (by omega)
    rw [show ((0:Nat):Int)=0 from rfl] at this;rw [this,← htd];simp
   rw [hi,A2,Ae (by omega),Int.add_zero,C9 (by omega) (by omega),Aa,hcut,Aa,badK_f] at e
   unfold okPart at hs;cases hb:badP a with
   | true =>
    rw [hb] at e hs;rw [Af rfl] at e;rw [C4 (show _=some (Step.done (Sum.inl false)) from e),hs];rfl
   | false =>
    rw [hb] at e hs;rw [Ae (by decide),letters_f (f:=fun x=>A8.l3 (str a) x) (by omega) (fun x=>rfl),Aa] at e
    cases hq:a.all letB with
    | false =>
     rw [hq] at e hs;rw [C4 (show _=some (Step.done (Sum.inl false)) from e),hs];rfl
    | true =>
     rw [hq] at e hs
     have hcut2:scut? (str l) ((a.length:Int)+1) ((str l).size:Int)=some (str r):=by
      have:=scut_str (l:=l) (i:=a.length+1) (j:=l.length) (by omega) (by omega)
      rw [Q7];rw [show (((a.length+1:Nat)):Int)=(a.length:Int)+1 from rfl] at this;rw [this,C2,← htd];simp
     simp only [Af rfl,A8.j7,A8.j6] at e;rw [C9 (by omega) (by omega),Aa,hcut2,Aa] at e
     rw [C7 e,vp_iter n r (by omega) (by omega),hs];rfl
theorem ValidPath_f (s:ByteArray):A8 s=some (K3 s):=by
 unfold A8 K3;rw [A2];by_cases h:s.size≤60
 ·rw [Ae (by omega)]
  have:=vp_iter ((bts s).length+1) (bts s) (by omega) (by rw [bts_len];exact h)
  rw [str_bts] at this;rw [Aw h,Bool.true_and];exact this
 ·rw [Af (by omega),Az h];rfl
theorem N1 {s:ByteArray} (h:K3 s=true):s.size≤60:=by
 unfold K3 at h;simp only [Gb,Cs] at h;exact h.1
def slb (x y:List UInt8):Bool:=decide (y.take (x.length+1)=x++[47])
def T8 (a b:ByteArray):Bool:=decide (a=b) || slb (bts b) (bts a) || slb (bts a) (bts b)
theorem relB_comm (a b:ByteArray):T8 a b=T8 b a:=by
 unfold T8;rw [show decide (a=b)=decide (b=a) from C1.2 eq_comm,Bool.or_assoc,Bool.or_assoc,Bool.or_comm (slb (bts b) (bts a))]
theorem relB_self (a:ByteArray):T8 a a=true:=by simp [T8]
theorem hasPrefix_f (s p:List UInt8):Na (str s) (str p)=some (decide (s.take p.length=p)):=by
 unfold Na Oa;rw [A2];by_cases h:p.length≤s.length
 ·have hc:=scut_str (l:=s) (i:=0) (j:=p.length) (by omega) h
  rw [show ((0:Nat):Int)=0 from rfl,List.drop_zero] at hc;rw [Af (by rw [Q7,Q7];omega),Q7,hc]
  simp only [Aa,str_dec]
 ·rw [Ae (by rw [Q7,Q7];omega)]
  have:¬ s.take p.length=p:=fun e=>by
   have:=congrArg List.length e;simp at this;omega
  rw [Az this];rfl
theorem cat_str {a b:List UInt8} (h:a.length+b.length≤9223372036854775807):cat? (str a) (str b)=some (str (a++b)):=by
 unfold cat?;rw [Af (by rw [Q7,Q7];exact h)]
 refine congrArg some (bts_inj ?_);rw [bts_str];show (str a++str b).data.toList=a++b;rw [ByteArray.data_append];simp [str]
theorem Related_f {a b:ByteArray} (ha:a.size≤1000000) (hb:b.size≤1000000):Ln a b=some (T8 a b):=by
 have h1:=cat_str (a:=bts b) (b:=[47]) (by rw [bts_len];simp;omega)
 have h2:=cat_str (a:=bts a) (b:=[47]) (by rw [bts_len];simp;omega)
 have g1:=hasPrefix_f (bts a) (bts b++[47]);have g2:=hasPrefix_f (bts b) (bts a++[47]);rw [str_bts] at h1 h2 g1 g2;unfold Ln;rw [show (⟨#[47]⟩:ByteArray)=str [47] from rfl,h1,h2];simp only [Aa];rw [g1,g2];simp only [Aa,orB];unfold T8 slb;simp
theorem bl_irr:∀ x:List UInt8,Op.bytesLess x x=false
 | []=>rfl
 | a::x=>by simp [Op.bytesLess,bl_irr x,UInt8.lt_irrefl]
theorem bl_tri:∀ x y:List UInt8,Op.bytesLess x y=true∨x=y∨Op.bytesLess y x=true
 | [],[]=>.inr (.inl rfl)
 | [],_::_=>.inl rfl
 | _::_,[]=>.inr (.inr rfl)
 | a::x,b::y=>by
  simp only [Op.bytesLess,Hw,Cs,Gb,beq_iff_eq]
  have h0:a=b∨a < b∨b < a:=by
   by_cases h:a=b
   ·exact .inl h
   ·exact .inr (UInt8.lt_or_lt_of_ne h)
  rcases h0 with h | h | h
  ·subst h;rcases bl_tri x y with h | h | h
   ·exact .inl (.inr ⟨rfl,h⟩)
   ·exact .inr (.inl (by rw [h]))
   ·exact .inr (.inr (.inr ⟨rfl,h⟩))
  ·exact .inl (.inl h)
  ·exact .inr (.inr (.inl h))
theorem bl_trans:∀ {x y z:List UInt8},Op.bytesLess x y=true→Op.bytesLess y z=true→Op.bytesLess x z=true
 | x,[],z,h1,h2=>by cases x <;> cases h1
 | x,b::y,[],h1,h2=>by cases h2
 | [],b::y,c::z,h1,h2=>rfl
 | a::x,b::y,c::z,h1,h2=>by
  simp only [Op.bytesLess,Hw,Cs,Gb,beq_iff_eq] at h1 h2 ⊢;rcases h1 with h1 | ⟨rfl,h1⟩
  ·rcases h2 with h2 | ⟨rfl,h2⟩
   ·exact .inl (UInt8.lt_trans h1 h2)
   ·exact .inl h1
  ·rcases h2 with h2 | ⟨rfl,h2⟩
   ·exact .inl h2
   ·exact .inr ⟨rfl,bl_trans h1 h2⟩
theorem cmp_neg:∀ x y:List UInt8,decide (Lib.compareBytes x y < 0)=Op.bytesLess x y
 | [],[]=>rfl
 | [],_::_=>rfl
 | _::_,[]=>rfl
 | a::x,b::y=>by
  unfold Lib.compareBytes Op.bytesLess;by_cases h:a < b
  ·simp [h]
  ·by_cases h2:b < a
   ·have:¬ a=b:=by intro e;subst e;exact h h2
    simp [h,h2,this]
   ·have:a=b:=UInt8.le_antisymm (UInt8.not_lt.1 h2) (UInt8.not_lt.1 h);subst this;simp only [h,Cg,decide_false,Qb,beq_self_eq_true,Bool.true_and];exact cmp_neg x y
theorem cmp_zero:∀ x y:List UInt8,(Lib.compareBytes x y=0)↔x=y
 | [],[]=>by simp [Lib.compareBytes]
 | [],_::_=>by simp [Lib.compareBytes]
 | _::_,[]=>by simp [Lib.compareBytes]
 | a::x,b::y=>by
  unfold Lib.compareBytes;by_cases h:a < b
  ·have:¬ a=b:=by intro e;subst e;exact UInt8.lt_irrefl _ h
   simp [h,this]
  ·by_cases h2:b < a
   ·have:¬ a=b:=by intro e;subst e;exact h h2
    simp [h,h2,this]
   ·have:a=b:=UInt8.le_antisymm (UInt8.not_lt.1 h2) (UInt8.not_lt.1 h);subst this;simp only [h,Cg,List.cons.injEq,true_and];exact cmp_zero x y
theorem sLt_bts (a b:ByteArray):sLt a b=Op.bytesLess (bts a) (bts b):=by
 unfold sLt;rw [Xw,Xw];rfl
theorem Us (a:ByteArray):sLt a a=false:=by rw [sLt_bts];exact bl_irr _
theorem sLt_tri (a b:ByteArray):sLt a b=true∨a=b∨sLt b a=true:=by
 rw [sLt_bts,sLt_bts];rcases bl_tri (bts a) (bts b) with h | h | h
 ·exact .inl h
 ·exact .inr (.inl (bts_inj h))
 ·exact .inr (.inr h)
theorem Xn {a b c:ByteArray} (h1:sLt a b=true) (h2:sLt b c=true):sLt a c=true:=by
 rw [sLt_bts] at *;exact bl_trans h1 h2
theorem T9 {a b:ByteArray} (h:sLt a b=true):sLt b a=false:=by
 cases h2:sLt b a
 ·rfl
 ·have:=Xn h h2;rw [Us] at this;cases this
theorem sLt_ne {a b:ByteArray} (h:sLt a b=true):a≠b:=by intro e;subst e;rw [Us] at h;cases h
theorem cmpB_neg (a b:ByteArray):decide (cmpB a b < 0)=sLt a b:=by rw [sLt_bts];exact cmp_neg _ _
theorem cmpB_zero (a b:ByteArray):decide (cmpB a b=0)=decide (a=b):=C1.2 ⟨fun h=>bts_inj ((cmp_zero _ _).1 h),fun h=>(cmp_zero _ _).2 (by rw [h])⟩
def M3 (l:Ao):Prop:=l.Pairwise fun f g=>sLt f.Path g.Path=true
def Ks (l:Ao) (p:ByteArray):Nat:=(l.takeWhile fun f=>sLt f.Path p).length
def K1 (l:Ao) (p:ByteArray):Bool:=l.any fun f=>decide (f.Path=p)
theorem pos_le (l:Ao) (p:ByteArray):Ks l p≤l.length:=by
 unfold Ks;exact (List.takeWhile_prefix _).length_le
theorem pos_lt:∀ {l:Ao} (h:M3 l) (p:ByteArray) (i:Nat) (hi:i < l.length),sLt l[i].Path p=decide (i < Ks l p)
 | [],h,p,i,hi=>by cases hi
 | f::l,h,p,i,hi=>by
  have h':=Du.1 h;unfold Ks;rw [List.takeWhile_cons];cases hf:sLt f.Path p
  ·simp only [Bc,Cg,Kt,Nat.not_lt_zero,decide_false];cases i with
   | zero=>exact hf
   | succ i =>
    simp only [Hf];have hi':i < l.length:=by simpa using hi
    have:=h'.1 l[i] (A5 _);cases hg:sLt l[i].Path p
    ·rfl
    ·rw [Xn this hg] at hf;cases hf
  ·simp only [G0,Dl];cases i with
   | zero=>simp [hf]
   | succ i =>
    simp only [Hf,Nat.add_lt_add_iff_right];exact pos_lt h'.2 p i (by simpa using hi)
theorem shr1u {b:Int} (h:0≤b):shr? .u64 b 1=some (b / 2):=by
 unfold shr?;rw [Ae (by decide)]
 have:(2:Int) ^ (min (1:Int).toNat IntKind.u64.bits)=2:=by decide
 rw [this,Int.fdiv_eq_ediv_of_nonneg _ (by decide)]
theorem ckU {x:Int} (h1:0≤x) (h2:x≤9223372036854775807):ckK .u64 x=some x:=by
 unfold ckK inK
 have:IntKind.u64.wrap x=x:=by
  simp [IntKind.wrap,IntKind.bits,IntKind.signed];omega
 rw [Af (Aw this)]
theorem finds_f (f:File) (p:ByteArray):Oj f p=some (cmpB f.Path p):=rfl
theorem find_iter {l:Ao} (h:M3 l) (p:ByteArray) (hl:l.length≤1000000):∀ (n lo hi:Nat),hi - lo≤n→lo≤Ks l p→Ks l p≤hi→hi≤l.length →
  Gk (fun s=>Dw.l1 l p s.1 s.2) ((hi:Int),(lo:Int))=some ((Ks l p:Nat):Int):=by
 intro n
 induction n with
 | zero =>
  intro lo hi hn h1 h2 h3;have e:Ks l p=lo:=by omega
  rw [C4 (r:=((Ks l p:Nat):Int))];show Dw.l1 l p _ _=_;unfold Dw.l1;rw [Az (by omega),Ae Ay,e]
 | succ n ih =>
  intro lo hi hn h1 h2 h3;by_cases hlt:lo < hi
  ·have hm:(((lo:Int)+hi) / 2)=((lo+hi) / 2:Nat):=by omega
   have hml:(lo+hi) / 2 < l.length:=by omega
   have hstep:Dw.l1 l p (hi:Int) (lo:Int)=some (if (lo+hi) / 2 < Ks l p then Step.next ((hi:Int),(((lo+hi) / 2+1:Nat):Int)) else Step.next ((((lo+hi) / 2:Nat):Int),(lo:Int))):=by
    unfold Dw.l1;rw [Aw (by omega:(lo:Int) < hi),Af rfl,C9 (by omega) (by omega),Aa,ckU (by omega) (by omega),Aa,shr1u (by omega),Aa,hm,C9 (by omega) (by omega),Aa,Ds hml,Aa,finds_f,Aa,cmpB_neg,pos_lt h p _ hml]
    by_cases hc:(lo+hi) / 2 < Ks l p
    ·rw [Af hc,Aw hc,Af rfl,C9 (by omega) (by omega),Aa];rfl
    ·rw [Ae hc,Az hc,Ae Ay]
   by_cases hc:(lo+hi) / 2 < Ks l p
   ·rw [Af hc] at hstep;rw [C7 (s':=((hi:Int),(((lo+hi) / 2+1:Nat):Int))) hstep];exact ih _ _ (by omega) (by omega) h2 h3
   ·rw [Ae hc] at hstep;rw [C7 (s':=((((lo+hi) / 2:Nat):Int),(lo:Int))) hstep];exact ih _ _ (by omega) h1 (by omega) (by omega)
  ·have e:Ks l p=lo:=by omega
   rw [C4 (r:=((Ks l p:Nat):Int))];show Dw.l1 l p _ _=_;unfold Dw.l1;rw [Az (by omega),Ae Ay,e]
theorem has_at {l:Ao} (h:M3 l) (p:ByteArray):K1 l p=if hp:Ks l p < l.length then decide (l[Ks l p].Path=p) else false:=by
 rw [Mo];constructor
 ·intro hh;unfold K1 at hh;rw [Li] at hh;obtain ⟨f,hf,he⟩:=hh;obtain ⟨i,hi,rfl⟩:=Cd hf;have he:=L5 he;have h1:=pos_lt h p i hi;rw [he,Us] at h1;have h1:¬ i < Ks l p:=of_decide_eq_false h1.symm;have hpl:Ks l p < l.length:=by omega
  rw [dif_pos hpl];refine Aw ?_;rcases Es (Ks l p) i with h2 | h2
  ·have h3:=Cp.1 h _ _ hpl hi h2;have h4:=pos_lt h p _ hpl;rw [he] at h3;rw [h3] at h4;simp at h4
  ·have:i=Ks l p:=by omega
   subst this;exact he
 ·intro hh;split at hh
  ·rename_i hp
   unfold K1;rw [Li];exact ⟨_,A5 hp,hh⟩
  ·cases hh
theorem Find_f {l:Ao} (h:M3 l) (hl:l.length≤1000000) (p:ByteArray):Dw l p=some (((Ks l p:Nat):Int),K1 l p):=by
 unfold Dw;have:=find_iter h p hl l.length 0 l.length (by omega) (Dh _) (pos_le l p) (C8 _)
 rw [show ((0:Nat):Int)=0 from rfl] at this;rw [this,Aa];unfold Dw.j1;rw [has_at h p];by_cases hp:Ks l p < l.length
 ·rw [dif_pos hp,Aw (by omega),Af rfl,Ds hp,Aa,finds_f,Aa,cmpB_zero];rfl
 ·rw [dif_neg hp,Az (by omega),Ae Ay];rfl
def Ll {α ρ:Type} (g:Nat→α→Option ρ):Nat→List α→Option ρ
 | _,[]=>Option.none
 | k,x::r=>match g k x with
  | some y=>some y
  | Option.none=>Ll g (k+1) r
theorem scan_iter {α ρ:Type} {f:Int→Option (Step Int (ρ ⊕ Unit))} (l:List α) (g:Nat→α→Option ρ)
  (hs:∀ k (h:k < l.length),(∀ j (hj:j < l.length),j < k→g j l[j]=Option.none)→f (k:Int)=match g k l[k] with | some r=>some (.done (.inl r)) | Option.none=>some (.next ((k+1:Nat):Int)))
  (he:f (l.length:Int)=some (.done (.inr ()))):∀ (rest:List α) (k:Nat),l.drop k=rest→k≤l.length→(∀ j (hj:j < l.length),j < k→g j l[j]=Option.none)→Gk f (k:Int)=some (orL (Ll g k rest)):=by
 intro rest
 induction rest with
 | nil =>
  intro k hk hkl _;have:=Ni hk;have e:k=l.length:=by omega
  subst e;exact C4 he
 | cons x r ih =>
  intro k hk hkl hp;obtain ⟨hlt,hx,hr⟩:=N7 hk;have e:=hs k hlt hp;rw [hx] at e;rw [Ll];cases hg:g k x with
  | some y=>rw [hg] at e;exact C4 e
  | none =>
   rw [hg] at e;rw [C7 e];refine ih (k+1) hr (by omega) fun j hj hjk=>?_
   by_cases hjk':j=k
   ·subst hjk';rw [hx];exact hg
   ·exact hp j hj (by omega)
theorem scan0 {α ρ:Type} {f:Int→Option (Step Int (ρ ⊕ Unit))} (l:List α) (g:Nat→α→Option ρ)
  (hs:∀ k (h:k < l.length),(∀ j (hj:j < l.length),j < k→g j l[j]=Option.none)→f (k:Int)=match g k l[k] with | some r=>some (.done (.inl r)) | Option.none=>some (.next ((k+1:Nat):Int)))
  (he:f (l.length:Int)=some (.done (.inr ()))):Gk f 0=some (orL (Ll g 0 l)):=by
 have:=scan_iter l g hs he l 0 rfl (Dh _) (fun j hj h=>absurd h (by omega))
 exact this
theorem Tw {α ρ:Type} {g:Nat→α→Option ρ}:∀ {l:List α} {k:Nat},Ll g k l=Option.none↔∀ j (h:j < l.length),g (k+j) l[j]=Option.none
 | [],k=>⟨fun _ j h=>absurd h (by simp),fun _=>rfl⟩
 | x::r,k=>by
  rw [Ll];cases hg:g k x with
  | some y =>
   simp only [reduceCtorEq,false_iff];intro h;have:=h 0 (by simp)
   rw [E8,List.getElem_cons_zero,hg] at this;cases this
  | none =>
   simp only;rw [Tw];constructor
   ·intro h j hj;cases j with
    | zero=>exact hg
    | succ j =>
     have:=h j (by simpa using hj)
     rw [Hf,← this];congr 1;omega
   ·intro h j hj;have:=h (j+1) (by simpa using hj)
    rw [Hf] at this;rw [← this];congr 1;omega
theorem Mr {α ρ:Type} {g:Nat→α→Option ρ}:∀ {l:List α} {k:Nat} {y:ρ},Ll g k l=some y→∃ j,∃ h:j < l.length,g (k+j) l[j]=some y
 | [],k,y,h=>by cases h
 | x::r,k,y,h=>by
  rw [Ll] at h;cases hg:g k x with
  | some z=>rw [hg] at h;exact ⟨0,by simp,by rw [E8];simpa [hg] using h⟩
  | none =>
   rw [hg] at h;obtain ⟨j,hj,e⟩:=Mr h;exact ⟨j+1,by simpa using hj,by rw [Hf,← e];congr 1;omega⟩
def clG (p:ByteArray) (e:Int) (k:Nat) (f:File):Option Bool:=if (k:Int)≠e∧T8 f.Path p=true then some true else Option.none
def Ku (l:Ao) (p:ByteArray):Bool:=l.any fun f=>T8 f.Path p
theorem clash_f {l:Ao} {p:ByteArray} (hl:∀ f∈l,f.Path.size≤1000000) (hn:l.length≤1000000) (hp:p.size≤1000000) (e:Int):El l p e=some (Ll (clG p e) 0 l).isSome:=by
 unfold El;rw [scan0 l (clG p e) ?_ ?_,Aa]
 ·cases h:Ll (clG p e) 0 l with
  | none=>rfl
  | some b =>
   obtain ⟨j,hj,hg⟩:=Mr h;unfold clG at hg;split at hg
   ·cases hg;rfl
   ·cases hg
 ·intro k h _;unfold El.l1 clG;rw [Aw (by omega),Af rfl,Ds h,Aa]
  have hs:=hl _ (A5 h);by_cases hk:(k:Int)=e
  ·rw [Aw hk,Ae (by simp),Aa,Ae Ay,C9 (by omega) (by omega),Aa,Ae (fun h=>h.1 hk)];rfl
  ·rw [Az hk,Af (by rfl),Related_f hs hp,Aa,Aa]
   cases hr:T8 l[k].Path p
   ·rw [Ae Ay,C9 (by omega) (by omega),Aa,Ae (fun h=>Ay h.2)];rfl
   ·rw [Af rfl,Af ⟨hk,rfl⟩]
 ·unfold El.l1;rw [Az (by omega),Ae Ay]
theorem clO_all {p:ByteArray}:∀ (l:Ao) (k:Nat),(Ll (clG p (-1)) k l).isSome=Ku l p
 | [],k=>rfl
 | f::l,k=>by
  rw [Ll];unfold clG Ku;rw [O8];cases h:T8 f.Path p
  ·rw [Ae (fun h=>Ay h.2)];simp only [Qb];exact clO_all l (k+1)
  ·rw [Af ⟨by omega,rfl⟩];rfl
theorem clO_ne {p:ByteArray}:∀ (l:Ao) (k j:Nat),(Ll (clG p ((k+j:Nat):Int)) k l).isSome=Ku (l.eraseIdx j) p
 | [],k,j=>rfl
 | f::l,k,0=>by
  rw [Ll];unfold clG;rw [Ae (fun h=>h.1 rfl)];simp only [List.eraseIdx_zero,List.tail_cons]
  have:∀ (m:Ao) (q:Nat),k < q→(Ll (clG p ((k+0:Nat):Int)) q m).isSome=Ku m p:=by
   intro m
   induction m with
   | nil=>intro q _;rfl
   | cons f m ih =>
    intro q hq;rw [Ll];unfold clG Ku;rw [O8];cases h:T8 f.Path p
    ·rw [Ae (fun h=>Ay h.2)];simp only [Qb];exact ih (q+1) (by omega)
    ·rw [Af ⟨by omega,rfl⟩];rfl
  exact this l (k+1) (by omega)
 | f::l,k,j+1=>by
  rw [Ll];have hc:=clO_ne (p:=p) l (k+1) j;rw [show k+1+j=k+(j+1) by omega] at hc
  unfold Ku at hc ⊢;rw [List.eraseIdx_cons_succ,O8];unfold clG;cases h:T8 f.Path p
  ·rw [Ae (fun h=>Ay h.2)];simp only [Qb];exact hc
  ·rw [Af ⟨by omega,rfl⟩];rfl
def trG (l:Ao) (k:Nat) (f:File):Option Fault :=
 if K3 f.Path=false then some ⟨12,k⟩
 else if 0 < k∧∃ q,l[k - 1]? = some q∧sLt q.Path f.Path=false then some ⟨5,k⟩
 else if Ku (l.take k) f.Path=true then some ⟨7,k⟩
 else if (Cl f.Lines).Code≠0 then some ⟨(Cl f.Lines).Code,k⟩ else Option.none
def Ki (l:Ao):Fault:=if l.length > 24 then ⟨2,-1⟩ else (Ll (trG l) 0 l).getD ⟨0,0⟩
theorem trG_path {l:Ao} {k:Nat} {f:File} (h:trG l k f=Option.none):K3 f.Path=true:=by
 unfold trG at h;cases hp:K3 f.Path
 ·rw [Af hp] at h;cases h
 ·rfl
theorem ord_dec (p q:ByteArray):(sLt p q || decide (p=q)) = !sLt q p:=by
 rcases sLt_tri p q with h | h | h
 ·rw [h,T9 h];rfl
 ·subst h;rw [Us];simp
 ·rw [h,T9 h,Az (sLt_ne h).symm];rfl
theorem prev_f (l:Ao) {k:Nat} (hk:k < l.length) (h1000:l.length≤1000000):((if decide ((k:Int) > 0) then (ckK .i64 ((k:Int) - 1)).bind fun z1=>(at? l z1).bind fun y3=>some (sLt l[k].Path y3.Path || decide (l[k].Path=y3.Path)) else some false):Option Bool) =
  some (decide (0 < k∧∃ q,l[k - 1]? = some q∧sLt q.Path l[k].Path=false)):=by
 by_cases h0:0 < k
 ·have hk1:k - 1 < l.length:=by omega
  rw [Aw (by omega),Af rfl,C9 (by omega) (by omega),Aa,show ((k:Int) - 1)=((k - 1:Nat):Int) by omega,Ds hk1,Aa,ord_dec]
  congr 1;rw [Mo];simp only [Bb hk1,Option.some.injEq,exists_eq_left',h0,true_and,Cs];cases sLt l[k - 1].Path l[k].Path <;> simp
 ·rw [Az (by omega),Ae Ay,Az (fun h=>h0 h.1)]
theorem Validate_f (t:FileTree):Gc t=some (Ki t.Files):=by
 obtain ⟨l⟩:=t;unfold Gc Ki;simp only;by_cases h24:l.length > 24
 ·rw [Aw (by omega),Af rfl,Af h24]
 rw [Az (by omega),Ae Ay,Ae h24,scan0 l (trG l) ?_ ?_,Aa]
 ·cases Ll (trG l) 0 l <;> rfl
 ·intro k h hp
  have hsz:∀ f∈l.take k,f.Path.size≤60:=by
   intro f hf;obtain ⟨j,hj,rfl⟩:=Cd hf;rw [Gg];rw [Bg] at hj;exact N1 (trG_path (hp j (by omega) (by omega)))
  unfold Gc.l1 trG;simp only;rw [Aw (by omega),Af rfl,Ds h,Aa,ValidPath_f,Aa]
  cases hv:K3 l[k].Path
  ·rw [Af (by rfl),Af rfl]
  ·rw [Ae (show ¬ ((!true)=true) by decide),Ae (show ¬ (true=false) by decide),prev_f l h (by omega),Aa]
   by_cases h5:0 < k∧∃ q,l[k - 1]? = some q∧sLt q.Path l[k].Path=false
   ·rw [Aw h5,Af rfl,Af h5]
   ·rw [Az h5,Ae Ay,Ae h5,Vd (by omega) (by omega) (by omega),Aa,show ((0:Int)).toNat=0 from rfl,List.drop_zero,Bn,
     clash_f (fun f hf=>by have:=hsz f hf;omega) (by rw [Bg];omega) (by have:=N1 hv;omega),Aa,clO_all]
    cases h7:Ku (l.take k) l[k].Path
    ·rw [Ae Ay,Ae Ay,second_f,Aa];by_cases hc:(Cl l[k].Lines).Code=0
     ·rw [Af hc,Ae (by decide),Ae (by simpa using hc),C9 (by omega) (by omega),Aa];rfl
     ·rw [Ae hc,Af (by simp [hc]),Af hc]
    ·rw [Af rfl,Af rfl]
 ·unfold Gc.l1;rw [Az (by simp),Ae Ay]
structure TrOk (l:Ao):Prop where
 len:l.length≤24
 srt:M3 l
 path:∀ f∈l,K3 f.Path=true
 rel:l.Pairwise fun f g=>T8 f.Path g.Path=false
 text:∀ f∈l,Lr f.Lines
theorem trG_code {l:Ao} {k:Nat} {f:File} {y:Fault} (h:trG l k f=some y):y.Code≠0:=by
 unfold trG at h;split at h
 ·cases h;simp
 ·split at h
  ·cases h;simp
  ·split at h
   ·cases h;simp
   ·split at h
    ·rename_i hc;cases h;exact hc
    ·cases h
theorem Xd (l:Ao):Ki l=⟨0,0⟩∨(Ki l).Code≠0:=by
 unfold Ki;split
 ·right;decide
 ·cases h:Ll (trG l) 0 l with
  | none=>left;rfl
  | some y =>
   right;obtain ⟨j,hj,e⟩:=Mr h;exact trG_code e
theorem Lv (l:Ao):(Ki l).Code=0↔TrOk l:=by
 unfold Ki;by_cases h24:l.length > 24
 ·rw [Af h24];exact ⟨fun h=>by simp at h,fun h=>by have:=h.len;omega⟩
 rw [Ae h24]
 have e1:(((Ll (trG l) 0 l).getD ⟨0,0⟩).Code=0)↔Ll (trG l) 0 l=Option.none:=by
  cases h:Ll (trG l) 0 l with
  | none=>simp
  | some y =>
   obtain ⟨j,hj,e⟩:=Mr h;simp [trG_code e]
 rw [e1,Tw];simp only [Hm];constructor
 ·intro h
  have h2:∀ j (hj:j < l.length),K3 l[j].Path=true∧¬ (0 < j∧∃ q,l[j - 1]? = some q∧sLt q.Path l[j].Path=false)∧Ku (l.take j) l[j].Path=false∧(Cl l[j].Lines).Code=0:=by
   intro j hj;have:=h j hj;unfold trG at this;cases hp:K3 l[j].Path
   ·rw [Af hp] at this;cases this
   ·rw [Ae (by rw [hp];decide)] at this
    split at this
    ·cases this
    ·rename_i h5
     split at this
     ·cases this
     ·rename_i h7
      split at this
      ·cases this
      ·rename_i hc
       exact ⟨rfl,h5,by simpa using h7,by simpa using hc⟩
  have hadj:∀ j (hj:j+1 < l.length),sLt l[j].Path l[j+1].Path=true:=by
   intro j hj;have:=(h2 (j+1) hj).2.1;cases hs:sLt l[j].Path l[j+1].Path
   ·exact absurd ⟨by omega,l[j],by simp,hs⟩ this
   ·rfl
  have hlt:∀ (d i:Nat) (hd:i+d+1 < l.length),sLt l[i].Path l[i+d+1].Path=true:=by
   intro d
   induction d with
   | zero=>intro i hd;exact hadj i hd
   | succ d ih=>intro i hd;exact Xn (ih i (by omega)) (hadj (i+d+1) hd)
  refine ⟨by omega,?_,?_,?_,?_⟩
  ·refine Cp.2 fun i j hi hj hij=>?_;obtain ⟨d,rfl⟩:∃ d,j=i+d+1:=⟨j - i - 1,by omega⟩
   exact hlt d i hj
  ·intro f hf;obtain ⟨j,hj,rfl⟩:=Cd hf;exact (h2 j hj).1
  ·refine Cp.2 fun i j hi hj hij=>?_;have:=(h2 j hj).2.2.1;unfold Ku at this;rw [K8] at this
   have hm:l[i]∈l.take j:=by
    rw [Nh];exact ⟨i,by omega,rfl⟩
   simpa using this _ hm
  ·intro f hf;obtain ⟨j,hj,rfl⟩:=Cd hf;exact (Ko _).2 ((Gq _).2 (h2 j hj).2.2.2)
 ·intro h j hj;have hm:=A5 hj;unfold trG;rw [Ae (by rw [h.path _ hm];decide),Ae ?_,Ae ?_,Ae ?_]
  ·simpa using (Gq _).1 ((Ko _).1 (h.text _ hm))
  ·have:Ku (l.take j) l[j].Path=false:=by
    unfold Ku;rw [K8];intro f hf;rw [Nh] at hf;obtain ⟨i,hi,rfl⟩:=hf;have:=Cp.1 h.rel i j (by omega) hj (by omega)
    simpa using this
   rw [this];decide
  ·rintro ⟨h0,q,hq,hs⟩;have hk1:j - 1 < l.length:=by omega
   rw [Bb hk1] at hq;cases hq;have:=Cp.1 h.srt (j - 1) j hk1 hj (by omega)
   rw [this] at hs;cases hs
theorem tsecond_f (t:FileTree) (i:Int):Nt t i=some (if (Ki t.Files).Code=0 then ⟨0,0⟩ else ⟨(Ki t.Files).Code,i⟩):=by
 unfold Nt;rw [Validate_f,Aa];rcases Xd t.Files with h | h
 ·rw [h];rfl
 ·rw [Af (Qd.2 fun h2=>h h2.1),Ae h]
end Go.Dc
