import Derived.Test.YtfpbdmldeikfbaaGreatDoorDcPS
import Derived.Test.YtfpbdmldeikfbaaGreatDoorDcM
import Derived.Lib.IndexAny
set_option linter.unusedSimpArgs false
set_option linter.unusedVariables false
set_option maxRecDepth 4000
namespace Go.Dc
open Go
def lcs:Ab→Ab→Nat
 | [],_=>0
 | _::_,[]=>0
 | x::a,y::b=>if x=y then lcs a b+1 else max (lcs a (y::b)) (lcs (x::a) b)
 termination_by a b=>a.length+b.length
def Oh:Ab→Ab→List Int
 | [],[]=>[]
 | [],_::b=>2::Oh [] b
 | _::a,[]=>1::Oh a []
 | x::a,y::b=>if x=y then 0::Oh a b else if lcs a (y::b) ≥ lcs (x::a) b then 1::Oh a (y::b) else 2::Oh (x::a) b
 termination_by a b=>a.length+b.length
theorem Xn (a:Ab):lcs a []=0:=by cases a <;> simp [lcs]
theorem lcs_nil_l (b:Ab):lcs [] b=0:=by simp [lcs]
theorem Yh (x y:ByteArray) (a b:Ab):lcs (x::a) (y::b)=if x=y then lcs a b+1 else max (lcs a (y::b)) (lcs (x::a) b):=by rw [lcs]
theorem lcs_le:∀ (a b:Ab),lcs a b≤a.length∧lcs a b≤b.length
 | [],b=>by simp [lcs]
 | _::_,[]=>by simp [lcs]
 | x::a,y::b=>by
  rw [Yh];have h1:=lcs_le a b;have h2:=lcs_le a (y::b);have h3:=lcs_le (x::a) b;simp only [Eb] at *;split <;> omega
 termination_by a b=>a.length+b.length
theorem place_inj {w p q i j:Nat} (hq:q < w) (hj:j < w) (h:p * w+q=i * w+j):p=i∧q=j:=by
 have h1:(p * w+q) / w=p:=by rw [Nat.mul_comm,Nat.mul_add_div (by omega)];simp [Nat.div_eq_of_lt hq]
 have h2:(i * w+j) / w=i:=by rw [Nat.mul_comm,Nat.mul_add_div (by omega)];simp [Nat.div_eq_of_lt hj]
 have:p=i:=by rw [← h1,← h2,h]
 subst this;exact ⟨rfl,by omega⟩
theorem place_lt {w p q n:Nat} (hq:q < w) (hp:p≤n):p * w+q < (n+1) * w:=by
 have:p * w≤n * w:=Aq _ hp;rw [B8,Nat.one_mul];omega
def Tab (a b:Ab) (T:List Int) (K:Nat→Nat→Prop):Prop :=
 T.length=(a.length+1) * (b.length+1)∧∀ p q,p≤a.length→q≤b.length→(K p q∨p=a.length∨q=b.length)→T[p * (b.length+1)+q]? = some (lcs (a.drop p) (b.drop q):Int)
section
variable {a b : Ab} (hs : (a.length + 1) * (b.length + 1) * 8 ≤ 140737488355328) include hs
theorem small_w:a.length+1≤140737488355328∧b.length+1≤140737488355328∧(a.length+1) * (b.length+1)≤140737488355328:=by
 have h1:a.length+1≤(a.length+1) * (b.length+1):=Nat.le_mul_of_pos_right _ (by omega)
 have h2:b.length+1≤(a.length+1) * (b.length+1):=Nat.le_mul_of_pos_left _ (by omega)
 omega
theorem at_place {T:List Int} {K:Nat→Nat→Prop} (h:Tab a b T K) {p q:Nat} (hp:p≤a.length) (hq:q≤b.length) (hk:K p q∨p=a.length∨q=b.length) :
  Nb p q T (b.length+1:Nat)=some (lcs (a.drop p) (b.drop q):Int):=by
 obtain ⟨s1,s2,s3⟩:=small_w hs;have hlt:=place_lt (w:=b.length+1) (q:=q) (n:=a.length) (by omega) hp
 have e:((p:Int) * ((b.length+1:Nat):Int))=((p * (b.length+1):Nat):Int):=by rw [Int.natCast_mul]
 unfold Nb;rw [e,Br (by omega) (by omega)]
 simp only [Aa];rw [show ((p * (b.length+1):Nat):Int)+(q:Int)=((p * (b.length+1)+q:Nat):Int) from by omega,Br (by omega) (by omega)]
 simp only [Aa];have:=h.2 p q hp hq hk;have hl:p * (b.length+1)+q < T.length:=by rw [h.1];exact hlt
 rw [Bg hl];rw [A3 hl] at this;simpa using this
set_option linter.unusedVariables false in omit hs in
theorem tab_set {T:List Int} {K:Nat→Nat→Prop} (h:Tab a b T K) {i j:Nat} (hi:i < a.length) (hj:j < b.length) {x:Int} (hx:x=lcs (a.drop i) (b.drop j)) :
  Tab a b (T.set (i * (b.length+1)+j) x) (fun p q=>K p q∨(p=i∧q=j)):=by
 refine ⟨by rw [Ls];exact h.1,fun p q hp hq hk=>?_⟩
 by_cases he:p=i∧q=j
 ·obtain ⟨rfl,rfl⟩:=he;have hlt:=place_lt (w:=b.length+1) (q:=q) (n:=a.length) (by omega) hp
  rw [List.getElem?_set_self (by rw [h.1];exact hlt),hx]
 ·have hne:i * (b.length+1)+j≠p * (b.length+1)+q:=by
   intro e;obtain ⟨h1,h2⟩:=place_inj (by omega) (by omega) e
   exact he ⟨h1.symm,h2.symm⟩
  rw [List.getElem?_set_ne hne];refine h.2 p q hp hq ?_;rcases hk with (hk | hk) | hk
  ·exact .inl hk
  ·exact absurd hk he
  ·exact .inr hk
set_option linter.unusedVariables false in omit hs in
theorem Mw {l:Ab} {i:Nat} (h:i < l.length):l.drop i=l[i]::l.drop (i+1):=Cq h
theorem row_eq {i:Nat} (hi:i < a.length) {T:List Int} (h:Tab a b T (fun p _=>i < p)) :
  ∃ T',C7 (fun s=>Ex.l3 a b (b.length+1:Nat) i s.1 s.2) ((b.length:Int) - 1,T)=some T'∧Tab a b T' (fun p _=>i≤p):=by
 obtain ⟨s1,s2,s3⟩:=small_w hs;refine U5 (fun s=>∃ k:Nat,k≤b.length∧s.1=(k:Int) - 1∧Tab a b s.2 (fun p q=>i < p∨(p=i∧k≤q))) (fun s=>(s.1+1).toNat) _ ?_ _ ⟨b.length,B7 _,rfl,?_⟩
 ·rintro ⟨x,T⟩ ⟨k,hk,hx,hT⟩;simp only at hx;subst hx;unfold Ex.l3;rw [Al];cases k with
  | zero =>
   rw [Ac (by omega)]
   refine .inr ⟨T,rfl,hT.1,fun p q hp hq hk=>hT.2 p q hp hq ?_⟩;rcases hk with hk | hk
   ·rcases Hf hk with h | h
    ·exact .inl (.inl h)
    ·exact .inl (.inr ⟨h.symm,Cs _⟩)
   ·exact .inr hk
  | succ k =>
   have hkb:k < b.length:=hk;rw [Ad (by omega)]
   rw [show ((k+1:Nat):Int) - 1=(k:Int) from by omega]
   rw [Br (by omega) (by omega)]
   simp only [Aa];rw [show ((i:Int)+1)=((i+1:Nat):Int) from by omega,at_place hs hT (p:=i+1) (q:=k) (by omega) (by omega) (.inl (.inl (by omega)))]
   simp only [Aa];rw [Br (by omega) (by omega)]
   simp only [Aa];rw [show ((k:Int)+1)=((k+1:Nat):Int) from by omega,at_place hs hT (p:=i) (q:=k+1) (by omega) (by omega) (.inl (.inr ⟨rfl,by omega⟩))]
   simp only [Aa];rw [Bg hi];simp only [Aa];rw [Bg hkb];simp only [Aa];have hlt:=place_lt (w:=b.length+1) (q:=k) (n:=a.length) (p:=i) (by omega) (by omega)
   have fin:∀ x:Int,x=lcs (a.drop i) (b.drop k)→∃ s',Ex.j5 (b.length+1:Nat) i k T x=some (.next s')∧(∃ k':Nat,k'≤b.length∧s'.1=(k':Int) - 1∧Tab a b s'.2 (fun p q=>i < p∨(p=i∧k'≤q)))∧(s'.1+1).toNat < (((k:Int))+1).toNat:=by
    intro x hx;have e:((i:Int) * ((b.length+1:Nat):Int))=((i * (b.length+1):Nat):Int):=by rw [Int.natCast_mul]
    unfold Ex.j5;rw [e,Br (by omega) (by omega)]
    simp only [Aa];rw [show ((i * (b.length+1):Nat):Int)+(k:Int)=((i * (b.length+1)+k:Nat):Int) from by omega,Br (by omega) (by omega)]
    simp only [Aa];rw [Bg (by rw [hT.1];exact hlt)]
    simp only [Aa];rw [Br (by omega) (by omega)]
    simp only [Aa];refine ⟨_,rfl,⟨k,by omega,rfl,?_⟩,by simp only;omega⟩
    simp only [Ay];have:=tab_set hT hi hkb hx;refine ⟨this.1,fun p q hp hq hk=>this.2 p q hp hq ?_⟩;rcases hk with (hk | ⟨h1,h2⟩) | hk
    ·exact .inl (.inl (.inl hk))
    ·rcases Hf h2 with h | h
     ·exact .inl (.inl (.inr ⟨h1,h⟩))
     ·exact .inl (.inr ⟨h1,h.symm⟩)
    ·exact .inr hk
   left;rw [Al];by_cases heq:a[i]=b[k]
   ·rw [Ad heq];rw [at_place hs hT (p:=i+1) (q:=k+1) (by omega) (by omega) (.inl (.inl (by omega)))]
    simp only [Aa];have hb:=(lcs_le (a.drop (i+1)) (b.drop (k+1))).1;rw [Cd] at hb;rw [Br (by omega) (by omega)]
    simp only [Aa]
    obtain ⟨s',h1,h2,h3⟩:=fin (((lcs (a.drop (i+1)) (b.drop (k+1)):Nat):Int)+1) (by
     rw [Mw hi,Mw hkb,Yh,Ad heq];omega)
    exact ⟨s',h1,h2,h3⟩
   ·rw [Ac heq]
    obtain ⟨s',h1,h2,h3⟩:=fin (max ((lcs (a.drop (i+1)) (b.drop k):Nat):Int) ((lcs (a.drop i) (b.drop (k+1)):Nat):Int)) (by
     have e1:=Mw hi;have e2:=Mw hkb;rw [e1,e2,Yh,Ac heq,← e1,← e2]
     omega)
    exact ⟨s',h1,h2,h3⟩
 ·refine ⟨h.1,fun p q hp hq hk=>h.2 p q hp hq ?_⟩;rcases hk with (hk | ⟨_,h2⟩) | hk
  ·exact .inl hk
  ·exact .inr (.inr (by omega))
  ·exact .inr hk
theorem table_eq:∃ T',C7 (fun s=>Ex.l2 a b (b.length+1:Nat) s.1 s.2) ((a.length:Int) - 1,List.replicate ((a.length+1) * (b.length+1)) 0)=some T'∧Tab a b T' (fun _ _=>True):=by
 obtain ⟨s1,s2,s3⟩:=small_w hs;refine U5 (fun s=>∃ k:Nat,k≤a.length∧s.1=(k:Int) - 1∧Tab a b s.2 (fun p _=>k≤p)) (fun s=>(s.1+1).toNat) _ ?_ _ ⟨a.length,B7 _,rfl,?_⟩
 ·rintro ⟨x,T⟩ ⟨k,hk,hx,hT⟩;simp only at hx;subst hx;unfold Ex.l2;rw [Al];cases k with
  | zero =>
   rw [Ac (by omega)]
   exact .inr ⟨T,rfl,hT.1,fun p q hp hq _=>hT.2 p q hp hq (.inl (Cs _))⟩
  | succ k =>
   rw [Ad (by omega),show ((k+1:Nat):Int) - 1=(k:Int) from by omega,Br (by omega) (by omega)]
   simp only [Aa]
   obtain ⟨T',h1,h2⟩:=row_eq hs (i:=k) (by omega) (T:=T) ⟨hT.1,fun p q hp hq hk=>hT.2 p q hp hq (by
    rcases hk with hk | hk
    ·exact .inl hk
    ·exact .inr hk)⟩
   rw [h1];simp only [Aa];unfold Ex.j4 Ex.j3;rw [Br (by omega) (by omega)]
   simp only [Aa];exact .inl ⟨_,rfl,⟨k,by omega,rfl,h2⟩,by simp only;omega⟩
 ·refine ⟨by simp,fun p q hp hq hk=>?_⟩
  have hlt:=place_lt (w:=b.length+1) (q:=q) (n:=a.length) (p:=p) (by omega) hp
  have hz:lcs (a.drop p) (b.drop q)=0:=by
   rcases hk with hk | hk | hk
   ·have:p=a.length:=by omega
    subst this;simp [lcs]
   ·subst hk;simp [lcs]
   ·subst hk;simp [Xn]
  rw [hz,List.getElem?_replicate,Ad hlt];rfl
theorem sum_small:(a.length+b.length) * 8≤140737488355328:=by
 have:a.length+b.length+1≤(a.length+1) * (b.length+1):=by
  rw [B8,Nat.mul_add,Nat.mul_one,Nat.one_mul];omega
 omega
theorem script_eq {T:List Int} (hT:Tab a b T (fun _ _=>True)):C7 (fun s=>Ex.l1 a b (b.length+1:Nat) T s.1 s.2.1 s.2.2) (0,0,[])=some (Oh a b):=by
 obtain ⟨s1,s2,s3⟩:=small_w hs;have s4:=sum_small hs;refine iter_eq_of (σ:=Int×Int×List Int) (fun s=>∃ i j:Nat,i≤a.length∧j≤b.length∧s.1=(j:Int)∧s.2.1=(i:Int)∧s.2.2.length≤i+j∧s.2.2++Oh (a.drop i) (b.drop j)=Oh a b) (fun s=>(a.length+b.length) - (s.1.toNat+s.2.1.toNat)) _ ?_ _ ⟨0,0,Cs _,Cs _,rfl,rfl,by simp,by simp⟩
 rintro ⟨x,y,out⟩ ⟨i,j,hi,hj,hx,hy,hl,hout⟩;simp only at hx hy hl hout ⊢;subst hx;subst hy;unfold Ex.l1;simp only [Al];by_cases hend:i=a.length∧j=b.length
 ·obtain ⟨rfl,rfl⟩:=hend;right;rw [Ac (by omega)]
  simp only [Aa];rw [Ac (by simp)]
  simp only [List.drop_length] at hout;rw [← hout];simp [Oh]
 ·left
  have hgo:(if (i:Int) < (a.length:Int) then some true else some (decide ((j:Int) < (b.length:Int))))=some true:=by
   by_cases h:i < a.length
   ·rw [Ad (by omega)]
   ·rw [Ac (by omega),Ag (by omega)]
  rw [hgo];simp only [Aa,E4]
  have keepNext:∀ (x:Int) (i' j':Nat),i'≤a.length→j'≤b.length→i+j < i'+j'→out++([x]++Oh (a.drop i') (b.drop j'))=Oh a b →
    ((app? 8 out [x])=some (out++[x]))∧(∃ (i_ j_:Nat),i_≤a.length∧j_≤b.length∧((j':Nat):Int)=j_∧((i':Nat):Int)=i_∧(out++[x]).length≤i_+j_∧(out++[x])++Oh (a.drop i_) (b.drop j_)=Oh a b)∧(a.length+b.length) - (j'+i') < (a.length+b.length) - (j+i):=by
   intro x i' j' h1 h2 h3 h4;refine ⟨Dp (by simp only [Ak];omega),⟨i',j',h1,h2,rfl,rfl,by simp;omega,by rw [Am];exact h4⟩,by omega⟩
  by_cases hia:i < a.length
  ·by_cases hjb:j < b.length
   ·have hda:=Mw hia;have hdb:=Mw hjb
    have hboth:(if (i:Int) < (a.length:Int) then some (decide ((j:Int) < (b.length:Int))) else some false)=some true:=by
     rw [Ad (by omega),Ag (by omega)]
    rw [hboth];simp only [Aa,E4];rw [Bg hia,Bg hjb];simp only [Aa,Bs];by_cases heq:a[i]=b[j]
    ·rw [Ad heq]
     have h4:out++([0]++Oh (a.drop (i+1)) (b.drop (j+1)))=Oh a b:=by
      rw [← hout,hda,hdb]
      conv=>rhs;rw [Oh]
      rw [Ad heq];rfl
     obtain ⟨e1,e2,e3⟩:=keepNext 0 (i+1) (j+1) (by omega) (by omega) (by omega) h4
     rw [e1];simp only [Aa];rw [Br (by omega) (by omega)]
     simp only [Aa];rw [Br (by omega) (by omega)]
     simp only [Aa];exact ⟨_,rfl,e2,by simp only;omega⟩
    ·rw [Ac heq];have hjn:¬ ((j:Int)=(b.length:Int)):=by omega
     rw [Ac hjn,Ad (by omega),Br (by omega) (by omega)]
     simp only [Aa];rw [show ((i:Int)+1)=((i+1:Nat):Int) from by omega,at_place hs hT (p:=i+1) (q:=j) (by omega) (by omega) (.inl trivial)]
     simp only [Aa];rw [Br (by omega) (by omega)]
     simp only [Aa];rw [show ((j:Int)+1)=((j+1:Nat):Int) from by omega,at_place hs hT (p:=i) (q:=j+1) (by omega) (by omega) (.inl trivial)]
     simp only [Aa,Bs];by_cases hge:((lcs (a.drop (i+1)) (b.drop j):Nat):Int) ≥ ((lcs (a.drop i) (b.drop (j+1)):Nat):Int)
     ·rw [Ad hge]
      have h4:out++([1]++Oh (a.drop (i+1)) (b.drop j))=Oh a b:=by
       rw [← hout]
       conv=>rhs;rw [hda,hdb,Oh]
       rw [Ac heq,← hda,← hdb,Ad (by omega)];rfl
      obtain ⟨e1,e2,e3⟩:=keepNext 1 (i+1) j (by omega) (by omega) (by omega) h4
      rw [e1];simp only [Aa];exact ⟨_,rfl,e2,by simp only;omega⟩
     ·rw [Ac hge]
      have h4:out++([2]++Oh (a.drop i) (b.drop (j+1)))=Oh a b:=by
       rw [← hout]
       conv=>rhs;rw [hda,hdb,Oh]
       rw [Ac heq,← hda,← hdb,Ac (by omega)];rfl
      obtain ⟨e1,e2,e3⟩:=keepNext 2 i (j+1) (by omega) (by omega) (by omega) h4
      rw [e1];simp only [Aa];exact ⟨_,rfl,e2,by simp only;omega⟩
   ·
    have hj':j=b.length:=by omega
    subst hj';have hda:=Mw hia
    have hboth:(if (i:Int) < (a.length:Int) then some (decide ((b.length:Int) < (b.length:Int))) else some false)=some false:=by
     rw [Ad (by omega),Af (by omega)]
    rw [hboth];simp only [Aa,A6,Cg,E4]
    have h4:out++([1]++Oh (a.drop (i+1)) (b.drop b.length))=Oh a b:=by
     rw [← hout,hda,List.drop_length]
     conv=>rhs;rw [Oh]
     rfl
    obtain ⟨e1,e2,e3⟩:=keepNext 1 (i+1) b.length (by omega) (by omega) (by omega) h4
    rw [e1];simp only [Aa];rw [Br (by omega) (by omega)]
    simp only [Aa];exact ⟨_,rfl,e2,by simp only;omega⟩
  ·have hi':i=a.length:=by omega
   subst hi';have hjb:j < b.length:=by omega
   have hdb:=Mw hjb
   have hboth:(if (a.length:Int) < (a.length:Int) then some (decide ((j:Int) < (b.length:Int))) else some false)=some false:=by
    rw [Ac (by omega)]
   rw [hboth];simp only [Aa,A6,Cg];rw [Ac (show ¬ ((j:Int)=(b.length:Int)) by omega),Ac (show ¬ ((a.length:Int) < (a.length:Int)) by omega)]
   simp only [Aa,A6,Cg]
   have h4:out++([2]++Oh (a.drop a.length) (b.drop (j+1)))=Oh a b:=by
    rw [← hout,hdb,List.drop_length]
    conv=>rhs;rw [Oh]
    rfl
   obtain ⟨e1,e2,e3⟩:=keepNext 2 a.length (j+1) (by omega) (by omega) (by omega) h4
   rw [e1];simp only [Aa];rw [Br (by omega) (by omega)]
   simp only [Aa];exact ⟨_,rfl,e2,by simp only;omega⟩
theorem align_eq:Ex a b=some (Oh a b):=by
 obtain ⟨s1,s2,s3⟩:=small_w hs;have c1:ckK .i64 ((b.length:Int)+1)=some (((b.length+1:Nat)):Int):=Br (by omega) (by omega)
 have c2:ckK .i64 ((a.length:Int)+1)=some (((a.length+1:Nat)):Int):=Br (by omega) (by omega)
 have c3:ckK .i64 ((((a.length+1:Nat)):Int) * (((b.length+1:Nat)):Int))=some (((a.length+1) * (b.length+1):Nat):Int):=by
  rw [← Int.natCast_mul];exact Br (by omega) (by omega)
 have c4:mk? 8 ((((a.length+1) * (b.length+1):Nat)):Int) (0:Int)=some (List.replicate ((a.length+1) * (b.length+1)) 0):=by
  rw [mk_eq (Int.natCast_nonneg _) (by omega),Ay]
 have c5:ckK .i64 ((a.length:Int) - 1)=some ((a.length:Int) - 1):=Br (by omega) (by omega)
 obtain ⟨T,h1,h2⟩:=table_eq hs;have h3:=script_eq hs h2;unfold Ex;rw [c1,Aa,c2,Aa,c3,Aa,c4,Aa,c5,Aa,h1,Aa];unfold Ex.j1 Ex.j2;rw [h3,Aa]
end
def Xp (s:ByteArray):Prop:=s.size≤80∧idxB s 10 < 0
def Kb (l:Ab):Prop:=l.length≤120∧∀ s∈l,Xp s
theorem not_okText {l:Ab} {k:Nat} (h:k < l.length) (hs:¬ Xp l[k]):¬ Kb l:=fun ⟨_,hl⟩=>hs (hl _ (Ar h))
theorem validate_eq (l:Ab):∃ f,Gm l=some f∧((f=⟨0,0⟩∧Kb l)∨(f.Code≠0∧¬ Kb l)):=by
 unfold Gm;rw [Al];by_cases h120:(l.length:Int) > 120
 ·rw [Ad h120];exact ⟨_,rfl,.inr ⟨by simp,fun h=>by have:=h.1;omega⟩⟩
 ·rw [Ac h120]
  obtain ⟨r,h1,h2⟩:=U5 (m:=fun s=>Gm.l1 l s) (fun s=>∃ k:Nat,s=(k:Int)∧k≤l.length∧∀ q (hq:q < l.length),q < k→Xp l[q]) (fun s=>l.length - s.toNat)
   (fun r=>(r=.inr ()∧Kb l)∨∃ f,r=.inl f∧f.Code≠0∧¬ Kb l) (by
    rintro s ⟨k,rfl,hk,hall⟩;unfold Gm.l1;rw [Al];by_cases hlt:k < l.length
    ·rw [Ad (by omega),Bg hlt,Aa,Al]
     by_cases h80:(l[k].size:Int) > 80
     ·rw [Ad h80];exact .inr ⟨_,rfl,.inr ⟨_,rfl,by simp,not_okText hlt (fun h=>by have:=h.1;omega)⟩⟩
     ·rw [Ac h80];unfold Ov L5;simp only [Aa,Al];by_cases h10:idxB l[k] 10 ≥ 0
      ·rw [Ad h10];exact .inr ⟨_,rfl,.inr ⟨_,rfl,by simp,not_okText hlt (fun h=>by have:=h.2;omega)⟩⟩
      ·rw [Ac h10,Br (by omega) (by omega),Aa]
       refine .inl ⟨_,rfl,⟨k+1,by omega,hlt,fun q hq hqk=>?_⟩,by omega⟩
       by_cases he:q=k
       ·subst he;exact ⟨by omega,by omega⟩
       ·exact hall q hq (by omega)
    ·rw [Ac (by omega)]
     refine .inr ⟨_,rfl,.inl ⟨rfl,by omega,fun s hs=>?_⟩⟩
     obtain ⟨q,hq,rfl⟩:=Ci hs;exact hall q hq (by omega)) 0 ⟨0,rfl,Cs _,fun q hq h=>absurd h (by omega)⟩
  rw [h1,Aa];rcases h2 with ⟨rfl,h⟩ | ⟨f,rfl,h,h'⟩
  ·exact ⟨_,rfl,.inl ⟨rfl,h⟩⟩
  ·exact ⟨_,rfl,.inr ⟨h,h'⟩⟩
theorem Om {f:Fault}:(!(decide (f.Code=0) && decide (f.Index=0)))=true↔¬ (f.Code=0∧f.Index=0):=by
 by_cases h:f.Code=0 <;> by_cases h':f.Index=0 <;> simp [h,h']
theorem strings_eq (a b:Ab) (hb:a.length≤1000000):D5 a b=some (decide (a=b)):=by
 unfold D5;rw [Lm];by_cases hl:(a.length:Int)=(b.length:Int)
 ·rw [Ad hl];have hl':a.length=b.length:=by omega
  obtain ⟨r,h1,h2⟩:=U5 (m:=fun s=>D5.l1 a b s) (fun s=>∃ k:Nat,s=(k:Int)∧k≤a.length∧a.take k=b.take k) (fun s=>a.length - s.toNat)
   (fun r=>(r=.inr ()∧a=b)∨(r=.inl false∧a≠b)) (by
    rintro s ⟨k,rfl,hk,hall⟩;unfold D5.l1;rw [Al];by_cases hlt:k < a.length
    ·rw [Ad (by omega),Bg hlt,Aa,Bg (by omega),Aa,Lm]
     by_cases he:a[k]=b[k]
     ·rw [Ad he,Br (by omega) (by omega),Aa]
      exact .inl ⟨_,rfl,⟨k+1,by omega,hlt,by rw [As hlt,As (by omega),hall,he]⟩,by omega⟩
     ·rw [Ac he];exact .inr ⟨_,rfl,.inr ⟨rfl,fun h=>he (by subst h;rfl)⟩⟩
    ·rw [Ac (by omega)]
     refine .inr ⟨_,rfl,.inl ⟨rfl,?_⟩⟩;rw [Cn (by omega),Cn (by omega)] at hall
     exact hall) 0 ⟨0,rfl,Cs _,by simp⟩
  rw [h1,Aa];rcases h2 with ⟨rfl,h⟩ | ⟨rfl,h⟩
  ·rw [Ag h]
  ·rw [Af h]
 ·rw [Ac hl,Af (fun h=>hl (by rw [h]))]
def orL {α:Type}:Option α→α ⊕ Unit
 | some x=>.inl x
 | Option.none=>.inr ()
theorem K9 {α:Type} {l r:List α} {x:α} {k:Nat} (h:l.drop k=x::r):∃ hk:k < l.length,l[k]=x∧l.drop (k+1)=r:=by
 have hk:k < l.length:=by
  rcases Ec k l.length with h' | h'
  ·exact h'
  ·rw [Lu h'] at h;cases h
 rw [Cq hk] at h;exact ⟨hk,(List.cons.inj h).1,(List.cons.inj h).2⟩
theorem Kt {α:Type} {l:List α} {k:Nat} (h:l.drop k=[]):l.length≤k:=by simpa using h
def hasNL (s:ByteArray):Bool:=s.data.toList.contains 10
theorem idxB_nl (s:ByteArray):decide (idxB s 10 ≥ 0)=hasNL s:=by
 unfold hasNL idxB;rw [Lib.contains_iff_indexByte];rfl
def tscan:Int→Ab→Option Fault
 | _,[]=>Option.none
 | i,s::r=>if s.size > 80 then some ⟨2,i⟩ else if hasNL s then some ⟨5,i⟩ else tscan (i+1) r
def B5 (l:Ab):Fault:=if l.length > 120 then ⟨2,-1⟩ else (tscan 0 l).getD ⟨0,0⟩
theorem Xz (l:Ab):Gm l=some (B5 l):=by
 unfold Gm B5;rw [Al];by_cases h120:l.length > 120
 ·rw [Ad (by omega),Ad h120]
 ·rw [Ac (by omega),Ac h120]
  have key:∀ (rest:Ab) (k:Nat),l.drop k=rest→C7 (fun s=>Gm.l1 l s) (k:Int)=some (orL (tscan k rest)):=by
   intro rest
   induction rest with
   | nil =>
    intro k hk;have:=Kt hk;refine Bm ?_;unfold Gm.l1;rw [Al,Ac (by omega)];rfl
   | cons s r ih =>
    intro k hk;obtain ⟨hlt,hs,hr⟩:=K9 hk
    have e1:Gm.l1 l (k:Int)=if s.size > 80 then some (Step.done (.inl ⟨2,(k:Int)⟩)) else if hasNL s then some (Step.done (.inl ⟨5,(k:Int)⟩)) else some (Step.next ((k:Int)+1)):=by
     unfold Gm.l1 Ov L5;simp (disch:=omega) only [Bg hlt,hs,Aa,Br,Ad,← idxB_nl,Bs];by_cases h:s.size > 80
     ·rw [Ad (by omega),Ad h]
     ·rw [Ac (by omega),Ac h]
    rw [tscan];by_cases h80:s.size > 80
    ·rw [Ad h80] at e1 ⊢;exact Bm e1
    ·rw [Ac h80] at e1 ⊢;cases hn:hasNL s with
     | true=>rw [hn,Ad rfl] at e1;exact Bm e1
     | false =>
      rw [hn,Ac (by decide)] at e1
      have:=ih (k+1) hr;rw [Bz e1];exact this
  have:=key l 0 rfl;simp only [Int.natCast_zero] at this;rw [show (0:Int)=((0:Nat):Int) from rfl] at *;rw [key l 0 rfl,Aa];cases tscan ((0:Nat):Int) l <;> rfl
theorem sAt_nat {s:ByteArray} {k:Nat} (h:k < s.size):sAt? s (k:Int)=some ((s[k].toNat:Nat):Int):=by
 unfold sAt?;rw [Ad (by omega)]
 simp [h]
theorem linesFault_f (l:Ab):Bp l=some (B5 l):=by
 unfold Bp B5 Bd;rw [Al];by_cases h120:l.length > 120
 ·rw [Ad (by omega),Ad h120];rfl
 ·rw [Ac (by omega),Ac h120]
  have key:∀ (rest:Ab) (k:Nat),l.drop k=rest→C7 (fun s=>Bp.l1 l s) (k:Int)=some (orL (tscan k rest)):=by
   intro rest
   induction rest with
   | nil =>
    intro k hk;have:=Kt hk;refine Bm ?_;unfold Bp.l1;rw [Al,Ac (by omega)];rfl
   | cons s r ih =>
    intro k hk;obtain ⟨hlt,hs,hr⟩:=K9 hk;rw [tscan];by_cases h80:s.size > 80
    ·rw [Ad h80];refine Bm ?_;unfold Bp.l1 Bd;simp (disch:=omega) only [Al,Bg hlt,hs,Aa,Ad];rfl
    ·rw [Ac h80]
     have inner:∀ (tail:List UInt8) (j:Nat),s.data.toList.drop j=tail→C7 (fun q=>Bp.l2 l (k:Int) q) (j:Int)=some (orL (if tail.contains 10 then some ⟨5,(k:Int)⟩ else Option.none)):=by
      intro tail
      induction tail with
      | nil =>
       intro j hj;have:s.data.toList.length≤j:=Kt hj;have hsz:s.data.toList.length=s.size:=by rw [Array.length_toList];rfl
       refine Bm ?_;unfold Bp.l2;simp (disch:=omega) only [Al,Bg hlt,hs,Aa,Ac];rfl
      | cons c tl ih2 =>
       intro j hj;obtain ⟨hj1,hc,htl⟩:=K9 hj;have hsz:s.data.toList.length=s.size:=by rw [Array.length_toList];rfl
       have hcc:s[j]'(by omega)=c:=by rw [← hc];rfl
       have e2:Bp.l2 l (k:Int) (j:Int)=if c=10 then some (Step.done (.inl ⟨5,(k:Int)⟩)) else some (Step.next ((j:Int)+1)):=by
        unfold Bp.l2 Bd;simp (disch:=omega) only [Al,Bg hlt,hs,Aa,Ad,sAt_nat,hcc,Br];by_cases h10:c=10
        ·rw [Ad h10,Ad (by rw [h10];rfl)]
        ·rw [Ac h10,Ac (fun h=>h10 (by
          have:c.toNat=10:=by omega
          exact UInt8.toNat_inj.1 this))]
       by_cases h10:c=10
       ·rw [Ad h10] at e2;rw [Bm e2,h10];simp [orL]
       ·rw [Ac h10] at e2;rw [Bz e2]
        have hcn:(c::tl).contains 10=tl.contains 10:=by
         simp;exact fun h=>absurd h.symm h10
        rw [hcn];exact ih2 (j+1) htl
     have e0:=inner s.data.toList 0 rfl
     have e1:Bp.l1 l (k:Int)=if hasNL s then some (Step.done (.inl ⟨5,(k:Int)⟩)) else some (Step.next ((k:Int)+1)):=by
      unfold Bp.l1 Bp.j3 Bp.j2;rw [show (0:Int)=((0:Nat):Int) from rfl,e0];simp (disch:=omega) only [Al,Bg hlt,hs,Aa,Ad,Ac,Br];unfold hasNL;cases s.data.toList.contains 10 <;> rfl
     cases hn:hasNL s with
     | true=>rw [hn,Ad rfl] at e1;exact Bm e1
     | false =>
      rw [hn,Ac (by decide)] at e1
      rw [Bz e1];exact ih (k+1) hr
  rw [show (0:Int)=((0:Nat):Int) from rfl,key l 0 rfl,Aa];cases tscan ((0:Nat):Int) l <;> rfl
theorem Nz (l:Ab):Dl l=some (B5 l).Code:=by
 unfold Dl;rw [linesFault_f];rfl
theorem tscan_code:∀ (l:Ab) (i:Int) (f:Fault),tscan i l=some f→f.Code≠0
 | [],_,_,h=>by cases h
 | s::r,i,f,h=>by
  rw [tscan] at h;split at h
  ·cases h;show (2:Int)≠0;decide
  ·split at h
   ·cases h;show (5:Int)≠0;decide
   ·exact tscan_code r _ f h
theorem Qy (l:Ab):B5 l=⟨0,0⟩∨(B5 l).Code≠0:=by
 unfold B5;split
 ·right;decide
 ·cases h:tscan 0 l with
  | none=>left;rfl
  | some f=>right;exact tscan_code l 0 f h
theorem Er (l:Ab):B5 l=⟨0,0⟩↔(B5 l).Code=0:=by
 rcases Qy l with h | h
 ·rw [h];exact ⟨fun _=>rfl,fun _=>rfl⟩
 ·constructor
  ·intro h2;rw [h2]
  ·intro h2;exact absurd h2 h
theorem Hr (l:Ab):Kb l↔B5 l=⟨0,0⟩:=by
 obtain ⟨f,h1,h2⟩:=validate_eq l;rw [Xz] at h1;cases h1;rcases h2 with ⟨h3,h4⟩ | ⟨h3,h4⟩
 ·exact ⟨fun _=>h3,fun _=>h4⟩
 ·exact ⟨fun h=>absurd h h4,fun h=>absurd (by rw [h]) h3⟩
theorem second_f (l:Ab) (i:Int):M8 l i=some (if (B5 l).Code=0 then ⟨0,0⟩ else ⟨(B5 l).Code,i⟩):=by
 unfold M8;rw [Xz,Aa];rcases Qy l with h | h
 ·rw [h];rfl
 ·rw [Ad (Om.2 fun h2=>h h2.1),Ac h]
theorem okText_small {a b:Ab} (ha:Kb a) (hb:Kb b):(a.length+1) * (b.length+1) * 8≤140737488355328:=by
 have h1:a.length+1≤121:=by have:=ha.1;omega
 have h2:b.length+1≤121:=by have:=hb.1;omega
 have:=Tt h1 h2;omega
theorem Zp:∀ a b:Ab,lcs a b=lcs b a
 | [],b=>by rw [lcs_nil_l,Xn]
 | _::_,[]=>by rw [lcs_nil_l,Xn]
 | x::a,y::b=>by
  rw [Yh,Yh,Zp a b,Zp a (y::b),Zp (x::a) b];by_cases h:x=y
  ·subst h;simp
  ·rw [Ac h,Ac (fun e=>h e.symm),Nat.max_comm]
 termination_by a b=>a.length+b.length
end Go.Dc
set_option linter.unusedSimpArgs false
set_option linter.unusedVariables false
set_option maxRecDepth 4000
namespace Go.Dc
open Go
theorem orB (b c:Bool):(if b=true then some true else some c)=some (b || c):=by cases b <;> rfl
theorem andB (b c:Bool):(if b=true then some c else some false)=some (b && c):=by cases b <;> rfl
def bts (s:ByteArray):List UInt8:=s.data.toList
def str (l:List UInt8):ByteArray:=⟨l.toArray⟩
theorem Q1 (s:ByteArray):(bts s).length=s.size:=rfl
@[simp] theorem bts_str (l : List UInt8) : bts (str l) = l := by simp [bts, str]
@[simp] theorem str_bts (s : ByteArray) : str (bts s) = s := by cases s; simp [bts, str]
@[simp] theorem Te (l : List UInt8) : (str l).size = l.length := by rw [← Q1, bts_str]
theorem str_inj {a b:List UInt8} (h:str a=str b):a=b:=by rw [← bts_str a,h,bts_str]
theorem str_dec (a b:List UInt8):decide (str a=str b)=decide (a=b):=Ch.2 ⟨str_inj,fun h=>by rw [h]⟩
theorem bts_inj {a b:ByteArray} (h:bts a=bts b):a=b:=by rw [← str_bts a,h,str_bts]
theorem sAt_str {l:List UInt8} {k:Nat} (h:k < l.length):sAt? (str l) (k:Int)=some ((l[k].toNat:Nat):Int):=by
 have hk:k < (str l).size:=by rw [Te];exact h
 have:(str l)[k]=l[k]:=by simp [str];rfl
 rw [sAt_nat hk,this];rfl
theorem scut_str {l:List UInt8} {i j:Nat} (h1:i≤j) (h2:j≤l.length):scut? (str l) (i:Int) (j:Int)=some (str ((l.take j).drop i)):=by
 unfold scut?;rw [Ad (by rw [Te];omega)]
 congr 1;refine ByteArray.ext ?_;rw [ByteArray.data_extract];refine Array.toList_inj.1 ?_;rw [Array.toList_extract];simp [List.extract_eq_take_drop,str,List.drop_take]
def letB (c:UInt8):Bool:=(decide (97≤c.toNat) && decide (c.toNat≤122)) || (decide (65≤c.toNat) && decide (c.toNat≤90)) || (decide (48≤c.toNat) && decide (c.toNat≤57)) || decide (c.toNat=46) || decide (c.toNat=95) || decide (c.toNat=45)
theorem letB_slash:letB 47=false:=by decide
theorem letter_f (c:UInt8):M3 ((c.toNat:Nat):Int)=some (letB c):=by
 unfold M3 letB;generalize c.toNat=n;simp only [orB,andB,Aa]
 rw [show decide ((n:Int) ≥ 97)=decide (97≤n) from Ch.2 (by omega),show decide ((n:Int)≤122)=decide (n≤122) from Ch.2 (by omega),
  show decide ((n:Int) ≥ 65)=decide (65≤n) from Ch.2 (by omega),show decide ((n:Int)≤90)=decide (n≤90) from Ch.2 (by omega),
  show decide ((n:Int) ≥ 48)=decide (48≤n) from Ch.2 (by omega),show decide ((n:Int)≤57)=decide (n≤57) from Ch.2 (by omega),
  show decide ((n:Int)=46)=decide (n=46) from Ch.2 (by omega),show decide ((n:Int)=95)=decide (n=95) from Ch.2 (by omega),
  show decide ((n:Int)=45)=decide (n=45) from Ch.2 (by omega)]
theorem pathByte_f (c:UInt8):Nc ((c.toNat:Nat):Int)=some (letB c):=letter_f c
def badP (p:List UInt8):Bool:=decide (p=[]) || decide (p=[46]) || decide (p=[46,46])
def Xv (p:List UInt8):Bool:=!badP p && p.all letB
def vp:List UInt8→List UInt8→Bool
 | cur,[]=>Xv cur
 | cur,c::r=>if c=47 then Xv cur && vp [] r else vp (cur++[c]) r
def Kq (s:ByteArray):Bool:=decide (s.size≤60) && vp [] (bts s)
theorem vp_span:∀ (l cur:List UInt8),vp cur l=match l.dropWhile (· != 47) with
  | []=>Xv (cur++l.takeWhile (· != 47))
  | _::r=>Xv (cur++l.takeWhile (· != 47)) && vp [] r
 | [],cur=>by simp [vp]
 | c::r,cur=>by
  rw [vp];by_cases h:c=47
  ·subst h;rw [Ad rfl];simp [List.dropWhile_cons,List.takeWhile_cons]
  ·rw [Ac h,vp_span r (cur++[c])];have:(c != 47)=true:=by simpa using h
   rw [List.dropWhile_cons,List.takeWhile_cons,this,Ad rfl,Ad rfl,Am,List.singleton_append]
theorem vp_app:∀ (a k b:List UInt8),vp k (a++47::b)=(vp k a && vp [] b)
 | [],k,b=>by simp [vp]
 | c::a,k,b=>by
  rw [List.cons_append,vp,vp];by_cases h:c=47
  ·rw [Ad h,Ad h,vp_app a [] b,Bool.and_assoc]
  ·rw [Ac h,Ac h,vp_app a _ b]
theorem vp_no:∀ (l k:List UInt8),l.all letB=true→vp k l=Xv (k++l)
 | [],k,_=>by simp [vp]
 | c::l,k,h=>by
  simp only [List.all_cons,Cv] at h;have hc:¬ c=47:=fun e=>by rw [e,letB_slash] at h;exact absurd h.1 (by decide)
  rw [vp,Ac hc,vp_no l _ h.2,Am,List.singleton_append]
theorem vp_cur:∀ (l k:List UInt8),k.all letB=false→vp k l=false
 | [],k,h=>by simp [vp,Xv,h]
 | c::l,k,h=>by
  rw [vp];split
  ·simp [Xv,h]
  ·exact vp_cur l _ (by simp [h])
theorem vp_bad:∀ (a k b:List UInt8) (c:UInt8),c≠47→letB c=false→vp k (a++c::b)=false
 | [],k,b,c,h1,h2=>by
  rw [A8,vp,Ac h1];exact vp_cur b _ (by simp [h2])
 | d::a,k,b,c,h1,h2=>by
  rw [List.cons_append,vp];split
  ·rw [vp_bad a [] b c h1 h2,Bool.and_false]
  ·exact vp_bad a _ b c h1 h2
theorem letters_f {f:Int→Option (Step Int (Unit ⊕ Unit))} {l:List UInt8} (hl:l.length≤1000)
  (hf:∀ x,f x=if decide (x < ((str l).size:Int))=true then (sAt? (str l) x).bind fun y1=>(M3 y1).bind fun y2=>if (!y2)=true then some (Step.done (Sum.inl ())) else (ckK .i64 (x+1)).bind fun z1=>some (Step.next z1) else some (Step.done (Sum.inr ()))) :
  C7 (fun s=>f s) 0=some (if l.all letB=true then .inr () else .inl ()):=by
 have key:∀ (r:List UInt8) (k:Nat),l.drop k=r→C7 (fun s=>f s) (k:Int)=some (if r.all letB=true then .inr () else .inl ()):=by
  intro r
  induction r with
  | nil =>
   intro k hk;have:=Kt hk;refine Bm ?_;rw [hf,Al,Ac (by rw [Te];omega)];rfl
  | cons c r ih =>
   intro k hk;obtain ⟨hlt,hc,hr⟩:=K9 hk
   have e:f (k:Int)=if letB c=true then some (Step.next ((k:Int)+1)) else some (Step.done (.inl ())):=by
    rw [hf,Al,Ad (by rw [Te];omega),sAt_str hlt,Aa,hc,letter_f,Aa]
    cases letB c
    ·rfl
    ·rw [Ac (by decide),Br (by omega) (by omega)];rfl
   cases h:letB c with
   | false =>
    rw [h,Ac (by decide)] at e
    rw [Bm e];simp [h]
   | true =>
    rw [h,Ad rfl] at e;rw [Bz e,show ((k:Int)+1)=((k+1:Nat):Int) from rfl,ih (k+1) hr];simp [h]
 exact key l 0 rfl
theorem bad_f (p:List UInt8):((if decide (str p=(⟨#[]⟩:ByteArray)) then some true else some (decide (str p=(⟨#[46]⟩:ByteArray)))).bind fun x2 =>
  (if x2 then some true else some (decide (str p=(⟨#[46,46]⟩:ByteArray)))))=some (badP p):=by
 rw [show (⟨#[]⟩:ByteArray)=str [] from rfl,show (⟨#[46]⟩:ByteArray)=str [46] from rfl,show (⟨#[46,46]⟩:ByteArray)=str [46,46] from rfl];simp only [orB,Aa,str_dec];rfl
theorem badK_f (p:List UInt8) {β:Type} (K:Bool→Option β):((if decide (str p=(⟨#[]⟩:ByteArray)) then some true else some (decide (str p=(⟨#[46]⟩:ByteArray)))).bind fun x2 =>
  (if x2 then some true else some (decide (str p=(⟨#[46,46]⟩:ByteArray)))).bind K)=K (badP p):=by
 have:=bad_f p;rw [← Option.bind_assoc,this,Aa]
theorem vj1_f {p:List UInt8} (hp:p.length≤1000):Bc.j1 (str p)=some (Xv p):=by
 unfold Bc.j1;rw [badK_f];cases h:badP p with
 | true=>simp [Xv,h,Bc.j2]
 | false =>
  rw [Ac (by decide),letters_f (f:=fun x=>Bc.l1 (str p) x) hp (fun x=>rfl),Aa]
  unfold Xv;rw [h];cases p.all letB <;> rfl
theorem idx_f (l:List UInt8):Lib.indexByte l 47=match l.dropWhile (· != 47) with
  | []=>-1
  | _::_=>((l.takeWhile (· != 47)).length:Int):=by
 induction l with
 | nil=>rfl
 | cons c r ih =>
  unfold Lib.indexByte;by_cases h:c=47
  ·subst h;simp [List.dropWhile_cons,List.takeWhile_cons]
  ·have h2:(c != 47)=true:=by simpa using h
   rw [List.dropWhile_cons,List.takeWhile_cons,h2,Ad rfl,Ad rfl];have h3:(c == 47)=false:=by simpa using h
   rw [ih];cases hd:r.dropWhile (· != 47) with
   | nil=>simp [h3,h]
   | cons a b=>simp [h3,h] <;> omega
theorem index_f (l:List UInt8):Vt (str l)=some (Lib.indexByte l 47):=by
 unfold Vt T7;rw [Al];by_cases h:(⟨#[47]⟩:ByteArray)=str l
 ·rw [Ad h];have:l=[47]:=(str_inj (a:=[47]) (b:=l) h).symm;subst this;rfl
 ·rw [Ac h];show (some (idxB (str l) 47)).bind _=_;unfold idxB;rw [show (str l).data.toList=l from bts_str l];rfl
noncomputable def outV:Bool ⊕ ByteArray→Option Bool:=fun r=>match r with
 | .inl p=>some p
 | .inr p=>Bc.j1 p
theorem vp_iter:∀ (n:Nat) (l:List UInt8),l.length < n→l.length≤60→(C7 (fun s=>Bc.l2 s) (str l)).bind outV=some (vp [] l)
 | 0,_,h,_=>absurd h (by omega)
 | n+1,l,hn,hl=>by
  have hi:=idx_f l;have hs:=vp_span l [];have htd:l.takeWhile (· != 47)++l.dropWhile (· != 47)=l:=List.takeWhile_append_dropWhile;have e:Bc.l2 (str l)=Bc.l2 (str l):=rfl
  conv at e=>rhs;unfold Bc.l2
  rw [index_f,Aa] at e;simp only [A8] at hs;generalize ha:l.takeWhile (· != 47)=a at hi hs htd;cases hd:l.dropWhile (· != 47) with
  | nil =>
   rw [hd] at hi hs htd;simp only at hi hs;simp only [Bh] at htd;rw [hi,Ad (by decide)] at e
   rw [Bm e,Aa,hs];rw [htd];exact vj1_f (by omega)
  | cons c r =>
   rw [hd] at hi hs htd
   have hc:c=47:=by
    have:=List.head?_dropWhile_not (fun x:UInt8=>x != 47) l;rw [hd] at this;simpa using this
   subst hc;simp only at hi hs;have hlen:a.length+r.length+1=l.length:=by rw [← htd];simp;omega
   have hcut:scut? (str l) 0 (a.length:Int)=some (str a):=by
    have:=scut_str (l:=l) (i:=0) (j:=a.length) (by omega) (by omega)
    rw [show ((0:Nat):Int)=0 from rfl] at this;rw [this,← htd];simp
   rw [hi,Al,Ac (by omega),Int.add_zero,Br (by omega) (by omega),Aa,hcut,Aa,badK_f] at e
   unfold Xv at hs;cases hb:badP a with
   | true =>
    rw [hb] at e hs;rw [Ad rfl] at e;rw [Bm (show _=some (Step.done (Sum.inl false)) from e),hs];rfl
   | false =>
    rw [hb] at e hs;rw [Ac (by decide),letters_f (f:=fun x=>Bc.l3 (str a) x) (by omega) (fun x=>rfl),Aa] at e
    cases hq:a.all letB with
    | false =>
     rw [hq] at e hs;rw [Bm (show _=some (Step.done (Sum.inl false)) from e),hs];rfl
    | true =>
     rw [hq] at e hs
     have hcut2:scut? (str l) ((a.length:Int)+1) ((str l).size:Int)=some (str r):=by
      have:=scut_str (l:=l) (i:=a.length+1) (j:=l.length) (by omega) (by omega)
      rw [Te];rw [show (((a.length+1:Nat)):Int)=(a.length:Int)+1 from rfl] at this;rw [this,Bw,← htd];simp
     simp only [Ad rfl,Bc.j7,Bc.j6] at e;rw [Br (by omega) (by omega),Aa,hcut2,Aa] at e
     rw [Bz e,vp_iter n r (by omega) (by omega),hs];rfl
theorem ValidPath_f (s:ByteArray):Bc s=some (Kq s):=by
 unfold Bc Kq;rw [Al];by_cases h:s.size≤60
 ·rw [Ac (by omega)]
  have:=vp_iter ((bts s).length+1) (bts s) (by omega) (by rw [Q1];exact h)
  rw [str_bts] at this;rw [Ag h,Bool.true_and];exact this
 ·rw [Ad (by omega),Af h];rfl
noncomputable def outR:Bool ⊕ Unit→Option Bool:=fun r=>match r with
 | .inl p=>some p
 | .inr _=>B2.j1
theorem rv_iter:∀ (n:Nat) (l cur suf:List UInt8) (s:List UInt8),l.length=n→s=l++cur++suf→s.length≤60→cur.all letB=true →
  (C7 (fun x=>B2.l1 (str s) x.1 x.2) ((l.length:Int) - 1,((l.length+cur.length:Nat):Int))).bind outR=some (vp [] (l++cur))
 | 0,l,cur,suf,s,hn,hs,hl,hc=>by
  obtain rfl:l=[]:=Db hn;simp only [A8] at hs;have hlen:s.length=cur.length+suf.length:=by rw [hs];simp
  have hcut:scut? (str s) 0 ((cur.length:Nat):Int)=some (str cur):=by
   have:=scut_str (l:=s) (i:=0) (j:=cur.length) (by omega) (by omega)
   rw [show ((0:Nat):Int)=0 from rfl] at this;rw [this,hs];simp
  have e:B2.l1 (str s) (-1) ((cur.length:Nat):Int)=if badP cur=true then some (Step.done (Sum.inl false)) else some (Step.next (-2,-1)):=by
   simp only [B2.l1];rw [Ad (by decide),Ac (by decide),Aa,Ac (by decide),show ((-1:Int)+1)=0 from rfl,Br (by omega) (by omega),Aa,hcut,Aa,badK_f]
   cases badP cur
   ·rfl
   ·rfl
  have hv:=vp_no cur [] hc;rw [A8] at hv ⊢;rw [hv];simp only [Ey,Gc];rw [show (((0:Nat):Int) - 1) = -1 from rfl];unfold Xv;rw [hc,Bool.and_true];cases hb:badP cur with
  | true =>
   rw [hb,Ad rfl] at e;rw [Bm e];rfl
  | false =>
   rw [hb,Ac (by decide)] at e
   have e2:B2.l1 (str s) (-2) (-1)=some (Step.done (Sum.inr ())):=by
    simp only [B2.l1];rw [Ac (by decide)]
   rw [Bz e,Bm e2];rfl
 | n+1,l,cur,suf,s,hn,hs,hl,hc=>by
  obtain ⟨l',c,rfl⟩:∃ l' c,l=l'++[c]:=by
   rcases Ld l with h | ⟨a,b,h⟩
   ·rw [h] at hn;simp at hn
   ·exact ⟨a,b,by simpa using h⟩
  simp only [Aj,Ak] at hn ⊢;have hs2:s=l'++c::(cur++suf):=by rw [hs];simp
  have hlen:s.length=l'.length+1+cur.length+suf.length:=by rw [hs];simp;omega
  have hat:sAt? (str s) ((l'.length:Nat):Int)=some ((c.toNat:Nat):Int):=by
   rw [sAt_str (by omega)]
   congr 2;simp [hs2]
  have hx:(((l'.length+1:Nat)):Int) - 1=((l'.length:Nat):Int):=by omega
  rw [hx];have k47:decide (((c.toNat:Nat):Int)=47)=decide (c=47):=Ch.2 ⟨fun h=>UInt8.toNat_inj.1 (by have:(47:UInt8).toNat=47:=rfl;omega),fun h=>by rw [h];rfl⟩
  by_cases h47:c=47
  ·
   have hcut:scut? (str s) ((l'.length:Int)+1) (((l'.length+1+cur.length:Nat)):Int)=some (str cur):=by
    have:=scut_str (l:=s) (i:=l'.length+1) (j:=l'.length+1+cur.length) (by omega) (by omega)
    rw [show (((l'.length+1:Nat)):Int)=(l'.length:Int)+1 from rfl] at this;have hs3:s=(l'++[c])++(cur++suf):=by rw [hs];simp
    rw [this,hs3,List.drop_take,List.drop_left' (by simp),show l'.length+1+cur.length - (l'.length+1)=cur.length by omega,List.take_left' rfl]
   have e:B2.l1 (str s) ((l'.length:Nat):Int) (((l'.length+1+cur.length:Nat)):Int)=if badP cur=true then some (Step.done (Sum.inl false)) else some (Step.next ((l'.length:Int) - 1,(l'.length:Int))):=by
    simp only [B2.l1];rw [Al,Ad (by omega),Al,Ad (by omega),hat,Aa,k47,Ag h47]
    simp only [Ct,Aa];rw [Ac (by decide),Br (by omega) (by omega),Aa,hcut,Aa,badK_f]
    cases badP cur
    ·rw [Ac (by decide),Ac (by decide)]
     unfold B2.j2;rw [Br (by omega) (by omega)];rfl
    ·rfl
   have hv:vp [] (l'++[c]++cur)=(vp [] l' && !badP cur):=by
    rw [Am,List.singleton_append,h47,vp_app,vp_no cur [] hc];unfold Xv;rw [A8,hc,Bool.and_true]
   rw [hv];cases hb:badP cur with
   | true =>
    rw [hb,Ad rfl] at e;rw [Bm e];simp [outR]
   | false =>
    rw [hb,Ac (by decide)] at e
    rw [Bz e];have ih:=rv_iter n l' [] (c::(cur++suf)) s (by omega) (by rw [hs2];simp) hl rfl
    simp only [Ey,Eg,Bh] at ih;rw [ih];simp
  ·
   have e:B2.l1 (str s) ((l'.length:Nat):Int) (((l'.length+1+cur.length:Nat)):Int)=if letB c=true then some (Step.next ((l'.length:Int) - 1,(((l'.length+1+cur.length:Nat)):Int))) else some (Step.done (Sum.inl false)):=by
    simp only [B2.l1];rw [Al,Ad (by omega),Al,Ad (by omega),hat,Aa,k47,Af h47]
    simp only [Bool.not_false,Aa];rw [Ad trivial,pathByte_f,Aa];cases letB c
    ·rfl
    ·rw [Ac (by decide),Ad rfl]
     unfold B2.j2;rw [Br (by omega) (by omega)];rfl
   cases hb:letB c with
   | false =>
    rw [hb,Ac (by decide)] at e
    rw [Bm e,Am,List.singleton_append,vp_bad l' [] cur c h47 hb];rfl
   | true =>
    rw [hb,Ad rfl] at e;rw [Bz e];have ih:=rv_iter n l' (c::cur) suf s (by omega) (by rw [hs2];simp) hl (by simp [hb,hc])
    rw [show l'.length+(c::cur).length=l'.length+1+cur.length by simp;omega] at ih
    rw [ih];simp
theorem PathValid_f (s:ByteArray):B2 s=some (Kq s):=by
 unfold B2 Kq;rw [Al];by_cases h:s.size≤60
 ·rw [Ac (by omega),Br (by omega) (by omega),Aa]
  have:=rv_iter (bts s).length (bts s) [] [] (bts s) rfl (by simp) (by rw [Q1];exact h) rfl
  rw [str_bts] at this;simp only [Ey,Eg,Bh,Q1] at this;rw [Ag h,Bool.true_and];exact this
 ·rw [Ad (by omega),Af h];rfl
theorem Mu {s:ByteArray} (h:Kq s=true):s.size≤60:=by
 unfold Kq at h;simp only [Cv,Bs] at h;exact h.1
def slb (x y:List UInt8):Bool:=decide (y.take (x.length+1)=x++[47])
def Oc (a b:ByteArray):Bool:=decide (a=b) || slb (bts b) (bts a) || slb (bts a) (bts b)
theorem relB_comm (a b:ByteArray):Oc a b=Oc b a:=by
 unfold Oc;rw [show decide (a=b)=decide (b=a) from Ch.2 eq_comm,Bool.or_assoc,Bool.or_assoc,Bool.or_comm (slb (bts b) (bts a))]
theorem relB_self (a:ByteArray):Oc a a=true:=by simp [Oc]
theorem hasPrefix_f (s p:List UInt8):Nq (str s) (str p)=some (decide (s.take p.length=p)):=by
 unfold Nq Ob;rw [Al];by_cases h:p.length≤s.length
 ·have hc:=scut_str (l:=s) (i:=0) (j:=p.length) (by omega) h
  rw [show ((0:Nat):Int)=0 from rfl,List.drop_zero] at hc;rw [Ad (by rw [Te,Te];omega),Te,hc]
  simp only [Aa,str_dec]
 ·rw [Ac (by rw [Te,Te];omega)]
  have:¬ s.take p.length=p:=fun e=>by
   have:=congrArg List.length e;simp at this;omega
  rw [Af this];rfl
theorem cat_str {a b:List UInt8} (h:a.length+b.length≤9223372036854775807):cat? (str a) (str b)=some (str (a++b)):=by
 unfold cat?;rw [Ad (by rw [Te,Te];exact h)]
 refine congrArg some (bts_inj ?_);rw [bts_str];show (str a++str b).data.toList=a++b;rw [ByteArray.data_append];simp [str]
theorem Related_f {a b:ByteArray} (ha:a.size≤1000000) (hb:b.size≤1000000):L1 a b=some (Oc a b):=by
 have h1:=cat_str (a:=bts b) (b:=[47]) (by rw [Q1];simp;omega)
 have h2:=cat_str (a:=bts a) (b:=[47]) (by rw [Q1];simp;omega)
 have g1:=hasPrefix_f (bts a) (bts b++[47]);have g2:=hasPrefix_f (bts b) (bts a++[47]);rw [str_bts] at h1 h2 g1 g2;unfold L1;rw [show (⟨#[47]⟩:ByteArray)=str [47] from rfl,h1,h2];simp only [Aa];rw [g1,g2];simp only [Aa,orB];unfold Oc slb;simp
theorem rrel_body {a b:ByteArray} (h:a.size≤b.size) (rec:ByteArray→ByteArray→Option Bool):Cb.body rec a b=some (Oc a b):=by
 unfold Cb.body;have hc:=scut_str (l:=bts b) (i:=0) (j:=a.size) (by omega) (by rw [Q1];exact h)
 rw [show ((0:Nat):Int)=0 from rfl,List.drop_zero,str_bts] at hc;rw [Al,Ac (by omega),hc,Aa]
 have hn:slb (bts b) (bts a)=false:=by
  unfold slb;refine Af fun e=>?_;have:=congrArg List.length e;simp [Q1] at this;omega
 unfold Oc;rw [hn,N2];have hd:decide (str ((bts b).take a.size)=a)=decide ((bts b).take a.size=bts a):=Ch.2 ⟨fun h=>by have:=congrArg bts h;rwa [bts_str] at this,fun h=>by rw [h,str_bts]⟩
 rw [hd,Al];by_cases ht:(bts b).take a.size=bts a
 ·rw [Ad ht,Al];by_cases hsz:a.size=b.size
  ·rw [Ad (by omega)]
   have:a=b:=bts_inj (by rw [← ht,hsz,← Q1,Bw])
   rw [Ag this];rfl
  ·rw [Ac (by omega)]
   have hlt:a.size < (bts b).length:=by rw [Q1];omega
   have hat:=sAt_str hlt;rw [str_bts] at hat;rw [hat];have hne:¬ a=b:=fun e=>hsz (by rw [e])
   rw [Af hne,Ki];simp only [Aa];unfold slb;congr 1;refine Ch.2 ?_;rw [Q1,As hlt,ht];constructor
   ·intro h;rw [show (bts b)[a.size]=47 from UInt8.toNat_inj.1 (by have:(47:UInt8).toNat=47:=rfl;omega)]
   ·intro h;have:=List.append_cancel_left h;simp at this;rw [this];rfl
 ·rw [Ac ht];have h1:¬ a=b:=fun e=>ht (by rw [e,← Q1,Bw])
  have h2:slb (bts a) (bts b)=false:=by
   unfold slb;refine Af fun e=>ht ?_;have:=congrArg (List.take a.size) e;rw [List.take_take,Q1,Nat.min_eq_left (by omega),Cm (by rw [Q1];omega)] at this
   rw [this,← Q1,Bw]
  rw [Af h1,h2];rfl
theorem Z2 (a b:ByteArray):Cb a b=some (Oc a b):=by
 unfold Cb Cb.m;by_cases h:a.size≤b.size
 ·exact rrel_body h _
 ·unfold Cb.body;rw [Al,Ad (by omega)]
  unfold Cb.m;rw [rrel_body (by omega),Aa,relB_comm]
theorem bl_irr:∀ x:List UInt8,Op.bytesLess x x=false
 | []=>rfl
 | a::x=>by simp [Op.bytesLess,bl_irr x,UInt8.lt_irrefl]
theorem bl_tri:∀ x y:List UInt8,Op.bytesLess x y=true∨x=y∨Op.bytesLess y x=true
 | [],[]=>.inr (.inl rfl)
 | [],_::_=>.inl rfl
 | _::_,[]=>.inr (.inr rfl)
 | a::x,b::y=>by
  simp only [Op.bytesLess,Gd,Bs,Cv,beq_iff_eq]
  have h0:a=b∨a < b∨b < a:=by
   by_cases h:a=b
   ·exact .inl h
   ·exact .inr (UInt8.lt_or_lt_of_ne h)
  rcases h0 with h | h | h
  ·subst h;rcases bl_tri x y with h | h | h
   ·exact .inl (.inr ⟨rfl,h⟩)
   ·exact .inr (.inl (by rw [h]))
   ·exact .inr (.inr (.inr ⟨rfl,h⟩))
  ·exact .inl (.inl h)
  ·exact .inr (.inr (.inl h))
theorem bl_trans:∀ {x y z:List UInt8},Op.bytesLess x y=true→Op.bytesLess y z=true→Op.bytesLess x z=true
 | x,[],z,h1,h2=>by cases x <;> cases h1
 | x,b::y,[],h1,h2=>by cases h2
 | [],b::y,c::z,h1,h2=>rfl
 | a::x,b::y,c::z,h1,h2=>by
  simp only [Op.bytesLess,Gd,Bs,Cv,beq_iff_eq] at h1 h2 ⊢;rcases h1 with h1 | ⟨rfl,h1⟩
  ·rcases h2 with h2 | ⟨rfl,h2⟩
   ·exact .inl (UInt8.lt_trans h1 h2)
   ·exact .inl h1
  ·rcases h2 with h2 | ⟨rfl,h2⟩
   ·exact .inl h2
   ·exact .inr ⟨rfl,bl_trans h1 h2⟩
theorem cmp_neg:∀ x y:List UInt8,decide (Lib.compareBytes x y < 0)=Op.bytesLess x y
 | [],[]=>rfl
 | [],_::_=>rfl
 | _::_,[]=>rfl
 | a::x,b::y=>by
  unfold Lib.compareBytes Op.bytesLess;by_cases h:a < b
  ·simp [h]
  ·by_cases h2:b < a
   ·have:¬ a=b:=by intro e;subst e;exact h h2
    simp [h,h2,this]
   ·have:a=b:=UInt8.le_antisymm (UInt8.not_lt.1 h2) (UInt8.not_lt.1 h);subst this;simp only [h,Cg,decide_false,Ki,beq_self_eq_true,Bool.true_and];exact cmp_neg x y
theorem cmp_zero:∀ x y:List UInt8,(Lib.compareBytes x y=0)↔x=y
 | [],[]=>by simp [Lib.compareBytes]
 | [],_::_=>by simp [Lib.compareBytes]
 | _::_,[]=>by simp [Lib.compareBytes]
 | a::x,b::y=>by
  unfold Lib.compareBytes;by_cases h:a < b
  ·have:¬ a=b:=by intro e;subst e;exact UInt8.lt_irrefl _ h
   simp [h,this]
  ·by_cases h2:b < a
   ·have:¬ a=b:=by intro e;subst e;exact h h2
    simp [h,h2,this]
   ·have:a=b:=UInt8.le_antisymm (UInt8.not_lt.1 h2) (UInt8.not_lt.1 h);subst this;simp only [h,Cg,List.cons.injEq,true_and];exact cmp_zero x y
theorem sLt_bts (a b:ByteArray):sLt a b=Op.bytesLess (bts a) (bts b):=by
 unfold sLt;rw [Zi,Zi];rfl
theorem Qz (a:ByteArray):sLt a a=false:=by rw [sLt_bts];exact bl_irr _
theorem sLt_tri (a b:ByteArray):sLt a b=true∨a=b∨sLt b a=true:=by
 rw [sLt_bts,sLt_bts];rcases bl_tri (bts a) (bts b) with h | h | h
 ·exact .inl h
 ·exact .inr (.inl (bts_inj h))
 ·exact .inr (.inr h)
theorem Xx {a b c:ByteArray} (h1:sLt a b=true) (h2:sLt b c=true):sLt a c=true:=by
 rw [sLt_bts] at *;exact bl_trans h1 h2
theorem Qj {a b:ByteArray} (h:sLt a b=true):sLt b a=false:=by
 cases h2:sLt b a
 ·rfl
 ·have:=Xx h h2;rw [Qz] at this;cases this
theorem sLt_ne {a b:ByteArray} (h:sLt a b=true):a≠b:=by intro e;subst e;rw [Qz] at h;cases h
theorem cmpB_neg (a b:ByteArray):decide (cmpB a b < 0)=sLt a b:=by rw [sLt_bts];exact cmp_neg _ _
theorem cmpB_zero (a b:ByteArray):decide (cmpB a b=0)=decide (a=b):=Ch.2 ⟨fun h=>bts_inj ((cmp_zero _ _).1 h),fun h=>(cmp_zero _ _).2 (by rw [h])⟩
def Mq (l:Ai):Prop:=l.Pairwise fun f g=>sLt f.Path g.Path=true
def H9 (l:Ai) (p:ByteArray):Nat:=(l.takeWhile fun f=>sLt f.Path p).length
def Lb (l:Ai) (p:ByteArray):Bool:=l.any fun f=>decide (f.Path=p)
theorem pos_le (l:Ai) (p:ByteArray):H9 l p≤l.length:=by
 unfold H9;exact (List.takeWhile_prefix _).length_le
theorem pos_lt:∀ {l:Ai} (h:Mq l) (p:ByteArray) (i:Nat) (hi:i < l.length),sLt l[i].Path p=decide (i < H9 l p)
 | [],h,p,i,hi=>by cases hi
 | f::l,h,p,i,hi=>by
  have h':=D9.1 h;unfold H9;rw [List.takeWhile_cons];cases hf:sLt f.Path p
  ·simp only [A6,Cg,Ey,Nat.not_lt_zero,decide_false];cases i with
   | zero=>exact hf
   | succ i =>
    simp only [Hd];have hi':i < l.length:=by simpa using hi
    have:=h'.1 l[i] (Ar _);cases hg:sLt l[i].Path p
    ·rfl
    ·rw [Xx this hg] at hf;cases hf
  ·simp only [E4,Eb];cases i with
   | zero=>simp [hf]
   | succ i =>
    simp only [Hd,Nat.add_lt_add_iff_right];exact pos_lt h'.2 p i (by simpa using hi)
theorem shr1u {b:Int} (h:0≤b):shr? .u64 b 1=some (b / 2):=by
 unfold shr?;rw [Ac (by decide)]
 have:(2:Int) ^ (min (1:Int).toNat IntKind.u64.bits)=2:=by decide
 rw [this,Int.fdiv_eq_ediv_of_nonneg _ (by decide)]
theorem ckU {x:Int} (h1:0≤x) (h2:x≤9223372036854775807):ckK .u64 x=some x:=by
 unfold ckK inK
 have:IntKind.u64.wrap x=x:=by
  simp [IntKind.wrap,IntKind.bits,IntKind.signed];omega
 rw [Ad (Ag this)]
theorem finds_f (f:File) (p:ByteArray):Ox f p=some (cmpB f.Path p):=rfl
theorem find_iter {l:Ai} (h:Mq l) (p:ByteArray) (hl:l.length≤1000000):∀ (n lo hi:Nat),hi - lo≤n→lo≤H9 l p→H9 l p≤hi→hi≤l.length →
  C7 (fun s=>Dz.l1 l p s.1 s.2) ((hi:Int),(lo:Int))=some ((H9 l p:Nat):Int):=by
 intro n
 induction n with
 | zero =>
  intro lo hi hn h1 h2 h3;have e:H9 l p=lo:=by omega
  rw [Bm (r:=((H9 l p:Nat):Int))];show Dz.l1 l p _ _=_;unfold Dz.l1;rw [Af (by omega),Ac Ae,e]
 | succ n ih =>
  intro lo hi hn h1 h2 h3;by_cases hlt:lo < hi
  ·have hm:(((lo:Int)+hi) / 2)=((lo+hi) / 2:Nat):=by omega
   have hml:(lo+hi) / 2 < l.length:=by omega
   have hstep:Dz.l1 l p (hi:Int) (lo:Int)=some (if (lo+hi) / 2 < H9 l p then Step.next ((hi:Int),(((lo+hi) / 2+1:Nat):Int)) else Step.next ((((lo+hi) / 2:Nat):Int),(lo:Int))):=by
    unfold Dz.l1;rw [Ag (by omega:(lo:Int) < hi),Ad rfl,Br (by omega) (by omega),Aa,ckU (by omega) (by omega),Aa,shr1u (by omega),Aa,hm,Br (by omega) (by omega),Aa,Bg hml,Aa,finds_f,Aa,cmpB_neg,pos_lt h p _ hml]
    by_cases hc:(lo+hi) / 2 < H9 l p
    ·rw [Ad hc,Ag hc,Ad rfl,Br (by omega) (by omega),Aa];rfl
    ·rw [Ac hc,Af hc,Ac Ae]
   by_cases hc:(lo+hi) / 2 < H9 l p
   ·rw [Ad hc] at hstep;rw [Bz (s':=((hi:Int),(((lo+hi) / 2+1:Nat):Int))) hstep];exact ih _ _ (by omega) (by omega) h2 h3
   ·rw [Ac hc] at hstep;rw [Bz (s':=((((lo+hi) / 2:Nat):Int),(lo:Int))) hstep];exact ih _ _ (by omega) h1 (by omega) (by omega)
  ·have e:H9 l p=lo:=by omega
   rw [Bm (r:=((H9 l p:Nat):Int))];show Dz.l1 l p _ _=_;unfold Dz.l1;rw [Af (by omega),Ac Ae,e]
theorem has_at {l:Ai} (h:Mq l) (p:ByteArray):Lb l p=if hp:H9 l p < l.length then decide (l[H9 l p].Path=p) else false:=by
 rw [Kr];constructor
 ·intro hh;unfold Lb at hh;rw [Ke] at hh;obtain ⟨f,hf,he⟩:=hh;obtain ⟨i,hi,rfl⟩:=Ci hf;have he:=Lr he;have h1:=pos_lt h p i hi;rw [he,Qz] at h1;have h1:¬ i < H9 l p:=of_decide_eq_false h1.symm;have hpl:H9 l p < l.length:=by omega
  rw [dif_pos hpl];refine Ag ?_;rcases Ec (H9 l p) i with h2 | h2
  ·have h3:=B0.1 h _ _ hpl hi h2;have h4:=pos_lt h p _ hpl;rw [he] at h3;rw [h3] at h4;simp at h4
  ·have:i=H9 l p:=by omega
   subst this;exact he
 ·intro hh;split at hh
  ·rename_i hp
   unfold Lb;rw [Ke];exact ⟨_,Ar hp,hh⟩
  ·cases hh
theorem Find_f {l:Ai} (h:Mq l) (hl:l.length≤1000000) (p:ByteArray):Dz l p=some (((H9 l p:Nat):Int),Lb l p):=by
 unfold Dz;have:=find_iter h p hl l.length 0 l.length (by omega) (Cs _) (pos_le l p) (B7 _)
 rw [show ((0:Nat):Int)=0 from rfl] at this;rw [this,Aa];unfold Dz.j1;rw [has_at h p];by_cases hp:H9 l p < l.length
 ·rw [dif_pos hp,Ag (by omega),Ad rfl,Bg hp,Aa,finds_f,Aa,cmpB_zero];rfl
 ·rw [dif_neg hp,Af (by omega),Ac Ae];rfl
def K1 {α ρ:Type} (g:Nat→α→Option ρ):Nat→List α→Option ρ
 | _,[]=>Option.none
 | k,x::r=>match g k x with
  | some y=>some y
  | Option.none=>K1 g (k+1) r
theorem scan_iter {α ρ:Type} {f:Int→Option (Step Int (ρ ⊕ Unit))} (l:List α) (g:Nat→α→Option ρ)
  (hs:∀ k (h:k < l.length),(∀ j (hj:j < l.length),j < k→g j l[j]=Option.none)→f (k:Int)=match g k l[k] with | some r=>some (.done (.inl r)) | Option.none=>some (.next ((k+1:Nat):Int)))
  (he:f (l.length:Int)=some (.done (.inr ()))):∀ (rest:List α) (k:Nat),l.drop k=rest→k≤l.length→(∀ j (hj:j < l.length),j < k→g j l[j]=Option.none)→C7 f (k:Int)=some (orL (K1 g k rest)):=by
 intro rest
 induction rest with
 | nil =>
  intro k hk hkl _;have:=Kt hk;have e:k=l.length:=by omega
  subst e;exact Bm he
 | cons x r ih =>
  intro k hk hkl hp;obtain ⟨hlt,hx,hr⟩:=K9 hk;have e:=hs k hlt hp;rw [hx] at e;rw [K1];cases hg:g k x with
  | some y=>rw [hg] at e;exact Bm e
  | none =>
   rw [hg] at e;rw [Bz e];refine ih (k+1) hr (by omega) fun j hj hjk=>?_
   by_cases hjk':j=k
   ·subst hjk';rw [hx];exact hg
   ·exact hp j hj (by omega)
theorem Xh {α ρ:Type} {f:Int→Option (Step Int (ρ ⊕ Unit))} (l:List α) (g:Nat→α→Option ρ)
  (hs:∀ k (h:k < l.length),(∀ j (hj:j < l.length),j < k→g j l[j]=Option.none)→f (k:Int)=match g k l[k] with | some r=>some (.done (.inl r)) | Option.none=>some (.next ((k+1:Nat):Int)))
  (he:f (l.length:Int)=some (.done (.inr ()))):C7 f 0=some (orL (K1 g 0 l)):=by
 have:=scan_iter l g hs he l 0 rfl (Cs _) (fun j hj h=>absurd h (by omega))
 exact this
theorem O6 {α ρ:Type} {g:Nat→α→Option ρ}:∀ {l:List α} {k:Nat},K1 g k l=Option.none↔∀ j (h:j < l.length),g (k+j) l[j]=Option.none
 | [],k=>⟨fun _ j h=>absurd h (by simp),fun _=>rfl⟩
 | x::r,k=>by
  rw [K1];cases hg:g k x with
  | some y =>
   simp only [reduceCtorEq,false_iff];intro h;have:=h 0 (by simp)
   rw [Eg,List.getElem_cons_zero,hg] at this;cases this
  | none =>
   simp only;rw [O6];constructor
   ·intro h j hj;cases j with
    | zero=>exact hg
    | succ j =>
     have:=h j (by simpa using hj)
     rw [Hd,← this];congr 1;omega
   ·intro h j hj;have:=h (j+1) (by simpa using hj)
    rw [Hd] at this;rw [← this];congr 1;omega
theorem M1 {α ρ:Type} {g:Nat→α→Option ρ}:∀ {l:List α} {k:Nat} {y:ρ},K1 g k l=some y→∃ j,∃ h:j < l.length,g (k+j) l[j]=some y
 | [],k,y,h=>by cases h
 | x::r,k,y,h=>by
  rw [K1] at h;cases hg:g k x with
  | some z=>rw [hg] at h;exact ⟨0,by simp,by rw [Eg];simpa [hg] using h⟩
  | none =>
   rw [hg] at h;obtain ⟨j,hj,e⟩:=M1 h;exact ⟨j+1,by simpa using hj,by rw [Hd,← e];congr 1;omega⟩
def clG (p:ByteArray) (e:Int) (k:Nat) (f:File):Option Bool:=if (k:Int)≠e∧Oc f.Path p=true then some true else Option.none
def G0 (l:Ai) (p:ByteArray):Bool:=l.any fun f=>Oc f.Path p
theorem clash_f {l:Ai} {p:ByteArray} (hl:∀ f∈l,f.Path.size≤1000000) (hn:l.length≤1000000) (hp:p.size≤1000000) (e:Int):Gr l p e=some (K1 (clG p e) 0 l).isSome:=by
 unfold Gr;rw [Xh l (clG p e) ?_ ?_,Aa]
 ·cases h:K1 (clG p e) 0 l with
  | none=>rfl
  | some b =>
   obtain ⟨j,hj,hg⟩:=M1 h;unfold clG at hg;split at hg
   ·cases hg;rfl
   ·cases hg
 ·intro k h _;unfold Gr.l1 clG;rw [Ag (by omega),Ad rfl,Bg h,Aa]
  have hs:=hl _ (Ar h);by_cases hk:(k:Int)=e
  ·rw [Ag hk,Ac (by simp),Aa,Ac Ae,Br (by omega) (by omega),Aa,Ac (fun h=>h.1 hk)];rfl
  ·rw [Af hk,Ad (by rfl),Related_f hs hp,Aa,Aa]
   cases hr:Oc l[k].Path p
   ·rw [Ac Ae,Br (by omega) (by omega),Aa,Ac (fun h=>Ae h.2)];rfl
   ·rw [Ad rfl,Ad ⟨hk,rfl⟩]
 ·unfold Gr.l1;rw [Af (by omega),Ac Ae]
theorem clO_all {p:ByteArray}:∀ (l:Ai) (k:Nat),(K1 (clG p (-1)) k l).isSome=G0 l p
 | [],k=>rfl
 | f::l,k=>by
  rw [K1];unfold clG G0;rw [Lc];cases h:Oc f.Path p
  ·rw [Ac (fun h=>Ae h.2)];simp only [Ki];exact clO_all l (k+1)
  ·rw [Ad ⟨by omega,rfl⟩];rfl
theorem clO_ne {p:ByteArray}:∀ (l:Ai) (k j:Nat),(K1 (clG p ((k+j:Nat):Int)) k l).isSome=G0 (l.eraseIdx j) p
 | [],k,j=>rfl
 | f::l,k,0=>by
  rw [K1];unfold clG;rw [Ac (fun h=>h.1 rfl)];simp only [List.eraseIdx_zero,List.tail_cons]
  have:∀ (m:Ai) (q:Nat),k < q→(K1 (clG p ((k+0:Nat):Int)) q m).isSome=G0 m p:=by
   intro m
   induction m with
   | nil=>intro q _;rfl
   | cons f m ih =>
    intro q hq;rw [K1];unfold clG G0;rw [Lc];cases h:Oc f.Path p
    ·rw [Ac (fun h=>Ae h.2)];simp only [Ki];exact ih (q+1) (by omega)
    ·rw [Ad ⟨by omega,rfl⟩];rfl
  exact this l (k+1) (by omega)
 | f::l,k,j+1=>by
  rw [K1];have hc:=clO_ne (p:=p) l (k+1) j;rw [show k+1+j=k+(j+1) by omega] at hc
  unfold G0 at hc ⊢;rw [List.eraseIdx_cons_succ,Lc];unfold clG;cases h:Oc f.Path p
  ·rw [Ac (fun h=>Ae h.2)];simp only [Ki];exact hc
  ·rw [Ad ⟨by omega,rfl⟩];rfl
def trG (l:Ai) (k:Nat) (f:File):Option Fault :=
 if Kq f.Path=false then some ⟨12,k⟩
 else if 0 < k∧∃ q,l[k - 1]? = some q∧sLt q.Path f.Path=false then some ⟨5,k⟩
 else if G0 (l.take k) f.Path=true then some ⟨7,k⟩
 else if (B5 f.Lines).Code≠0 then some ⟨(B5 f.Lines).Code,k⟩ else Option.none
def Ek (l:Ai):Fault:=if l.length > 24 then ⟨2,-1⟩ else (K1 (trG l) 0 l).getD ⟨0,0⟩
theorem trG_path {l:Ai} {k:Nat} {f:File} (h:trG l k f=Option.none):Kq f.Path=true:=by
 unfold trG at h;cases hp:Kq f.Path
 ·rw [Ad hp] at h;cases h
 ·rfl
theorem ord_dec (p q:ByteArray):(sLt p q || decide (p=q)) = !sLt q p:=by
 rcases sLt_tri p q with h | h | h
 ·rw [h,Qj h];rfl
 ·subst h;rw [Qz];simp
 ·rw [h,Qj h,Af (sLt_ne h).symm];rfl
theorem prev_f (l:Ai) {k:Nat} (hk:k < l.length) (h1000:l.length≤1000000):((if decide ((k:Int) > 0) then (ckK .i64 ((k:Int) - 1)).bind fun z1=>(at? l z1).bind fun y3=>some (sLt l[k].Path y3.Path || decide (l[k].Path=y3.Path)) else some false):Option Bool) =
  some (decide (0 < k∧∃ q,l[k - 1]? = some q∧sLt q.Path l[k].Path=false)):=by
 by_cases h0:0 < k
 ·have hk1:k - 1 < l.length:=by omega
  rw [Ag (by omega),Ad rfl,Br (by omega) (by omega),Aa,show ((k:Int) - 1)=((k - 1:Nat):Int) by omega,Bg hk1,Aa,ord_dec]
  congr 1;rw [Kr];simp only [A3 hk1,Option.some.injEq,exists_eq_left',h0,true_and,Bs];cases sLt l[k - 1].Path l[k].Path <;> simp
 ·rw [Af (by omega),Ac Ae,Af (fun h=>h0 h.1)]
theorem Xq (t:FileTree):G5 t=some (Ek t.Files):=by
 obtain ⟨l⟩:=t;unfold G5 Ek;simp only;by_cases h24:l.length > 24
 ·rw [Ag (by omega),Ad rfl,Ad h24]
 rw [Af (by omega),Ac Ae,Ac h24,Xh l (trG l) ?_ ?_,Aa]
 ·cases K1 (trG l) 0 l <;> rfl
 ·intro k h hp
  have hsz:∀ f∈l.take k,f.Path.size≤60:=by
   intro f hf;obtain ⟨j,hj,rfl⟩:=Ci hf;rw [Ew];rw [Bl] at hj;exact Mu (trG_path (hp j (by omega) (by omega)))
  unfold G5.l1 trG;simp only;rw [Ag (by omega),Ad rfl,Bg h,Aa,ValidPath_f,Aa]
  cases hv:Kq l[k].Path
  ·rw [Ad (by rfl),Ad rfl]
  ·rw [Ac (show ¬ ((!true)=true) by decide),Ac (show ¬ (true=false) by decide),prev_f l h (by omega),Aa]
   by_cases h5:0 < k∧∃ q,l[k - 1]? = some q∧sLt q.Path l[k].Path=false
   ·rw [Ag h5,Ad rfl,Ad h5]
   ·rw [Af h5,Ac Ae,Ac h5,Tr (by omega) (by omega) (by omega),Aa,show ((0:Int)).toNat=0 from rfl,List.drop_zero,Ay,
     clash_f (fun f hf=>by have:=hsz f hf;omega) (by rw [Bl];omega) (by have:=Mu hv;omega),Aa,clO_all]
    cases h7:G0 (l.take k) l[k].Path
    ·rw [Ac Ae,Ac Ae,second_f,Aa];by_cases hc:(B5 l[k].Lines).Code=0
     ·rw [Ad hc,Ac (by decide),Ac (by simpa using hc),Br (by omega) (by omega),Aa];rfl
     ·rw [Ac hc,Ad (by simp [hc]),Ad hc]
    ·rw [Ad rfl,Ad rfl]
 ·unfold G5.l1;rw [Af (by simp),Ac Ae]
theorem relT_iter (l:Ai) (k:Nat) (hk:k≤l.length) (h1000:l.length≤1000000) (y:File):C7 (fun s=>Bv.l2 ⟨l⟩ (k:Int) y s) 0=some (orL (if G0 (l.take k) y.Path=true then some ⟨7,k⟩ else Option.none)):=by
 have hl:(l.take k).length=k:=by simp;omega
 rw [Xh (l.take k) (fun j f=>if Oc f.Path y.Path=true then some (⟨7,k⟩:Fault) else Option.none) ?_ ?_]
 ·congr 2
  have:∀ (m:Ai) (j:Nat),K1 (fun j f=>if Oc f.Path y.Path=true then some (⟨7,k⟩:Fault) else Option.none) j m=if G0 m y.Path=true then some ⟨7,k⟩ else Option.none:=by
   intro m
   induction m with
   | nil=>intro j;rfl
   | cons f m ih =>
    intro j;rw [K1];unfold G0;rw [Lc];cases h:Oc f.Path y.Path
    ·simp only [A6,Cg,Ki];exact ih (j+1)
    ·simp
  exact this _ _
 ·intro j hj _;have hjk:j < k:=by omega
  have hjl:j < l.length:=by omega
  unfold Bv.l2;simp only;rw [Ag (by omega),Ad rfl,Bg hjl,Aa,Z2,Aa,Ew]
  cases Oc l[j].Path y.Path
  ·rw [Ac Ae,Ac Ae,Br (by omega) (by omega),Aa];rfl
  ·rw [Ad rfl,Ad rfl];rfl
 ·unfold Bv.l2;rw [hl,Af (by omega),Ac Ae]
theorem Aai (t:FileTree):Bv t=some (Ek t.Files):=by
 obtain ⟨l⟩:=t;unfold Bv Ek;simp only;by_cases h24:l.length > 24
 ·rw [Ag (by omega),Ad rfl,Ad h24];rfl
 rw [Af (by omega),Ac Ae,Ac h24,Xh l (trG l) ?_ ?_,Aa]
 ·cases K1 (trG l) 0 l <;> rfl
 ·intro k h hp;unfold Bv.l1 trG;simp only;rw [Ag (by omega),Ad rfl,Bg h,Aa,PathValid_f,Aa]
  cases hv:Kq l[k].Path
  ·rw [Ad (by rfl),Ad rfl];rfl
  ·rw [Ac (show ¬ ((!true)=true) by decide),Ac (show ¬ (true=false) by decide),prev_f l h (by omega),Aa]
   by_cases h5:0 < k∧∃ q,l[k - 1]? = some q∧sLt q.Path l[k].Path=false
   ·rw [Ag h5,Ad rfl,Ad h5];rfl
   ·rw [Af h5,Ac Ae,Ac h5,relT_iter l k (by omega) (by omega),Aa]
    cases h7:G0 (l.take k) l[k].Path
    ·rw [Ac Ae,Ac Ae];unfold orL Bv.j3 Bv.j2;simp only;rw [Nz,Aa];by_cases hc:(B5 l[k].Lines).Code=0
     ·rw [Ag hc,Ac (by decide),Ac (by simpa using hc),Br (by omega) (by omega),Aa];rfl
     ·rw [Af hc,Ad (by rfl),Ad hc];rfl
    ·rw [Ad rfl,Ad rfl];rfl
 ·unfold Bv.l1;rw [Af (by simp),Ac Ae]
structure TrOk (l:Ai):Prop where
 len:l.length≤24
 srt:Mq l
 path:∀ f∈l,Kq f.Path=true
 rel:l.Pairwise fun f g=>Oc f.Path g.Path=false
 text:∀ f∈l,Kb f.Lines
theorem trG_code {l:Ai} {k:Nat} {f:File} {y:Fault} (h:trG l k f=some y):y.Code≠0:=by
 unfold trG at h;split at h
 ·cases h;simp
 ·split at h
  ·cases h;simp
  ·split at h
   ·cases h;simp
   ·split at h
    ·rename_i hc;cases h;exact hc
    ·cases h
theorem Ut (l:Ai):Ek l=⟨0,0⟩∨(Ek l).Code≠0:=by
 unfold Ek;split
 ·right;decide
 ·cases h:K1 (trG l) 0 l with
  | none=>left;rfl
  | some y =>
   right;obtain ⟨j,hj,e⟩:=M1 h;exact trG_code e
theorem Hz (l:Ai):(Ek l).Code=0↔TrOk l:=by
 unfold Ek;by_cases h24:l.length > 24
 ·rw [Ad h24];exact ⟨fun h=>by simp at h,fun h=>by have:=h.len;omega⟩
 rw [Ac h24]
 have e1:(((K1 (trG l) 0 l).getD ⟨0,0⟩).Code=0)↔K1 (trG l) 0 l=Option.none:=by
  cases h:K1 (trG l) 0 l with
  | none=>simp
  | some y =>
   obtain ⟨j,hj,e⟩:=M1 h;simp [trG_code e]
 rw [e1,O6];simp only [Gc];constructor
 ·intro h
  have h2:∀ j (hj:j < l.length),Kq l[j].Path=true∧¬ (0 < j∧∃ q,l[j - 1]? = some q∧sLt q.Path l[j].Path=false)∧G0 (l.take j) l[j].Path=false∧(B5 l[j].Lines).Code=0:=by
   intro j hj;have:=h j hj;unfold trG at this;cases hp:Kq l[j].Path
   ·rw [Ad hp] at this;cases this
   ·rw [Ac (by rw [hp];decide)] at this
    split at this
    ·cases this
    ·rename_i h5
     split at this
     ·cases this
     ·rename_i h7
      split at this
      ·cases this
      ·rename_i hc
       exact ⟨rfl,h5,by simpa using h7,by simpa using hc⟩
  have hadj:∀ j (hj:j+1 < l.length),sLt l[j].Path l[j+1].Path=true:=by
   intro j hj;have:=(h2 (j+1) hj).2.1;cases hs:sLt l[j].Path l[j+1].Path
   ·exact absurd ⟨by omega,l[j],by simp,hs⟩ this
   ·rfl
  have hlt:∀ (d i:Nat) (hd:i+d+1 < l.length),sLt l[i].Path l[i+d+1].Path=true:=by
   intro d
   induction d with
   | zero=>intro i hd;exact hadj i hd
   | succ d ih=>intro i hd;exact Xx (ih i (by omega)) (hadj (i+d+1) hd)
  refine ⟨by omega,?_,?_,?_,?_⟩
  ·refine B0.2 fun i j hi hj hij=>?_;obtain ⟨d,rfl⟩:∃ d,j=i+d+1:=⟨j - i - 1,by omega⟩
   exact hlt d i hj
  ·intro f hf;obtain ⟨j,hj,rfl⟩:=Ci hf;exact (h2 j hj).1
  ·refine B0.2 fun i j hi hj hij=>?_;have:=(h2 j hj).2.2.1;unfold G0 at this;rw [Kk] at this
   have hm:l[i]∈l.take j:=by
    rw [Hv];exact ⟨i,by omega,rfl⟩
   simpa using this _ hm
  ·intro f hf;obtain ⟨j,hj,rfl⟩:=Ci hf;exact (Hr _).2 ((Er _).2 (h2 j hj).2.2.2)
 ·intro h j hj;have hm:=Ar hj;unfold trG;rw [Ac (by rw [h.path _ hm];decide),Ac ?_,Ac ?_,Ac ?_]
  ·simpa using (Er _).1 ((Hr _).1 (h.text _ hm))
  ·have:G0 (l.take j) l[j].Path=false:=by
    unfold G0;rw [Kk];intro f hf;rw [Hv] at hf;obtain ⟨i,hi,rfl⟩:=hf;have:=B0.1 h.rel i j (by omega) hj (by omega)
    simpa using this
   rw [this];decide
  ·rintro ⟨h0,q,hq,hs⟩;have hk1:j - 1 < l.length:=by omega
   rw [A3 hk1] at hq;cases hq;have:=B0.1 h.srt (j - 1) j hk1 hj (by omega)
   rw [this] at hs;cases hs
theorem tsecond_f (t:FileTree) (i:Int):N5 t i=some (if (Ek t.Files).Code=0 then ⟨0,0⟩ else ⟨(Ek t.Files).Code,i⟩):=by
 unfold N5;rw [Xq,Aa];rcases Ut t.Files with h | h
 ·rw [h];rfl
 ·rw [Ad (Om.2 fun h2=>h h2.1),Ac h]
end Go.Dc
