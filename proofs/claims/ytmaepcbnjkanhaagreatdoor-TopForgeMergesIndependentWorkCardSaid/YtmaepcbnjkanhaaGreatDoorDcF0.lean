import Derived.Test.YtmaepcbnjkanhaaGreatDoorDcP
import Derived.Test.YtmaepcbnjkanhaaGreatDoorDcPS
import Derived.Test.YtmaepcbnjkanhaaGreatDoorDcM
import Derived.Test.YtmaepcbnjkanhaaGreatDoorDcRS
import Derived.Lib.IndexAny
set_option linter.unusedSimpArgs false
set_option linter.unusedVariables false
set_option maxRecDepth 4000
namespace Go.Dc
open Go
def lcs:List ByteArray→List ByteArray→Nat
  | [],_=>0
  | _::_,[]=>0
  | x::a,y::b=>if x=y then lcs a b+1 else max (lcs a (y::b)) (lcs (x::a) b)
 termination_by a b=>a.length+b.length
def Hz:List ByteArray→List ByteArray→List Int
  | [],[]=>[]
  | [],_::b=>2::Hz [] b
  | _::a,[]=>1::Hz a []
  | x::a,y::b=>if x=y then 0::Hz a b else if lcs a (y::b) ≥ lcs (x::a) b then 1::Hz a (y::b) else 2::Hz (x::a) b
 termination_by a b=>a.length+b.length
theorem lcs_nil_r (a:List ByteArray):lcs a []=0:=by cases a <;> simp [lcs]
theorem lcs_cons (x y:ByteArray) (a b:List ByteArray):lcs (x::a) (y::b)=if x=y then lcs a b+1 else max (lcs a (y::b)) (lcs (x::a) b):=by rw [lcs]
theorem lcs_le:∀ (a b:List ByteArray),lcs a b≤a.length∧lcs a b≤b.length
  | [],b=>by simp [lcs]
  | _::_,[]=>by simp [lcs]
  | x::a,y::b=>by
    rw [lcs_cons];have h1:=lcs_le a b;have h2:=lcs_le a (y::b);have h3:=lcs_le (x::a) b;simp only [List.length_cons] at *;split <;> omega
 termination_by a b=>a.length+b.length
theorem place_inj {w p q i j:Nat} (hq:q < w) (hj:j < w) (h:p * w+q=i * w+j):p=i∧q=j:=by
  have h1:(p * w+q) / w=p:=by rw [Nat.mul_comm,Nat.mul_add_div (by omega)];simp [Nat.div_eq_of_lt hq]
  have h2:(i * w+j) / w=i:=by rw [Nat.mul_comm,Nat.mul_add_div (by omega)];simp [Nat.div_eq_of_lt hj]
  have:p=i:=by rw [← h1,← h2,h]
  subst this;exact ⟨rfl,by omega⟩
theorem place_lt {w p q n:Nat} (hq:q < w) (hp:p≤n):p * w+q < (n+1) * w:=by
  have:p * w≤n * w:=Nat.mul_le_mul_right _ hp;rw [Nat.add_mul,Nat.one_mul];omega
def Tab (a b:List ByteArray) (T:List Int) (K:Nat→Nat→Prop):Prop :=
  T.length=(a.length+1) * (b.length+1)∧∀ p q,p≤a.length→q≤b.length→(K p q∨p=a.length∨q=b.length)→T[p * (b.length+1)+q]? = some (lcs (a.drop p) (b.drop q):Int)
section
variable {a b : List ByteArray} (hs : (a.length + 1) * (b.length + 1) * 8 ≤ 140737488355328) include hs
theorem small_w:a.length+1≤140737488355328∧b.length+1≤140737488355328∧(a.length+1) * (b.length+1)≤140737488355328:=by
  have h1:a.length+1≤(a.length+1) * (b.length+1):=Nat.le_mul_of_pos_right _ (by omega)
  have h2:b.length+1≤(a.length+1) * (b.length+1):=Nat.le_mul_of_pos_left _ (by omega)
  omega
theorem at_place {T:List Int} {K:Nat→Nat→Prop} (h:Tab a b T K) {p q:Nat} (hp:p≤a.length) (hq:q≤b.length) (hk:K p q∨p=a.length∨q=b.length) :
    G1 p q T (b.length+1:Nat)=some (lcs (a.drop p) (b.drop q):Int):=by
  obtain ⟨s1,s2,s3⟩:=small_w hs;have hlt:=place_lt (w:=b.length+1) (q:=q) (n:=a.length) (by omega) hp
  have e:((p:Int) * ((b.length+1:Nat):Int))=((p * (b.length+1):Nat):Int):=by rw [Int.natCast_mul]
  unfold G1;rw [e,Cd (by omega) (by omega)]
  simp only [Option.bind_some];rw [show ((p * (b.length+1):Nat):Int)+(q:Int)=((p * (b.length+1)+q:Nat):Int) from by omega,Cd (by omega) (by omega)]
  simp only [Option.bind_some];have:=h.2 p q hp hq hk;have hl:p * (b.length+1)+q < T.length:=by rw [h.1];exact hlt
  rw [C3 hl];rw [List.getElem?_eq_getElem hl] at this;simpa using this
set_option linter.unusedVariables false in omit hs in
theorem tab_set {T:List Int} {K:Nat→Nat→Prop} (h:Tab a b T K) {i j:Nat} (hi:i < a.length) (hj:j < b.length) {x:Int} (hx:x=lcs (a.drop i) (b.drop j)) :
    Tab a b (T.set (i * (b.length+1)+j) x) (fun p q=>K p q∨(p=i∧q=j)):=by
  refine ⟨by rw [List.length_set];exact h.1,fun p q hp hq hk=>?_⟩
  by_cases he:p=i∧q=j
  · obtain ⟨rfl,rfl⟩:=he;have hlt:=place_lt (w:=b.length+1) (q:=q) (n:=a.length) (by omega) hp
    rw [List.getElem?_set_self (by rw [h.1];exact hlt),hx]
  · have hne:i * (b.length+1)+j≠p * (b.length+1)+q:=by
      intro e;obtain ⟨h1,h2⟩:=place_inj (by omega) (by omega) e
      exact he ⟨h1.symm,h2.symm⟩
    rw [List.getElem?_set_ne hne];refine h.2 p q hp hq ?_;rcases hk with (hk | hk) | hk
    · exact .inl hk
    · exact absurd hk he
    · exact .inr hk
set_option linter.unusedVariables false in omit hs in
theorem Kn {l:List ByteArray} {i:Nat} (h:i < l.length):l.drop i=l[i]::l.drop (i+1):=List.drop_eq_getElem_cons h
theorem row_eq {i:Nat} (hi:i < a.length) {T:List Int} (h:Tab a b T (fun p _=>i < p)) :
    ∃ T',Dv (fun s=>Bw.l3 a b (b.length+1:Nat) i s.1 s.2) ((b.length:Int) - 1,T)=some T'∧Tab a b T' (fun p _=>i≤p):=by
  obtain ⟨s1,s2,s3⟩:=small_w hs;refine L4 (fun s=>∃ k:Nat,k≤b.length∧s.1=(k:Int) - 1∧Tab a b s.2 (fun p q=>i < p∨(p=i∧k≤q))) (fun s=>(s.1+1).toNat) _ ?_ _ ⟨b.length,Nat.le_refl _,rfl,?_⟩
  · rintro ⟨x,T⟩ ⟨k,hk,hx,hT⟩;simp only at hx;subst hx;unfold Bw.l3;rw [Bb];cases k with
    | zero =>
      rw [if_neg (by omega)]
      refine .inr ⟨T,rfl,hT.1,fun p q hp hq hk=>hT.2 p q hp hq ?_⟩;rcases hk with hk | hk
      · rcases Nat.lt_or_eq_of_le hk with h | h
        · exact .inl (.inl h)
        · exact .inl (.inr ⟨h.symm,Nat.zero_le _⟩)
      · exact .inr hk
    | succ k =>
      have hkb:k < b.length:=hk;rw [if_pos (by omega)]
      rw [show ((k+1:Nat):Int) - 1=(k:Int) from by omega]
      rw [Cd (by omega) (by omega)]
      simp only [Option.bind_some];rw [show ((i:Int)+1)=((i+1:Nat):Int) from by omega,at_place hs hT (p:=i+1) (q:=k) (by omega) (by omega) (.inl (.inl (by omega)))]
      simp only [Option.bind_some];rw [Cd (by omega) (by omega)]
      simp only [Option.bind_some];rw [show ((k:Int)+1)=((k+1:Nat):Int) from by omega,at_place hs hT (p:=i) (q:=k+1) (by omega) (by omega) (.inl (.inr ⟨rfl,by omega⟩))]
      simp only [Option.bind_some];rw [C3 hi];simp only [Option.bind_some];rw [C3 hkb];simp only [Option.bind_some];have hlt:=place_lt (w:=b.length+1) (q:=k) (n:=a.length) (p:=i) (by omega) (by omega)
      have fin:∀ x:Int,x=lcs (a.drop i) (b.drop k)→∃ s',Bw.j5 (b.length+1:Nat) i k T x=some (.next s')∧(∃ k':Nat,k'≤b.length∧s'.1=(k':Int) - 1∧Tab a b s'.2 (fun p q=>i < p∨(p=i∧k'≤q)))∧(s'.1+1).toNat < (((k:Int))+1).toNat:=by
        intro x hx;have e:((i:Int) * ((b.length+1:Nat):Int))=((i * (b.length+1):Nat):Int):=by rw [Int.natCast_mul]
        unfold Bw.j5;rw [e,Cd (by omega) (by omega)]
        simp only [Option.bind_some];rw [show ((i * (b.length+1):Nat):Int)+(k:Int)=((i * (b.length+1)+k:Nat):Int) from by omega,Cd (by omega) (by omega)]
        simp only [Option.bind_some];rw [C3 (by rw [hT.1];exact hlt)]
        simp only [Option.bind_some];rw [Cd (by omega) (by omega)]
        simp only [Option.bind_some];refine ⟨_,rfl,⟨k,by omega,rfl,?_⟩,by simp only;omega⟩
        simp only [Int.toNat_natCast];have:=tab_set hT hi hkb hx;refine ⟨this.1,fun p q hp hq hk=>this.2 p q hp hq ?_⟩;rcases hk with (hk | ⟨h1,h2⟩) | hk
        · exact .inl (.inl (.inl hk))
        · rcases Nat.lt_or_eq_of_le h2 with h | h
          · exact .inl (.inl (.inr ⟨h1,h⟩))
          · exact .inl (.inr ⟨h1,h.symm⟩)
        · exact .inr hk
      left;rw [Bb];by_cases heq:a[i]=b[k]
      · rw [if_pos heq];rw [at_place hs hT (p:=i+1) (q:=k+1) (by omega) (by omega) (.inl (.inl (by omega)))]
        simp only [Option.bind_some];have hb:=(lcs_le (a.drop (i+1)) (b.drop (k+1))).1;rw [List.length_drop] at hb;rw [Cd (by omega) (by omega)]
        simp only [Option.bind_some]
        obtain ⟨s',h1,h2,h3⟩:=fin (((lcs (a.drop (i+1)) (b.drop (k+1)):Nat):Int)+1) (by
          rw [Kn hi,Kn hkb,lcs_cons,if_pos heq];omega)
        exact ⟨s',h1,h2,h3⟩
      · rw [if_neg heq]
        obtain ⟨s',h1,h2,h3⟩:=fin (max ((lcs (a.drop (i+1)) (b.drop k):Nat):Int) ((lcs (a.drop i) (b.drop (k+1)):Nat):Int)) (by
          have e1:=Kn hi;have e2:=Kn hkb;rw [e1,e2,lcs_cons,if_neg heq,← e1,← e2]
          omega)
        exact ⟨s',h1,h2,h3⟩
  · refine ⟨h.1,fun p q hp hq hk=>h.2 p q hp hq ?_⟩;rcases hk with (hk | ⟨_,h2⟩) | hk
    · exact .inl hk
    · exact .inr (.inr (by omega))
    · exact .inr hk
theorem table_eq:∃ T',Dv (fun s=>Bw.l2 a b (b.length+1:Nat) s.1 s.2) ((a.length:Int) - 1,List.replicate ((a.length+1) * (b.length+1)) 0)=some T'∧Tab a b T' (fun _ _=>True):=by
  obtain ⟨s1,s2,s3⟩:=small_w hs;refine L4 (fun s=>∃ k:Nat,k≤a.length∧s.1=(k:Int) - 1∧Tab a b s.2 (fun p _=>k≤p)) (fun s=>(s.1+1).toNat) _ ?_ _ ⟨a.length,Nat.le_refl _,rfl,?_⟩
  · rintro ⟨x,T⟩ ⟨k,hk,hx,hT⟩;simp only at hx;subst hx;unfold Bw.l2;rw [Bb];cases k with
    | zero =>
      rw [if_neg (by omega)]
      exact .inr ⟨T,rfl,hT.1,fun p q hp hq _=>hT.2 p q hp hq (.inl (Nat.zero_le _))⟩
    | succ k =>
      rw [if_pos (by omega),show ((k+1:Nat):Int) - 1=(k:Int) from by omega,Cd (by omega) (by omega)]
      simp only [Option.bind_some]
      obtain ⟨T',h1,h2⟩:=row_eq hs (i:=k) (by omega) (T:=T) ⟨hT.1,fun p q hp hq hk=>hT.2 p q hp hq (by
        rcases hk with hk | hk
        · exact .inl hk
        · exact .inr hk)⟩
      rw [h1];simp only [Option.bind_some];unfold Bw.j4 Bw.j3;rw [Cd (by omega) (by omega)]
      simp only [Option.bind_some];exact .inl ⟨_,rfl,⟨k,by omega,rfl,h2⟩,by simp only;omega⟩
  · refine ⟨by simp,fun p q hp hq hk=>?_⟩
    have hlt:=place_lt (w:=b.length+1) (q:=q) (n:=a.length) (p:=p) (by omega) hp
    have hz:lcs (a.drop p) (b.drop q)=0:=by
      rcases hk with hk | hk | hk
      · have:p=a.length:=by omega
        subst this;simp [lcs]
      · subst hk;simp [lcs]
      · subst hk;simp [lcs_nil_r]
    rw [hz,List.getElem?_replicate,if_pos hlt];rfl
theorem sum_small:(a.length+b.length) * 8≤140737488355328:=by
  have:a.length+b.length+1≤(a.length+1) * (b.length+1):=by
    rw [Nat.add_mul,Nat.mul_add,Nat.mul_one,Nat.one_mul];omega
  omega
theorem script_eq {T:List Int} (hT:Tab a b T (fun _ _=>True)):Dv (fun s=>Bw.l1 a b (b.length+1:Nat) T s.1 s.2.1 s.2.2) (0,0,[])=some (Hz a b):=by
  obtain ⟨s1,s2,s3⟩:=small_w hs;have s4:=sum_small hs;refine iter_eq_of (σ:=Int×Int×List Int) (fun s=>∃ i j:Nat,i≤a.length∧j≤b.length∧s.1=(j:Int)∧s.2.1=(i:Int)∧s.2.2.length≤i+j∧s.2.2++Hz (a.drop i) (b.drop j)=Hz a b) (fun s=>(a.length+b.length) - (s.1.toNat+s.2.1.toNat)) _ ?_ _ ⟨0,0,Nat.zero_le _,Nat.zero_le _,rfl,rfl,by simp,by simp⟩
  rintro ⟨x,y,out⟩ ⟨i,j,hi,hj,hx,hy,hl,hout⟩;simp only at hx hy hl hout ⊢;subst hx;subst hy;unfold Bw.l1;simp only [Bb];by_cases hend:i=a.length∧j=b.length
  · obtain ⟨rfl,rfl⟩:=hend;right;rw [if_neg (by omega)]
    simp only [Option.bind_some];rw [if_neg (by simp)]
    simp only [List.drop_length] at hout;rw [← hout];simp [Hz]
  · left
    have hgo:(if (i:Int) < (a.length:Int) then some true else some (decide ((j:Int) < (b.length:Int))))=some true:=by
      by_cases h:i < a.length
      · rw [if_pos (by omega)]
      · rw [if_neg (by omega),decide_eq_true (by omega)]
    rw [hgo];simp only [Option.bind_some,if_true]
    have keepNext:∀ (x:Int) (i' j':Nat),i'≤a.length→j'≤b.length→i+j < i'+j'→out++([x]++Hz (a.drop i') (b.drop j'))=Hz a b →
        ((app? 8 out [x])=some (out++[x]))∧(∃ (i_ j_:Nat),i_≤a.length∧j_≤b.length∧((j':Nat):Int)=j_∧((i':Nat):Int)=i_∧(out++[x]).length≤i_+j_∧(out++[x])++Hz (a.drop i_) (b.drop j_)=Hz a b)∧(a.length+b.length) - (j'+i') < (a.length+b.length) - (j+i):=by
      intro x i' j' h1 h2 h3 h4;refine ⟨Gm (by simp only [List.length_singleton];omega),⟨i',j',h1,h2,rfl,rfl,by simp;omega,by rw [List.append_assoc];exact h4⟩,by omega⟩
    by_cases hia:i < a.length
    · by_cases hjb:j < b.length
      · have hda:=Kn hia;have hdb:=Kn hjb
        have hboth:(if (i:Int) < (a.length:Int) then some (decide ((j:Int) < (b.length:Int))) else some false)=some true:=by
          rw [if_pos (by omega),decide_eq_true (by omega)]
        rw [hboth];simp only [Option.bind_some,if_true];rw [C3 hia,C3 hjb];simp only [Option.bind_some,decide_eq_true_eq];by_cases heq:a[i]=b[j]
        · rw [if_pos heq]
          have h4:out++([0]++Hz (a.drop (i+1)) (b.drop (j+1)))=Hz a b:=by
            rw [← hout,hda,hdb]
            conv=>rhs;rw [Hz]
            rw [if_pos heq];rfl
          obtain ⟨e1,e2,e3⟩:=keepNext 0 (i+1) (j+1) (by omega) (by omega) (by omega) h4
          rw [e1];simp only [Option.bind_some];rw [Cd (by omega) (by omega)]
          simp only [Option.bind_some];rw [Cd (by omega) (by omega)]
          simp only [Option.bind_some];exact ⟨_,rfl,e2,by simp only;omega⟩
        · rw [if_neg heq];have hjn:¬ ((j:Int)=(b.length:Int)):=by omega
          rw [if_neg hjn,if_pos (by omega),Cd (by omega) (by omega)]
          simp only [Option.bind_some];rw [show ((i:Int)+1)=((i+1:Nat):Int) from by omega,at_place hs hT (p:=i+1) (q:=j) (by omega) (by omega) (.inl trivial)]
          simp only [Option.bind_some];rw [Cd (by omega) (by omega)]
          simp only [Option.bind_some];rw [show ((j:Int)+1)=((j+1:Nat):Int) from by omega,at_place hs hT (p:=i) (q:=j+1) (by omega) (by omega) (.inl trivial)]
          simp only [Option.bind_some,decide_eq_true_eq];by_cases hge:((lcs (a.drop (i+1)) (b.drop j):Nat):Int) ≥ ((lcs (a.drop i) (b.drop (j+1)):Nat):Int)
          · rw [if_pos hge]
            have h4:out++([1]++Hz (a.drop (i+1)) (b.drop j))=Hz a b:=by
              rw [← hout]
              conv=>rhs;rw [hda,hdb,Hz]
              rw [if_neg heq,← hda,← hdb,if_pos (by omega)];rfl
            obtain ⟨e1,e2,e3⟩:=keepNext 1 (i+1) j (by omega) (by omega) (by omega) h4
            rw [e1];simp only [Option.bind_some];exact ⟨_,rfl,e2,by simp only;omega⟩
          · rw [if_neg hge]
            have h4:out++([2]++Hz (a.drop i) (b.drop (j+1)))=Hz a b:=by
              rw [← hout]
              conv=>rhs;rw [hda,hdb,Hz]
              rw [if_neg heq,← hda,← hdb,if_neg (by omega)];rfl
            obtain ⟨e1,e2,e3⟩:=keepNext 2 i (j+1) (by omega) (by omega) (by omega) h4
            rw [e1];simp only [Option.bind_some];exact ⟨_,rfl,e2,by simp only;omega⟩
      · -- the second text is at its end
        have hj':j=b.length:=by omega
        subst hj';have hda:=Kn hia
        have hboth:(if (i:Int) < (a.length:Int) then some (decide ((b.length:Int) < (b.length:Int))) else some false)=some false:=by
          rw [if_pos (by omega),decide_eq_false (by omega)]
        rw [hboth];simp only [Option.bind_some,Bool.false_eq_true,if_false,if_true]
        have h4:out++([1]++Hz (a.drop (i+1)) (b.drop b.length))=Hz a b:=by
          rw [← hout,hda,List.drop_length]
          conv=>rhs;rw [Hz]
          rfl
        obtain ⟨e1,e2,e3⟩:=keepNext 1 (i+1) b.length (by omega) (by omega) (by omega) h4
        rw [e1];simp only [Option.bind_some];rw [Cd (by omega) (by omega)]
        simp only [Option.bind_some];exact ⟨_,rfl,e2,by simp only;omega⟩
    · have hi':i=a.length:=by omega
      subst hi';have hjb:j < b.length:=by omega
      have hdb:=Kn hjb
      have hboth:(if (a.length:Int) < (a.length:Int) then some (decide ((j:Int) < (b.length:Int))) else some false)=some false:=by
        rw [if_neg (by omega)]
      rw [hboth];simp only [Option.bind_some,Bool.false_eq_true,if_false];rw [if_neg (show ¬ ((j:Int)=(b.length:Int)) by omega),if_neg (show ¬ ((a.length:Int) < (a.length:Int)) by omega)]
      simp only [Option.bind_some,Bool.false_eq_true,if_false]
      have h4:out++([2]++Hz (a.drop a.length) (b.drop (j+1)))=Hz a b:=by
        rw [← hout,hdb,List.drop_length]
        conv=>rhs;rw [Hz]
        rfl
      obtain ⟨e1,e2,e3⟩:=keepNext 2 a.length (j+1) (by omega) (by omega) (by omega) h4
      rw [e1];simp only [Option.bind_some];rw [Cd (by omega) (by omega)]
      simp only [Option.bind_some];exact ⟨_,rfl,e2,by simp only;omega⟩
theorem align_eq:Bw a b=some (Hz a b):=by
  obtain ⟨s1,s2,s3⟩:=small_w hs;have c1:ckK .i64 ((b.length:Int)+1)=some (((b.length+1:Nat)):Int):=Cd (by omega) (by omega)
  have c2:ckK .i64 ((a.length:Int)+1)=some (((a.length+1:Nat)):Int):=Cd (by omega) (by omega)
  have c3:ckK .i64 ((((a.length+1:Nat)):Int) * (((b.length+1:Nat)):Int))=some (((a.length+1) * (b.length+1):Nat):Int):=by
    rw [← Int.natCast_mul];exact Cd (by omega) (by omega)
  have c4:mk? 8 ((((a.length+1) * (b.length+1):Nat)):Int) (0:Int)=some (List.replicate ((a.length+1) * (b.length+1)) 0):=by
    rw [mk_eq (Int.natCast_nonneg _) (by omega),Int.toNat_natCast]
  have c5:ckK .i64 ((a.length:Int) - 1)=some ((a.length:Int) - 1):=Cd (by omega) (by omega)
  obtain ⟨T,h1,h2⟩:=table_eq hs;have h3:=script_eq hs h2;unfold Bw;rw [c1,Option.bind_some,c2,Option.bind_some,c3,Option.bind_some,c4,Option.bind_some,c5,Option.bind_some,h1,Option.bind_some];unfold Bw.j1 Bw.j2;rw [h3,Option.bind_some]
end
def OkLine (s:ByteArray):Prop:=s.size≤80∧idxB s 10 < 0
def Gx (l:List ByteArray):Prop:=l.length≤120∧∀ s∈l,OkLine s
theorem not_okText {l:List ByteArray} {k:Nat} (h:k < l.length) (hs:¬ OkLine l[k]):¬ Gx l:=fun ⟨_,hl⟩=>hs (hl _ (List.getElem_mem h))
theorem validate_eq (l:List ByteArray):∃ f,Cs l=some f∧((f=⟨0,0⟩∧Gx l)∨(f.Code≠0∧¬ Gx l)):=by
  unfold Cs;rw [Bb];by_cases h120:(l.length:Int) > 120
  · rw [if_pos h120];exact ⟨_,rfl,.inr ⟨by simp,fun h=>by have:=h.1;omega⟩⟩
  · rw [if_neg h120]
    obtain ⟨r,h1,h2⟩:=L4 (m:=fun s=>Cs.l1 l s) (fun s=>∃ k:Nat,s=(k:Int)∧k≤l.length∧∀ q (hq:q < l.length),q < k→OkLine l[q]) (fun s=>l.length - s.toNat)
      (fun r=>(r=.inr ()∧Gx l)∨∃ f,r=.inl f∧f.Code≠0∧¬ Gx l) (by
        rintro s ⟨k,rfl,hk,hall⟩;unfold Cs.l1;rw [Bb];by_cases hlt:k < l.length
        · rw [if_pos (by omega),C3 hlt,Option.bind_some,Bb]
          by_cases h80:(l[k].size:Int) > 80
          · rw [if_pos h80];exact .inr ⟨_,rfl,.inr ⟨_,rfl,by simp,not_okText hlt (fun h=>by have:=h.1;omega)⟩⟩
          · rw [if_neg h80];unfold H7 Gd;simp only [Option.bind_some,Bb];by_cases h10:idxB l[k] 10 ≥ 0
            · rw [if_pos h10];exact .inr ⟨_,rfl,.inr ⟨_,rfl,by simp,not_okText hlt (fun h=>by have:=h.2;omega)⟩⟩
            · rw [if_neg h10,Cd (by omega) (by omega),Option.bind_some]
              refine .inl ⟨_,rfl,⟨k+1,by omega,hlt,fun q hq hqk=>?_⟩,by omega⟩
              by_cases he:q=k
              · subst he;exact ⟨by omega,by omega⟩
              · exact hall q hq (by omega)
        · rw [if_neg (by omega)]
          refine .inr ⟨_,rfl,.inl ⟨rfl,by omega,fun s hs=>?_⟩⟩
          obtain ⟨q,hq,rfl⟩:=List.getElem_of_mem hs;exact hall q hq (by omega)) 0 ⟨0,rfl,Nat.zero_le _,fun q hq h=>absurd h (by omega)⟩
    rw [h1,Option.bind_some];rcases h2 with ⟨rfl,h⟩ | ⟨f,rfl,h,h'⟩
    · exact ⟨_,rfl,.inl ⟨rfl,h⟩⟩
    · exact ⟨_,rfl,.inr ⟨h,h'⟩⟩
theorem Li {f:Fault}:(!(decide (f.Code=0) && decide (f.Index=0)))=true↔¬ (f.Code=0∧f.Index=0):=by
  by_cases h:f.Code=0 <;> by_cases h':f.Index=0 <;> simp [h,h']
theorem Ou (a b:List ByteArray) (hb:a.length≤1000000):Bq a b=some (decide (a=b)):=by
  unfold Bq;rw [Ls];by_cases hl:(a.length:Int)=(b.length:Int)
  · rw [if_pos hl];have hl':a.length=b.length:=by omega
    obtain ⟨r,h1,h2⟩:=L4 (m:=fun s=>Bq.l1 a b s) (fun s=>∃ k:Nat,s=(k:Int)∧k≤a.length∧a.take k=b.take k) (fun s=>a.length - s.toNat)
      (fun r=>(r=.inr ()∧a=b)∨(r=.inl false∧a≠b)) (by
        rintro s ⟨k,rfl,hk,hall⟩;unfold Bq.l1;rw [Bb];by_cases hlt:k < a.length
        · rw [if_pos (by omega),C3 hlt,Option.bind_some,C3 (by omega),Option.bind_some,Ls]
          by_cases he:a[k]=b[k]
          · rw [if_pos he,Cd (by omega) (by omega),Option.bind_some]
            exact .inl ⟨_,rfl,⟨k+1,by omega,hlt,by rw [List.take_succ_eq_append_getElem hlt,List.take_succ_eq_append_getElem (by omega),hall,he]⟩,by omega⟩
          · rw [if_neg he];exact .inr ⟨_,rfl,.inr ⟨rfl,fun h=>he (by subst h;rfl)⟩⟩
        · rw [if_neg (by omega)]
          refine .inr ⟨_,rfl,.inl ⟨rfl,?_⟩⟩;rw [List.take_of_length_le (by omega),List.take_of_length_le (by omega)] at hall
          exact hall) 0 ⟨0,rfl,Nat.zero_le _,by simp⟩
    rw [h1,Option.bind_some];rcases h2 with ⟨rfl,h⟩ | ⟨rfl,h⟩
    · rw [decide_eq_true h];rfl
    · rw [decide_eq_false h]
  · rw [if_neg hl,decide_eq_false (fun h=>hl (by rw [h]))]
def orL {α:Type}:Option α→α ⊕ Unit
  | some x=>.inl x
  | Option.none=>.inr ()
theorem K5 {α:Type} {l r:List α} {x:α} {k:Nat} (h:l.drop k=x::r):∃ hk:k < l.length,l[k]=x∧l.drop (k+1)=r:=by
  have hk:k < l.length:=by
    rcases Nat.lt_or_ge k l.length with h' | h'
    · exact h'
    · rw [List.drop_eq_nil_of_le h'] at h;cases h
  rw [List.drop_eq_getElem_cons hk] at h;exact ⟨hk,(List.cons.inj h).1,(List.cons.inj h).2⟩
theorem Kj {α:Type} {l:List α} {k:Nat} (h:l.drop k=[]):l.length≤k:=by simpa using h
def hasNL (s:ByteArray):Bool:=s.data.toList.contains 10
theorem idxB_nl (s:ByteArray):decide (idxB s 10 ≥ 0)=hasNL s:=by
  unfold hasNL idxB;rw [Lib.contains_iff_indexByte];rfl
def tscan:Int→List ByteArray→Option Fault
  | _,[]=>Option.none
  | i,s::r=>if s.size > 80 then some ⟨2,i⟩ else if hasNL s then some ⟨5,i⟩ else tscan (i+1) r
def B8 (l:List ByteArray):Fault:=if l.length > 120 then ⟨2,-1⟩ else (tscan 0 l).getD ⟨0,0⟩
theorem Nj (l:List ByteArray):Cs l=some (B8 l):=by
  unfold Cs B8;rw [Bb];by_cases h120:l.length > 120
  · rw [if_pos (by omega),if_pos h120]
  · rw [if_neg (by omega),if_neg h120]
    have key:∀ (rest:List ByteArray) (k:Nat),l.drop k=rest→Dv (fun s=>Cs.l1 l s) (k:Int)=some (orL (tscan k rest)):=by
      intro rest
      induction rest with
      | nil =>
        intro k hk;have:=Kj hk;refine B9 ?_;unfold Cs.l1;rw [Bb,if_neg (by omega)];rfl
      | cons s r ih =>
        intro k hk;obtain ⟨hlt,hs,hr⟩:=K5 hk
        have e1:Cs.l1 l (k:Int)=if s.size > 80 then some (Step.done (.inl ⟨2,(k:Int)⟩)) else if hasNL s then some (Step.done (.inl ⟨5,(k:Int)⟩)) else some (Step.next ((k:Int)+1)):=by
          unfold Cs.l1 H7 Gd;simp (disch:=omega) only [C3 hlt,hs,Option.bind_some,Cd,if_pos,← idxB_nl,decide_eq_true_eq];by_cases h:s.size > 80
          · rw [if_pos (by omega),if_pos h]
          · rw [if_neg (by omega),if_neg h]
        rw [tscan];by_cases h80:s.size > 80
        · rw [if_pos h80] at e1 ⊢;exact B9 e1
        · rw [if_neg h80] at e1 ⊢;cases hn:hasNL s with
          | true=>rw [hn,if_pos rfl] at e1;exact B9 e1
          | false =>
            rw [hn,if_neg (by decide)] at e1
            have:=ih (k+1) hr;rw [Cp e1];exact this
    have:=key l 0 rfl;simp only [Int.natCast_zero] at this;rw [show (0:Int)=((0:Nat):Int) from rfl] at *;rw [key l 0 rfl,Option.bind_some];cases tscan ((0:Nat):Int) l <;> rfl
theorem sAt_nat {s:ByteArray} {k:Nat} (h:k < s.size):sAt? s (k:Int)=some ((s[k].toNat:Nat):Int):=by
  unfold sAt?;rw [if_pos (by omega)]
  simp [h]
theorem tscan_code:∀ (l:List ByteArray) (i:Int) (f:Fault),tscan i l=some f→f.Code≠0
  | [],_,_,h=>by cases h
  | s::r,i,f,h=>by
    rw [tscan] at h;split at h
    · cases h;show (2:Int)≠0;decide
    · split at h
      · cases h;show (5:Int)≠0;decide
      · exact tscan_code r _ f h
theorem K9 (l:List ByteArray):B8 l=⟨0,0⟩∨(B8 l).Code≠0:=by
  unfold B8;split
  · right;decide
  · cases h:tscan 0 l with
    | none=>left;rfl
    | some f=>right;exact tscan_code l 0 f h
theorem Dq (l:List ByteArray):B8 l=⟨0,0⟩↔(B8 l).Code=0:=by
  rcases K9 l with h | h
  · rw [h];exact ⟨fun _=>rfl,fun _=>rfl⟩
  · constructor
    · intro h2;rw [h2]
    · intro h2;exact absurd h2 h
theorem Ez (l:List ByteArray):Gx l↔B8 l=⟨0,0⟩:=by
  obtain ⟨f,h1,h2⟩:=validate_eq l;rw [Nj] at h1;cases h1;rcases h2 with ⟨h3,h4⟩ | ⟨h3,h4⟩
  · exact ⟨fun _=>h3,fun _=>h4⟩
  · exact ⟨fun h=>absurd h h4,fun h=>absurd (by rw [h]) h3⟩
theorem second_f (l:List ByteArray) (i:Int):K6 l i=some (if (B8 l).Code=0 then ⟨0,0⟩ else ⟨(B8 l).Code,i⟩):=by
  unfold K6;rw [Nj,Option.bind_some];rcases K9 l with h | h
  · rw [h];rfl
  · rw [if_pos (Li.2 fun h2=>h h2.1),if_neg h]
theorem okText_small {a b:List ByteArray} (ha:Gx a) (hb:Gx b):(a.length+1) * (b.length+1) * 8≤140737488355328:=by
  have h1:a.length+1≤121:=by have:=ha.1;omega
  have h2:b.length+1≤121:=by have:=hb.1;omega
  have:=Nat.mul_le_mul h1 h2;omega
theorem orB (b c:Bool):(if b=true then some true else some c)=some (b || c):=by cases b <;> rfl
theorem andB (b c:Bool):(if b=true then some c else some false)=some (b && c):=by cases b <;> rfl
def bts (s:ByteArray):List UInt8:=s.data.toList
def str (l:List UInt8):ByteArray:=⟨l.toArray⟩
theorem bts_len (s:ByteArray):(bts s).length=s.size:=rfl
@[simp] theorem bts_str (l : List UInt8) : bts (str l) = l := by simp [bts, str]
@[simp] theorem str_bts (s : ByteArray) : str (bts s) = s := by cases s; simp [bts, str]
@[simp] theorem Lh (l : List UInt8) : (str l).size = l.length := by rw [← bts_len, bts_str]
theorem str_inj {a b:List UInt8} (h:str a=str b):a=b:=by rw [← bts_str a,h,bts_str]
theorem str_dec (a b:List UInt8):decide (str a=str b)=decide (a=b):=decide_eq_decide.2 ⟨str_inj,fun h=>by rw [h]⟩
theorem bts_inj {a b:ByteArray} (h:bts a=bts b):a=b:=by rw [← str_bts a,h,str_bts]
theorem sAt_str {l:List UInt8} {k:Nat} (h:k < l.length):sAt? (str l) (k:Int)=some ((l[k].toNat:Nat):Int):=by
  have hk:k < (str l).size:=by rw [Lh];exact h
  have:(str l)[k]=l[k]:=by simp [str];rfl
  rw [sAt_nat hk,this];rfl
theorem scut_str {l:List UInt8} {i j:Nat} (h1:i≤j) (h2:j≤l.length):scut? (str l) (i:Int) (j:Int)=some (str ((l.take j).drop i)):=by
  unfold scut?;rw [if_pos (by rw [Lh];omega)]
  congr 1;refine ByteArray.ext ?_;rw [ByteArray.data_extract];refine Array.toList_inj.1 ?_;rw [Array.toList_extract];simp [List.extract_eq_take_drop,str,List.drop_take]
def letB (c:UInt8):Bool:=(decide (97≤c.toNat) && decide (c.toNat≤122)) || (decide (65≤c.toNat) && decide (c.toNat≤90)) || (decide (48≤c.toNat) && decide (c.toNat≤57)) || decide (c.toNat=46) || decide (c.toNat=95) || decide (c.toNat=45)
theorem letter_f (c:UInt8):Gy ((c.toNat:Nat):Int)=some (letB c):=by
  unfold Gy letB;generalize c.toNat=n;simp only [orB,andB,Option.bind_some]
  rw [show decide ((n:Int) ≥ 97)=decide (97≤n) from decide_eq_decide.2 (by omega),show decide ((n:Int)≤122)=decide (n≤122) from decide_eq_decide.2 (by omega),
    show decide ((n:Int) ≥ 65)=decide (65≤n) from decide_eq_decide.2 (by omega),show decide ((n:Int)≤90)=decide (n≤90) from decide_eq_decide.2 (by omega),
    show decide ((n:Int) ≥ 48)=decide (48≤n) from decide_eq_decide.2 (by omega),show decide ((n:Int)≤57)=decide (n≤57) from decide_eq_decide.2 (by omega),
    show decide ((n:Int)=46)=decide (n=46) from decide_eq_decide.2 (by omega),show decide ((n:Int)=95)=decide (n=95) from decide_eq_decide.2 (by omega),
    show decide ((n:Int)=45)=decide (n=45) from decide_eq_decide.2 (by omega)]
def badP (p:List UInt8):Bool:=decide (p=[]) || decide (p=[46]) || decide (p=[46,46])
def okPart (p:List UInt8):Bool:=!badP p && p.all letB
def vp:List UInt8→List UInt8→Bool
  | cur,[]=>okPart cur
  | cur,c::r=>if c=47 then okPart cur && vp [] r else vp (cur++[c]) r
def E1 (s:ByteArray):Bool:=decide (s.size≤60) && vp [] (bts s)
theorem vp_span:∀ (l cur:List UInt8),vp cur l=match l.dropWhile (· != 47) with
    | []=>okPart (cur++l.takeWhile (· != 47))
    | _::r=>okPart (cur++l.takeWhile (· != 47)) && vp [] r
  | [],cur=>by simp [vp]
  | c::r,cur=>by
    rw [vp];by_cases h:c=47
    · subst h;rw [if_pos rfl];simp [List.dropWhile_cons,List.takeWhile_cons]
    · rw [if_neg h,vp_span r (cur++[c])];have:(c != 47)=true:=by simpa using h
      rw [List.dropWhile_cons,List.takeWhile_cons,this,if_pos rfl,if_pos rfl,List.append_assoc,List.singleton_append]
theorem letters_f {f:Int→Option (Step Int (Unit ⊕ Unit))} {l:List UInt8} (hl:l.length≤1000)
    (hf:∀ x,f x=if decide (x < ((str l).size:Int))=true then (sAt? (str l) x).bind fun y1=>(Gy y1).bind fun y2=>if (!y2)=true then some (Step.done (Sum.inl ())) else (ckK .i64 (x+1)).bind fun z1=>some (Step.next z1) else some (Step.done (Sum.inr ()))) :
    Dv (fun s=>f s) 0=some (if l.all letB=true then .inr () else .inl ()):=by
  have key:∀ (r:List UInt8) (k:Nat),l.drop k=r→Dv (fun s=>f s) (k:Int)=some (if r.all letB=true then .inr () else .inl ()):=by
    intro r
    induction r with
    | nil =>
      intro k hk;have:=Kj hk;refine B9 ?_;rw [hf,Bb,if_neg (by rw [Lh];omega)];rfl
    | cons c r ih =>
      intro k hk;obtain ⟨hlt,hc,hr⟩:=K5 hk
      have e:f (k:Int)=if letB c=true then some (Step.next ((k:Int)+1)) else some (Step.done (.inl ())):=by
        rw [hf,Bb,if_pos (by rw [Lh];omega),sAt_str hlt,Option.bind_some,hc,letter_f,Option.bind_some]
        cases letB c
        · rfl
        · rw [if_neg (by decide),Cd (by omega) (by omega)];rfl
      cases h:letB c with
      | false =>
        rw [h,if_neg (by decide)] at e
        rw [B9 e];simp [h]
      | true =>
        rw [h,if_pos rfl] at e;rw [Cp e,show ((k:Int)+1)=((k+1:Nat):Int) from rfl,ih (k+1) hr];simp [h]
  exact key l 0 rfl
theorem bad_f (p:List UInt8):((if decide (str p=(⟨#[]⟩:ByteArray)) then some true else some (decide (str p=(⟨#[46]⟩:ByteArray)))).bind fun x2 =>
    (if x2 then some true else some (decide (str p=(⟨#[46,46]⟩:ByteArray)))))=some (badP p):=by
  rw [show (⟨#[]⟩:ByteArray)=str [] from rfl,show (⟨#[46]⟩:ByteArray)=str [46] from rfl,show (⟨#[46,46]⟩:ByteArray)=str [46,46] from rfl];simp only [orB,Option.bind_some,str_dec];rfl
theorem badK_f (p:List UInt8) {β:Type} (K:Bool→Option β):((if decide (str p=(⟨#[]⟩:ByteArray)) then some true else some (decide (str p=(⟨#[46]⟩:ByteArray)))).bind fun x2 =>
    (if x2 then some true else some (decide (str p=(⟨#[46,46]⟩:ByteArray)))).bind K)=K (badP p):=by
  have:=bad_f p;rw [← Option.bind_assoc,this,Option.bind_some]
theorem vj1_f {p:List UInt8} (hp:p.length≤1000):Ay.j1 (str p)=some (okPart p):=by
  unfold Ay.j1;rw [badK_f];cases h:badP p with
  | true=>simp [okPart,h,Ay.j2]
  | false =>
    rw [if_neg (by decide),letters_f (f:=fun x=>Ay.l1 (str p) x) hp (fun x=>rfl),Option.bind_some]
    unfold okPart;rw [h];cases p.all letB <;> rfl
theorem idx_f (l:List UInt8):Lib.indexByte l 47=match l.dropWhile (· != 47) with
    | []=>-1
    | _::_=>((l.takeWhile (· != 47)).length:Int):=by
  induction l with
  | nil=>rfl
  | cons c r ih =>
    unfold Lib.indexByte;by_cases h:c=47
    · subst h;simp [List.dropWhile_cons,List.takeWhile_cons]
    · have h2:(c != 47)=true:=by simpa using h
      rw [List.dropWhile_cons,List.takeWhile_cons,h2,if_pos rfl,if_pos rfl];have h3:(c == 47)=false:=by simpa using h
      rw [ih];cases hd:r.dropWhile (· != 47) with
      | nil=>simp [h3,h]
      | cons a b=>simp [h3,h] <;> omega
theorem index_f (l:List UInt8):Mf (str l)=some (Lib.indexByte l 47):=by
  unfold Mf Lp;rw [Bb];by_cases h:(⟨#[47]⟩:ByteArray)=str l
  · rw [if_pos h];have:l=[47]:=(str_inj (a:=[47]) (b:=l) h).symm;subst this;rfl
  · rw [if_neg h];show (some (idxB (str l) 47)).bind _=_;unfold idxB;rw [show (str l).data.toList=l from bts_str l];rfl
noncomputable def outV:Bool ⊕ ByteArray→Option Bool:=fun r=>match r with
  | .inl p=>some p
  | .inr p=>Ay.j1 p
theorem vp_iter:∀ (n:Nat) (l:List UInt8),l.length < n→l.length≤60→(Dv (fun s=>Ay.l2 s) (str l)).bind outV=some (vp [] l)
  | 0,_,h,_=>absurd h (by omega)
  | n+1,l,hn,hl=>by
    have hi:=idx_f l;have hs:=vp_span l [];have htd:l.takeWhile (· != 47)++l.dropWhile (· != 47)=l:=List.takeWhile_append_dropWhile;have e:Ay.l2 (str l)=Ay.l2 (str l):=rfl
    conv at e=>rhs;unfold Ay.l2
    rw [index_f,Option.bind_some] at e;simp only [List.nil_append] at hs;generalize ha:l.takeWhile (· != 47)=a at hi hs htd;cases hd:l.dropWhile (· != 47) with
    | nil =>
      rw [hd] at hi hs htd;simp only at hi hs;simp only [List.append_nil] at htd;rw [hi,if_pos (by decide)] at e
      rw [B9 e,Option.bind_some,hs];rw [htd];exact vj1_f (by omega)
    | cons c r =>
      rw [hd] at hi hs htd
      have hc:c=47:=by
        have:=List.head?_dropWhile_not (fun x:UInt8=>x != 47) l;rw [hd] at this;simpa using this
      subst hc;simp only at hi hs;have hlen:a.length+r.length+1=l.length:=by rw [← htd];simp;omega
      have hcut:scut? (str l) 0 (a.length:Int)=some (str a):=by
        have:=scut_str (l:=l) (i:=0) (j:=a.length) (by omega) (by omega)
        rw [show ((0:Nat):Int)=0 from rfl] at this;rw [this,← htd];simp
      rw [hi,Bb,if_neg (by omega),Int.add_zero,Cd (by omega) (by omega),Option.bind_some,hcut,Option.bind_some,badK_f] at e
      unfold okPart at hs;cases hb:badP a with
      | true =>
        rw [hb] at e hs;rw [if_pos rfl] at e;rw [B9 (show _=some (Step.done (Sum.inl false)) from e),hs];rfl
      | false =>
        rw [hb] at e hs;rw [if_neg (by decide),letters_f (f:=fun x=>Ay.l3 (str a) x) (by omega) (fun x=>rfl),Option.bind_some] at e
        cases hq:a.all letB with
        | false =>
          rw [hq] at e hs;rw [B9 (show _=some (Step.done (Sum.inl false)) from e),hs];rfl
        | true =>
          rw [hq] at e hs
          have hcut2:scut? (str l) ((a.length:Int)+1) ((str l).size:Int)=some (str r):=by
            have:=scut_str (l:=l) (i:=a.length+1) (j:=l.length) (by omega) (by omega)
            rw [Lh];rw [show (((a.length+1:Nat)):Int)=(a.length:Int)+1 from rfl] at this;rw [this,List.take_length,← htd];simp
          simp only [if_pos rfl,Ay.j7,Ay.j6] at e;rw [Cd (by omega) (by omega),Option.bind_some,hcut2,Option.bind_some] at e
          rw [Cp e,vp_iter n r (by omega) (by omega),hs];rfl
theorem ValidPath_f (s:ByteArray):Ay s=some (E1 s):=by
  unfold Ay E1;rw [Bb];by_cases h:s.size≤60
  · rw [if_neg (by omega)]
    have:=vp_iter ((bts s).length+1) (bts s) (by omega) (by rw [bts_len];exact h)
    rw [str_bts] at this;rw [decide_eq_true h,Bool.true_and];exact this
  · rw [if_pos (by omega),decide_eq_false h];rfl
theorem Ho {s:ByteArray} (h:E1 s=true):s.size≤60:=by
  unfold E1 at h;simp only [Bool.and_eq_true,decide_eq_true_eq] at h;exact h.1
def slb (x y:List UInt8):Bool:=decide (y.take (x.length+1)=x++[47])
def Lf (a b:ByteArray):Bool:=decide (a=b) || slb (bts b) (bts a) || slb (bts a) (bts b)
theorem relB_comm (a b:ByteArray):Lf a b=Lf b a:=by
  unfold Lf;rw [show decide (a=b)=decide (b=a) from decide_eq_decide.2 eq_comm,Bool.or_assoc,Bool.or_assoc,Bool.or_comm (slb (bts b) (bts a))]
theorem relB_self (a:ByteArray):Lf a a=true:=by simp [Lf]
theorem hasPrefix_f (s p:List UInt8):G6 (str s) (str p)=some (decide (s.take p.length=p)):=by
  unfold G6 Hw;rw [Bb];by_cases h:p.length≤s.length
  · have hc:=scut_str (l:=s) (i:=0) (j:=p.length) (by omega) h
    rw [show ((0:Nat):Int)=0 from rfl,List.drop_zero] at hc;rw [if_pos (by rw [Lh,Lh];omega),Lh,hc]
    simp only [Option.bind_some,str_dec]
  · rw [if_neg (by rw [Lh,Lh];omega)]
    have:¬ s.take p.length=p:=fun e=>by
      have:=congrArg List.length e;simp at this;omega
    rw [decide_eq_false this];rfl
theorem cat_str {a b:List UInt8} (h:a.length+b.length≤9223372036854775807):cat? (str a) (str b)=some (str (a++b)):=by
  unfold cat?;rw [if_pos (by rw [Lh,Lh];exact h)]
  refine congrArg some (bts_inj ?_);rw [bts_str];show (str a++str b).data.toList=a++b;rw [ByteArray.data_append];simp [str]
theorem Related_f {a b:ByteArray} (ha:a.size≤1000000) (hb:b.size≤1000000):Gc a b=some (Lf a b):=by
  have h1:=cat_str (a:=bts b) (b:=[47]) (by rw [bts_len];simp;omega)
  have h2:=cat_str (a:=bts a) (b:=[47]) (by rw [bts_len];simp;omega)
  have g1:=hasPrefix_f (bts a) (bts b++[47]);have g2:=hasPrefix_f (bts b) (bts a++[47]);rw [str_bts] at h1 h2 g1 g2;unfold Gc;rw [show (⟨#[47]⟩:ByteArray)=str [47] from rfl,h1,h2];simp only [Option.bind_some];rw [g1,g2];simp only [Option.bind_some,orB];unfold Lf slb;simp
theorem bl_irr:∀ x:List UInt8,Op.bytesLess x x=false
  | []=>rfl
  | a::x=>by simp [Op.bytesLess,bl_irr x,UInt8.lt_irrefl]
theorem bl_tri:∀ x y:List UInt8,Op.bytesLess x y=true∨x=y∨Op.bytesLess y x=true
  | [],[]=>.inr (.inl rfl)
  | [],_::_=>.inl rfl
  | _::_,[]=>.inr (.inr rfl)
  | a::x,b::y=>by
    simp only [Op.bytesLess,Bool.or_eq_true,decide_eq_true_eq,Bool.and_eq_true,beq_iff_eq]
    have h0:a=b∨a < b∨b < a:=by
      by_cases h:a=b
      · exact .inl h
      · exact .inr (UInt8.lt_or_lt_of_ne h)
    rcases h0 with h | h | h
    · subst h;rcases bl_tri x y with h | h | h
      · exact .inl (.inr ⟨rfl,h⟩)
      · exact .inr (.inl (by rw [h]))
      · exact .inr (.inr (.inr ⟨rfl,h⟩))
    · exact .inl (.inl h)
    · exact .inr (.inr (.inl h))
theorem bl_trans:∀ {x y z:List UInt8},Op.bytesLess x y=true→Op.bytesLess y z=true→Op.bytesLess x z=true
  | x,[],z,h1,h2=>by cases x <;> cases h1
  | x,b::y,[],h1,h2=>by cases h2
  | [],b::y,c::z,h1,h2=>rfl
  | a::x,b::y,c::z,h1,h2=>by
    simp only [Op.bytesLess,Bool.or_eq_true,decide_eq_true_eq,Bool.and_eq_true,beq_iff_eq] at h1 h2 ⊢;rcases h1 with h1 | ⟨rfl,h1⟩
    · rcases h2 with h2 | ⟨rfl,h2⟩
      · exact .inl (UInt8.lt_trans h1 h2)
      · exact .inl h1
    · rcases h2 with h2 | ⟨rfl,h2⟩
      · exact .inl h2
      · exact .inr ⟨rfl,bl_trans h1 h2⟩
theorem cmp_neg:∀ x y:List UInt8,decide (Lib.compareBytes x y < 0)=Op.bytesLess x y
  | [],[]=>rfl
  | [],_::_=>rfl
  | _::_,[]=>rfl
  | a::x,b::y=>by
    unfold Lib.compareBytes Op.bytesLess;by_cases h:a < b
    · simp [h]
    · by_cases h2:b < a
      · have:¬ a=b:=by intro e;subst e;exact h h2
        simp [h,h2,this]
      · have:a=b:=UInt8.le_antisymm (UInt8.not_lt.1 h2) (UInt8.not_lt.1 h);subst this;simp only [h,if_false,decide_false,Bool.false_or,beq_self_eq_true,Bool.true_and];exact cmp_neg x y
theorem cmp_zero:∀ x y:List UInt8,(Lib.compareBytes x y=0)↔x=y
  | [],[]=>by simp [Lib.compareBytes]
  | [],_::_=>by simp [Lib.compareBytes]
  | _::_,[]=>by simp [Lib.compareBytes]
  | a::x,b::y=>by
    unfold Lib.compareBytes;by_cases h:a < b
    · have:¬ a=b:=by intro e;subst e;exact UInt8.lt_irrefl _ h
      simp [h,this]
    · by_cases h2:b < a
      · have:¬ a=b:=by intro e;subst e;exact h h2
        simp [h,h2,this]
      · have:a=b:=UInt8.le_antisymm (UInt8.not_lt.1 h2) (UInt8.not_lt.1 h);subst this;simp only [h,if_false,List.cons.injEq,true_and];exact cmp_zero x y
theorem sLt_bts (a b:ByteArray):sLt a b=Op.bytesLess (bts a) (bts b):=by
  unfold sLt;rw [Ot,Ot];rfl
theorem H3 (a:ByteArray):sLt a a=false:=by rw [sLt_bts];exact bl_irr _
theorem sLt_tri (a b:ByteArray):sLt a b=true∨a=b∨sLt b a=true:=by
  rw [sLt_bts,sLt_bts];rcases bl_tri (bts a) (bts b) with h | h | h
  · exact .inl h
  · exact .inr (.inl (bts_inj h))
  · exact .inr (.inr h)
theorem Ni {a b c:ByteArray} (h1:sLt a b=true) (h2:sLt b c=true):sLt a c=true:=by
  rw [sLt_bts] at *;exact bl_trans h1 h2
theorem L0 {a b:ByteArray} (h:sLt a b=true):sLt b a=false:=by
  cases h2:sLt b a
  · rfl
  · have:=Ni h h2;rw [H3] at this;cases this
theorem sLt_ne {a b:ByteArray} (h:sLt a b=true):a≠b:=by intro e;subst e;rw [H3] at h;cases h
theorem cmpB_neg (a b:ByteArray):decide (cmpB a b < 0)=sLt a b:=by rw [sLt_bts];exact cmp_neg _ _
theorem cmpB_zero (a b:ByteArray):decide (cmpB a b=0)=decide (a=b):=decide_eq_decide.2 ⟨fun h=>bts_inj ((cmp_zero _ _).1 h),fun h=>(cmp_zero _ _).2 (by rw [h])⟩
def Gv (l:List File):Prop:=l.Pairwise fun f g=>sLt f.Path g.Path=true
def Ee (l:List File) (p:ByteArray):Nat:=(l.takeWhile fun f=>sLt f.Path p).length
def Et (l:List File) (p:ByteArray):Bool:=l.any fun f=>decide (f.Path=p)
theorem pos_le (l:List File) (p:ByteArray):Ee l p≤l.length:=by
  unfold Ee;exact (List.takeWhile_prefix _).length_le
theorem pos_lt:∀ {l:List File} (h:Gv l) (p:ByteArray) (i:Nat) (hi:i < l.length),sLt l[i].Path p=decide (i < Ee l p)
  | [],h,p,i,hi=>by cases hi
  | f::l,h,p,i,hi=>by
    have h':=List.pairwise_cons.1 h;unfold Ee;rw [List.takeWhile_cons];cases hf:sLt f.Path p
    · simp only [Bool.false_eq_true,if_false,List.length_nil,Nat.not_lt_zero,decide_false];cases i with
      | zero=>exact hf
      | succ i =>
        simp only [List.getElem_cons_succ];have hi':i < l.length:=by simpa using hi
        have:=h'.1 l[i] (List.getElem_mem _);cases hg:sLt l[i].Path p
        · rfl
        · rw [Ni this hg] at hf;cases hf
    · simp only [if_true,List.length_cons];cases i with
      | zero=>simp [hf]
      | succ i =>
        simp only [List.getElem_cons_succ,Nat.add_lt_add_iff_right];exact pos_lt h'.2 p i (by simpa using hi)
theorem shr1u {b:Int} (h:0≤b):shr? .u64 b 1=some (b / 2):=by
  unfold shr?;rw [if_neg (by decide)]
  have:(2:Int) ^ (min (1:Int).toNat IntKind.u64.bits)=2:=by decide
  rw [this,Int.fdiv_eq_ediv_of_nonneg _ (by decide)]
theorem ckU {x:Int} (h1:0≤x) (h2:x≤9223372036854775807):ckK .u64 x=some x:=by
  unfold ckK inK
  have:IntKind.u64.wrap x=x:=by
    simp [IntKind.wrap,IntKind.bits,IntKind.signed];omega
  rw [if_pos (decide_eq_true this)]
theorem finds_f (f:File) (p:ByteArray):Ka f p=some (cmpB f.Path p):=rfl
theorem find_iter {l:List File} (h:Gv l) (p:ByteArray) (hl:l.length≤1000000):∀ (n lo hi:Nat),hi - lo≤n→lo≤Ee l p→Ee l p≤hi→hi≤l.length →
    Dv (fun s=>Bx.l1 l p s.1 s.2) ((hi:Int),(lo:Int))=some ((Ee l p:Nat):Int):=by
  intro n
  induction n with
  | zero =>
    intro lo hi hn h1 h2 h3;have e:Ee l p=lo:=by omega
    rw [B9 (r:=((Ee l p:Nat):Int))];show Bx.l1 l p _ _=_;unfold Bx.l1;rw [decide_eq_false (by omega),if_neg Bool.false_ne_true,e]
  | succ n ih =>
    intro lo hi hn h1 h2 h3;by_cases hlt:lo < hi
    · have hm:(((lo:Int)+hi) / 2)=((lo+hi) / 2:Nat):=by omega
      have hml:(lo+hi) / 2 < l.length:=by omega
      have hstep:Bx.l1 l p (hi:Int) (lo:Int)=some (if (lo+hi) / 2 < Ee l p then Step.next ((hi:Int),(((lo+hi) / 2+1:Nat):Int)) else Step.next ((((lo+hi) / 2:Nat):Int),(lo:Int))):=by
        unfold Bx.l1;rw [decide_eq_true (by omega:(lo:Int) < hi),if_pos rfl,Cd (by omega) (by omega),Option.bind_some,ckU (by omega) (by omega),Option.bind_some,shr1u (by omega),Option.bind_some,hm,Cd (by omega) (by omega),Option.bind_some,C3 hml,Option.bind_some,finds_f,Option.bind_some,cmpB_neg,pos_lt h p _ hml]
        by_cases hc:(lo+hi) / 2 < Ee l p
        · rw [if_pos hc,decide_eq_true hc,if_pos rfl,Cd (by omega) (by omega),Option.bind_some];rfl
        · rw [if_neg hc,decide_eq_false hc,if_neg Bool.false_ne_true]
      by_cases hc:(lo+hi) / 2 < Ee l p
      · rw [if_pos hc] at hstep;rw [Cp (s':=((hi:Int),(((lo+hi) / 2+1:Nat):Int))) hstep];exact ih _ _ (by omega) (by omega) h2 h3
      · rw [if_neg hc] at hstep;rw [Cp (s':=((((lo+hi) / 2:Nat):Int),(lo:Int))) hstep];exact ih _ _ (by omega) h1 (by omega) (by omega)
    · have e:Ee l p=lo:=by omega
      rw [B9 (r:=((Ee l p:Nat):Int))];show Bx.l1 l p _ _=_;unfold Bx.l1;rw [decide_eq_false (by omega),if_neg Bool.false_ne_true,e]
theorem has_at {l:List File} (h:Gv l) (p:ByteArray):Et l p=if hp:Ee l p < l.length then decide (l[Ee l p].Path=p) else false:=by
  rw [Bool.eq_iff_iff];constructor
  · intro hh;unfold Et at hh;rw [List.any_eq_true] at hh;obtain ⟨f,hf,he⟩:=hh;obtain ⟨i,hi,rfl⟩:=List.getElem_of_mem hf;have he:=of_decide_eq_true he;have h1:=pos_lt h p i hi;rw [he,H3] at h1;have h1:¬ i < Ee l p:=of_decide_eq_false h1.symm;have hpl:Ee l p < l.length:=by omega
    rw [dif_pos hpl];refine decide_eq_true ?_;rcases Nat.lt_or_ge (Ee l p) i with h2 | h2
    · have h3:=List.pairwise_iff_getElem.1 h _ _ hpl hi h2;have h4:=pos_lt h p _ hpl;rw [he] at h3;rw [h3] at h4;simp at h4
    · have:i=Ee l p:=by omega
      subst this;exact he
  · intro hh;split at hh
    · rename_i hp
      unfold Et;rw [List.any_eq_true];exact ⟨_,List.getElem_mem hp,hh⟩
    · cases hh
theorem Find_f {l:List File} (h:Gv l) (hl:l.length≤1000000) (p:ByteArray):Bx l p=some (((Ee l p:Nat):Int),Et l p):=by
  unfold Bx;have:=find_iter h p hl l.length 0 l.length (by omega) (Nat.zero_le _) (pos_le l p) (Nat.le_refl _)
  rw [show ((0:Nat):Int)=0 from rfl] at this;rw [this,Option.bind_some];unfold Bx.j1;rw [has_at h p];by_cases hp:Ee l p < l.length
  · rw [dif_pos hp,decide_eq_true (by omega),if_pos rfl,C3 hp,Option.bind_some,finds_f,Option.bind_some,cmpB_zero];rfl
  · rw [dif_neg hp,decide_eq_false (by omega),if_neg Bool.false_ne_true];rfl
def Gi {α ρ:Type} (g:Nat→α→Option ρ):Nat→List α→Option ρ
  | _,[]=>Option.none
  | k,x::r=>match g k x with
    | some y=>some y
    | Option.none=>Gi g (k+1) r
theorem scan_iter {α ρ:Type} {f:Int→Option (Step Int (ρ ⊕ Unit))} (l:List α) (g:Nat→α→Option ρ)
    (hs:∀ k (h:k < l.length),(∀ j (hj:j < l.length),j < k→g j l[j]=Option.none)→f (k:Int)=match g k l[k] with | some r=>some (.done (.inl r)) | Option.none=>some (.next ((k+1:Nat):Int)))
    (he:f (l.length:Int)=some (.done (.inr ()))):∀ (rest:List α) (k:Nat),l.drop k=rest→k≤l.length→(∀ j (hj:j < l.length),j < k→g j l[j]=Option.none)→Dv f (k:Int)=some (orL (Gi g k rest)):=by
  intro rest
  induction rest with
  | nil =>
    intro k hk hkl _;have:=Kj hk;have e:k=l.length:=by omega
    subst e;exact B9 he
  | cons x r ih =>
    intro k hk hkl hp;obtain ⟨hlt,hx,hr⟩:=K5 hk;have e:=hs k hlt hp;rw [hx] at e;rw [Gi];cases hg:g k x with
    | some y=>rw [hg] at e;exact B9 e
    | none =>
      rw [hg] at e;rw [Cp e];refine ih (k+1) hr (by omega) fun j hj hjk=>?_
      by_cases hjk':j=k
      · subst hjk';rw [hx];exact hg
      · exact hp j hj (by omega)
theorem scan0 {α ρ:Type} {f:Int→Option (Step Int (ρ ⊕ Unit))} (l:List α) (g:Nat→α→Option ρ)
    (hs:∀ k (h:k < l.length),(∀ j (hj:j < l.length),j < k→g j l[j]=Option.none)→f (k:Int)=match g k l[k] with | some r=>some (.done (.inl r)) | Option.none=>some (.next ((k+1:Nat):Int)))
    (he:f (l.length:Int)=some (.done (.inr ()))):Dv f 0=some (orL (Gi g 0 l)):=by
  have:=scan_iter l g hs he l 0 rfl (Nat.zero_le _) (fun j hj h=>absurd h (by omega))
  exact this
theorem Ml {α ρ:Type} {g:Nat→α→Option ρ}:∀ {l:List α} {k:Nat},Gi g k l=Option.none↔∀ j (h:j < l.length),g (k+j) l[j]=Option.none
  | [],k=>⟨fun _ j h=>absurd h (by simp),fun _=>rfl⟩
  | x::r,k=>by
    rw [Gi];cases hg:g k x with
    | some y =>
      simp only [reduceCtorEq,false_iff];intro h;have:=h 0 (by simp)
      rw [Nat.add_zero,List.getElem_cons_zero,hg] at this;cases this
    | none =>
      simp only;rw [Ml];constructor
      · intro h j hj;cases j with
        | zero=>exact hg
        | succ j =>
          have:=h j (by simpa using hj)
          rw [List.getElem_cons_succ,← this];congr 1;omega
      · intro h j hj;have:=h (j+1) (by simpa using hj)
        rw [List.getElem_cons_succ] at this;rw [← this];congr 1;omega
theorem Kb {α ρ:Type} {g:Nat→α→Option ρ}:∀ {l:List α} {k:Nat} {y:ρ},Gi g k l=some y→∃ j,∃ h:j < l.length,g (k+j) l[j]=some y
  | [],k,y,h=>by cases h
  | x::r,k,y,h=>by
    rw [Gi] at h;cases hg:g k x with
    | some z=>rw [hg] at h;exact ⟨0,by simp,by rw [Nat.add_zero];simpa [hg] using h⟩
    | none =>
      rw [hg] at h;obtain ⟨j,hj,e⟩:=Kb h;exact ⟨j+1,by simpa using hj,by rw [List.getElem_cons_succ,← e];congr 1;omega⟩
def clG (p:ByteArray) (e:Int) (k:Nat) (f:File):Option Bool:=if (k:Int)≠e∧Lf f.Path p=true then some true else Option.none
def Ej (l:List File) (p:ByteArray):Bool:=l.any fun f=>Lf f.Path p
theorem clash_f {l:List File} {p:ByteArray} (hl:∀ f∈l,f.Path.size≤1000000) (hn:l.length≤1000000) (hp:p.size≤1000000) (e:Int):Ca l p e=some (Gi (clG p e) 0 l).isSome:=by
  unfold Ca;rw [scan0 l (clG p e) ?_ ?_,Option.bind_some]
  · cases h:Gi (clG p e) 0 l with
    | none=>rfl
    | some b =>
      obtain ⟨j,hj,hg⟩:=Kb h;unfold clG at hg;split at hg
      · cases hg;rfl
      · cases hg
  · intro k h _;unfold Ca.l1 clG;rw [decide_eq_true (by omega),if_pos rfl,C3 h,Option.bind_some]
    have hs:=hl _ (List.getElem_mem h);by_cases hk:(k:Int)=e
    · rw [decide_eq_true hk,if_neg (by simp),Option.bind_some,if_neg Bool.false_ne_true,Cd (by omega) (by omega),Option.bind_some,if_neg (fun h=>h.1 hk)];rfl
    · rw [decide_eq_false hk,if_pos (by rfl),Related_f hs hp,Option.bind_some,Option.bind_some]
      cases hr:Lf l[k].Path p
      · rw [if_neg Bool.false_ne_true,Cd (by omega) (by omega),Option.bind_some,if_neg (fun h=>Bool.false_ne_true h.2)];rfl
      · rw [if_pos rfl,if_pos ⟨hk,rfl⟩]
  · unfold Ca.l1;rw [decide_eq_false (by omega),if_neg Bool.false_ne_true]
theorem clO_all {p:ByteArray}:∀ (l:List File) (k:Nat),(Gi (clG p (-1)) k l).isSome=Ej l p
  | [],k=>rfl
  | f::l,k=>by
    rw [Gi];unfold clG Ej;rw [List.any_cons];cases h:Lf f.Path p
    · rw [if_neg (fun h=>Bool.false_ne_true h.2)];simp only [Bool.false_or];exact clO_all l (k+1)
    · rw [if_pos ⟨by omega,rfl⟩];rfl
theorem clO_ne {p:ByteArray}:∀ (l:List File) (k j:Nat),(Gi (clG p ((k+j:Nat):Int)) k l).isSome=Ej (l.eraseIdx j) p
  | [],k,j=>rfl
  | f::l,k,0=>by
    rw [Gi];unfold clG;rw [if_neg (fun h=>h.1 rfl)];simp only [List.eraseIdx_zero,List.tail_cons]
    have:∀ (m:List File) (q:Nat),k < q→(Gi (clG p ((k+0:Nat):Int)) q m).isSome=Ej m p:=by
      intro m
      induction m with
      | nil=>intro q _;rfl
      | cons f m ih =>
        intro q hq;rw [Gi];unfold clG Ej;rw [List.any_cons];cases h:Lf f.Path p
        · rw [if_neg (fun h=>Bool.false_ne_true h.2)];simp only [Bool.false_or];exact ih (q+1) (by omega)
        · rw [if_pos ⟨by omega,rfl⟩];rfl
    exact this l (k+1) (by omega)
  | f::l,k,j+1=>by
    rw [Gi];have hc:=clO_ne (p:=p) l (k+1) j;rw [show k+1+j=k+(j+1) by omega] at hc
    unfold Ej at hc ⊢;rw [List.eraseIdx_cons_succ,List.any_cons];unfold clG;cases h:Lf f.Path p
    · rw [if_neg (fun h=>Bool.false_ne_true h.2)];simp only [Bool.false_or];exact hc
    · rw [if_pos ⟨by omega,rfl⟩];rfl
def trG (l:List File) (k:Nat) (f:File):Option Fault :=
  if E1 f.Path=false then some ⟨12,k⟩
  else if 0 < k∧∃ q,l[k - 1]? = some q∧sLt q.Path f.Path=false then some ⟨5,k⟩
  else if Ej (l.take k) f.Path=true then some ⟨7,k⟩
  else if (B8 f.Lines).Code≠0 then some ⟨(B8 f.Lines).Code,k⟩ else Option.none
def Eq (l:List File):Fault:=if l.length > 24 then ⟨2,-1⟩ else (Gi (trG l) 0 l).getD ⟨0,0⟩
theorem trG_path {l:List File} {k:Nat} {f:File} (h:trG l k f=Option.none):E1 f.Path=true:=by
  unfold trG at h;cases hp:E1 f.Path
  · rw [if_pos hp] at h;cases h
  · rfl
theorem ord_dec (p q:ByteArray):(sLt p q || decide (p=q)) = !sLt q p:=by
  rcases sLt_tri p q with h | h | h
  · rw [h,L0 h];rfl
  · subst h;rw [H3];simp
  · rw [h,L0 h,decide_eq_false (sLt_ne h).symm];rfl
theorem prev_f (l:List File) {k:Nat} (hk:k < l.length) (h1000:l.length≤1000000):((if decide ((k:Int) > 0) then (ckK .i64 ((k:Int) - 1)).bind fun z1=>(at? l z1).bind fun y3=>some (sLt l[k].Path y3.Path || decide (l[k].Path=y3.Path)) else some false):Option Bool) =
    some (decide (0 < k∧∃ q,l[k - 1]? = some q∧sLt q.Path l[k].Path=false)):=by
  by_cases h0:0 < k
  · have hk1:k - 1 < l.length:=by omega
    rw [decide_eq_true (by omega),if_pos rfl,Cd (by omega) (by omega),Option.bind_some,show ((k:Int) - 1)=((k - 1:Nat):Int) by omega,C3 hk1,Option.bind_some,ord_dec]
    congr 1;rw [Bool.eq_iff_iff];simp only [List.getElem?_eq_getElem hk1,Option.some.injEq,exists_eq_left',h0,true_and,decide_eq_true_eq];cases sLt l[k - 1].Path l[k].Path <;> simp
  · rw [decide_eq_false (by omega),if_neg Bool.false_ne_true,decide_eq_false (fun h=>h0 h.1)]
theorem Validate_f (t:FileTree):Ct t=some (Eq t.Files):=by
  obtain ⟨l⟩:=t;unfold Ct Eq;simp only;by_cases h24:l.length > 24
  · rw [decide_eq_true (by omega),if_pos rfl,if_pos h24]
  rw [decide_eq_false (by omega),if_neg Bool.false_ne_true,if_neg h24,scan0 l (trG l) ?_ ?_,Option.bind_some]
  · cases Gi (trG l) 0 l <;> rfl
  · intro k h hp
    have hsz:∀ f∈l.take k,f.Path.size≤60:=by
      intro f hf;obtain ⟨j,hj,rfl⟩:=List.getElem_of_mem hf;rw [List.getElem_take];rw [List.length_take] at hj;exact Ho (trG_path (hp j (by omega) (by omega)))
    unfold Ct.l1 trG;simp only;rw [decide_eq_true (by omega),if_pos rfl,C3 h,Option.bind_some,ValidPath_f,Option.bind_some]
    cases hv:E1 l[k].Path
    · rw [if_pos (by rfl),if_pos rfl]
    · rw [if_neg (show ¬ ((!true)=true) by decide),if_neg (show ¬ (true=false) by decide),prev_f l h (by omega),Option.bind_some]
      by_cases h5:0 < k∧∃ q,l[k - 1]? = some q∧sLt q.Path l[k].Path=false
      · rw [decide_eq_true h5,if_pos rfl,if_pos h5]
      · rw [decide_eq_false h5,if_neg Bool.false_ne_true,if_neg h5,cut_eq (by omega) (by omega) (by omega),Option.bind_some,show ((0:Int)).toNat=0 from rfl,List.drop_zero,Int.toNat_natCast,
          clash_f (fun f hf=>by have:=hsz f hf;omega) (by rw [List.length_take];omega) (by have:=Ho hv;omega),Option.bind_some,clO_all]
        cases h7:Ej (l.take k) l[k].Path
        · rw [if_neg Bool.false_ne_true,if_neg Bool.false_ne_true,second_f,Option.bind_some];by_cases hc:(B8 l[k].Lines).Code=0
          · rw [if_pos hc,if_neg (by decide),if_neg (by simpa using hc),Cd (by omega) (by omega),Option.bind_some];rfl
          · rw [if_neg hc,if_pos (by simp [hc]),if_pos hc]
        · rw [if_pos rfl,if_pos rfl]
  · unfold Ct.l1;rw [decide_eq_false (by simp),if_neg Bool.false_ne_true]
structure TrOk (l:List File):Prop where
  len:l.length≤24
  srt:Gv l
  path:∀ f∈l,E1 f.Path=true
  rel:l.Pairwise fun f g=>Lf f.Path g.Path=false
  text:∀ f∈l,Gx f.Lines
theorem trG_code {l:List File} {k:Nat} {f:File} {y:Fault} (h:trG l k f=some y):y.Code≠0:=by
  unfold trG at h;split at h
  · cases h;simp
  · split at h
    · cases h;simp
    · split at h
      · cases h;simp
      · split at h
        · rename_i hc;cases h;exact hc
        · cases h
theorem Od (l:List File):Eq l=⟨0,0⟩∨(Eq l).Code≠0:=by
  unfold Eq;split
  · right;decide
  · cases h:Gi (trG l) 0 l with
    | none=>left;rfl
    | some y =>
      right;obtain ⟨j,hj,e⟩:=Kb h;exact trG_code e
theorem Gt (l:List File):(Eq l).Code=0↔TrOk l:=by
  unfold Eq;by_cases h24:l.length > 24
  · rw [if_pos h24];exact ⟨fun h=>by simp at h,fun h=>by have:=h.len;omega⟩
  rw [if_neg h24]
  have e1:(((Gi (trG l) 0 l).getD ⟨0,0⟩).Code=0)↔Gi (trG l) 0 l=Option.none:=by
    cases h:Gi (trG l) 0 l with
    | none=>simp
    | some y =>
      obtain ⟨j,hj,e⟩:=Kb h;simp [trG_code e]
  rw [e1,Ml];simp only [Nat.zero_add];constructor
  · intro h
    have h2:∀ j (hj:j < l.length),E1 l[j].Path=true∧¬ (0 < j∧∃ q,l[j - 1]? = some q∧sLt q.Path l[j].Path=false)∧Ej (l.take j) l[j].Path=false∧(B8 l[j].Lines).Code=0:=by
      intro j hj;have:=h j hj;unfold trG at this;cases hp:E1 l[j].Path
      · rw [if_pos hp] at this;cases this
      · rw [if_neg (by rw [hp];decide)] at this
        split at this
        · cases this
        · rename_i h5
          split at this
          · cases this
          · rename_i h7
            split at this
            · cases this
            · rename_i hc
              exact ⟨rfl,h5,by simpa using h7,by simpa using hc⟩
    have hadj:∀ j (hj:j+1 < l.length),sLt l[j].Path l[j+1].Path=true:=by
      intro j hj;have:=(h2 (j+1) hj).2.1;cases hs:sLt l[j].Path l[j+1].Path
      · exact absurd ⟨by omega,l[j],by simp,hs⟩ this
      · rfl
    have hlt:∀ (d i:Nat) (hd:i+d+1 < l.length),sLt l[i].Path l[i+d+1].Path=true:=by
      intro d
      induction d with
      | zero=>intro i hd;exact hadj i hd
      | succ d ih=>intro i hd;exact Ni (ih i (by omega)) (hadj (i+d+1) hd)
    refine ⟨by omega,?_,?_,?_,?_⟩
    · refine List.pairwise_iff_getElem.2 fun i j hi hj hij=>?_;obtain ⟨d,rfl⟩:∃ d,j=i+d+1:=⟨j - i - 1,by omega⟩
      exact hlt d i hj
    · intro f hf;obtain ⟨j,hj,rfl⟩:=List.getElem_of_mem hf;exact (h2 j hj).1
    · refine List.pairwise_iff_getElem.2 fun i j hi hj hij=>?_;have:=(h2 j hj).2.2.1;unfold Ej at this;rw [List.any_eq_false] at this
      have hm:l[i]∈l.take j:=by
        rw [List.mem_take_iff_getElem];exact ⟨i,by omega,rfl⟩
      simpa using this _ hm
    · intro f hf;obtain ⟨j,hj,rfl⟩:=List.getElem_of_mem hf;exact (Ez _).2 ((Dq _).2 (h2 j hj).2.2.2)
  · intro h j hj;have hm:=List.getElem_mem hj;unfold trG;rw [if_neg (by rw [h.path _ hm];decide),if_neg ?_,if_neg ?_,if_neg ?_]
    · simpa using (Dq _).1 ((Ez _).1 (h.text _ hm))
    · have:Ej (l.take j) l[j].Path=false:=by
        unfold Ej;rw [List.any_eq_false];intro f hf;rw [List.mem_take_iff_getElem] at hf;obtain ⟨i,hi,rfl⟩:=hf;have:=List.pairwise_iff_getElem.1 h.rel i j (by omega) hj (by omega)
        simpa using this
      rw [this];decide
    · rintro ⟨h0,q,hq,hs⟩;have hk1:j - 1 < l.length:=by omega
      rw [List.getElem?_eq_getElem hk1] at hq;cases hq;have:=List.pairwise_iff_getElem.1 h.srt (j - 1) j hk1 hj (by omega)
      rw [this] at hs;cases hs
theorem tsecond_f (t:FileTree) (i:Int):Hi t i=some (if (Eq t.Files).Code=0 then ⟨0,0⟩ else ⟨(Eq t.Files).Code,i⟩):=by
  unfold Hi;rw [Validate_f,Option.bind_some];rcases Od t.Files with h | h
  · rw [h];rfl
  · rw [if_pos (Li.2 fun h2=>h h2.1),if_neg h]
end Go.Dc
