import Derived.Test.YtkcnbopeghkdlaaGreatDoorDcFJ
set_option linter.unusedSimpArgs false
set_option linter.unusedVariables false
set_option maxRecDepth 4000
namespace Go.Dc
open Go
theorem split_loop {n:Nat} (hn:n≤1000):∀ (d k j:Nat),k=2 ^ j→k < n→n - k≤d→∃ q i:Nat,Gk (fun s=>E0.l1 (n:Int) s) (k:Int)=some (q:Int)∧q=2 ^ i∧q < n∧n≤2 * q:=by
 intro d
 induction d with
 | zero=>intro k j _ h2 h3;omega
 | succ d ih =>
  intro k j hj h2 h3;have hk:1≤k:=by rw [hj];exact Nat.one_le_two_pow
  by_cases hlt:2 * k < n
  ·obtain ⟨q,i,e,hq⟩:=ih (2 * k) (j+1) (by rw [hj,Nat.pow_succ];omega) hlt (by omega)
   refine ⟨q,i,?_,hq⟩
   have h:E0.l1 (n:Int) (k:Int)=some (.next ((2 * k:Nat):Int)):=by
    unfold E0.l1;rw [C9 (by omega) (by omega),Aa,A2,Af (by omega),C9 (by omega) (by omega),Aa,show (k:Int) * 2=((2 * k:Nat):Int) by omega]
   rw [C7 h,e]
  ·refine ⟨k,j,?_,hj,h2,by omega⟩
   have h:E0.l1 (n:Int) (k:Int)=some (.done (k:Int)):=by
    unfold E0.l1;rw [C9 (by omega) (by omega),Aa,A2,Ae (by omega)]
   rw [C4 h]
theorem split_ex {n:Nat} (h2:2≤n) (hn:n≤1000):∃ q i:Nat,E0 (n:Int)=some (q:Int)∧q=2 ^ i∧q < n∧n≤2 * q:=by
 obtain ⟨q,i,e,h⟩:=split_loop hn n 1 0 rfl (by omega) (by omega)
 refine ⟨q,i,?_,h⟩;unfold E0;rw [show (1:Int)=((1:Nat):Int) from rfl,e,Aa];rfl
noncomputable def sp (n:Nat):Nat:=((E0 (n:Int)).getD 0).toNat
theorem sp_ok {n:Nat} (h2:2≤n) (hn:n≤1000):E0 (n:Int)=some (sp n:Int)∧1≤sp n∧sp n < n∧(∃ i,sp n=2 ^ i)∧n≤2 * sp n:=by
 obtain ⟨q,i,e,h1,h3,h4⟩:=split_ex h2 hn;have:sp n=q:=by unfold sp;rw [e];simp
 rw [this];exact ⟨e,by rw [h1];exact Nat.one_le_two_pow,h3,⟨i,h1⟩,h4⟩
theorem sp_same {n m:Nat} (h2:2≤n) (hn:n≤1000) (h:sp n < m) (hm:m≤n):sp m=sp n:=by
 obtain ⟨_,a1,_,⟨i,a2⟩,a3⟩:=sp_ok h2 hn;obtain ⟨_,b1,b4,⟨j,b2⟩,b3⟩:=sp_ok (n:=m) (by omega) (by omega)
 rw [a2,b2];congr 1;rcases Oo i j with h' | h' | h'
 ·have:=Nat.pow_le_pow_right (n:=2) (by decide) (show i+1≤j from h')
  rw [Nat.pow_succ] at this;omega
 ·exact h'.symm
 ·have:=Nat.pow_le_pow_right (n:=2) (by decide) (show j+1≤i from h')
  rw [Nat.pow_succ] at this;omega
theorem tcut0 {l:List Int} {k:Nat} (h:k≤l.length):cut? l 0 (k:Int)=some (l.take k):=by
 rw [Vd (by omega) (by omega) (by omega)];simp
theorem tcutk {l:List Int} {k:Nat} (h:k≤l.length):cut? l (k:Int) (l.length:Int)=some (l.drop k):=by
 rw [Vd (by omega) (by omega) (by omega)];simp
theorem Za {a b:Int} (ha:Dig a) (hb:Dig b):L9 a b=some (pr a b):=by
 unfold L9;rw [(pr_ok ha hb).1,Aa]
theorem root_ex:∀ (n:Nat) (l:List Int),l.length≤n→1≤l.length→l.length≤64→(∀ x∈l,Dig x)→∃ v,Dig v∧∀ g,l.length≤g→Co.m g l=some v:=by
 intro n
 induction n with
 | zero=>intro l h1 h2;omega
 | succ n ih =>
  intro l h1 h2 h3 hd;by_cases h:l.length=1
  ·obtain ⟨x,rfl⟩:=List.length_eq_one_iff.1 h;refine ⟨x,hd x (by simp),fun g hg=>?_⟩
   cases g with
   | zero=>simp at hg
   | succ g =>
    show Co.body _ _=_;unfold Co.body;rw [A2,Ae (by simp),A2,Af (by simp)]
    rfl
  ·obtain ⟨s1,s2,s3,_,_⟩:=sp_ok (n:=l.length) (by omega) (by omega)
   obtain ⟨a,ha,ea⟩:=ih (l.take (sp l.length)) (by rw [Bg];omega) (by rw [Bg];omega) (by rw [Bg];omega) fun x hx=>hd x (C3 hx)
   obtain ⟨b,hb,eb⟩:=ih (l.drop (sp l.length)) (by rw [Bz];omega) (by rw [Bz];omega) (by rw [Bz];omega) fun x hx=>hd x (Et hx)
   refine ⟨pr a b,(pr_ok ha hb).2.2.1,fun g hg=>?_⟩;cases g with
   | zero=>omega
   | succ g =>
    show Co.body _ _=_;unfold Co.body;rw [A2,Ae (by omega),A2,Ae (by omega),s1,Aa,tcut0 (by omega),Aa,ea g (by rw [Bg];omega),Aa,tcutk (by omega),Aa,eb g (by rw [Bz];omega),Aa,Za ha hb,Aa]
noncomputable def rt (l:List Int):Int:=(Co l).getD 0
theorem rt_nil:Co []=some (rt []):=by
 have:Co []=some 0:=by
  unfold Co;show Co.body _ _=_;unfold Co.body;rw [A2,Af (by simp)]
 unfold rt;rw [this];rfl
theorem Y0 {l:List Int} (h1:1≤l.length) (h2:l.length≤64) (hd:∀ x∈l,Dig x):Co l=some (rt l)∧Dig (rt l)∧∀ g,l.length≤g→Co.m g l=some (rt l):=by
 obtain ⟨v,hv,e⟩:=root_ex l.length l (C8 _) h1 h2 hd;have:Co l=some v:=e 64 h2;have hr:rt l=v:=by unfold rt;rw [this];rfl
 rw [hr];exact ⟨this,hv,e⟩
theorem rt_eq {l:List Int} (h1:2≤l.length) (h2:l.length≤64) (hd:∀ x∈l,Dig x):rt l=pr (rt (l.take (sp l.length))) (rt (l.drop (sp l.length))):=by
 obtain ⟨s1,s2,s3,_,_⟩:=sp_ok (n:=l.length) (by omega) (by omega)
 obtain ⟨e,_,_⟩:=Y0 (by omega) h2 hd
 obtain ⟨_,ha,ea⟩:=Y0 (l:=l.take (sp l.length)) (by rw [Bg];omega) (by rw [Bg];omega) fun x hx=>hd x (C3 hx)
 obtain ⟨_,hb,eb⟩:=Y0 (l:=l.drop (sp l.length)) (by rw [Bz];omega) (by rw [Bz];omega) fun x hx=>hd x (Et hx)
 have e2:Co l=some (pr (rt (l.take (sp l.length))) (rt (l.drop (sp l.length)))):=by
  show Co.body (Co.m 63) l=_;unfold Co.body;rw [A2,Ae (by omega),A2,Ae (by omega),s1,Aa,tcut0 (by omega),Aa,ea 63 (by rw [Bg];omega),Aa,tcutk (by omega),Aa,eb 63 (by rw [Bz];omega),Aa,Za ha hb,Aa]
 rw [e] at e2;exact Gx e2
theorem rt_one (x:Int) (h:Dig x):rt [x]=x:=by
 have:Co [x]=some x:=by
  show Co.body (Co.m 63) [x]=_;unfold Co.body;rw [A2,Ae (by simp),A2,Af (by simp)];rfl
 unfold rt;rw [this];rfl
theorem tnext_f (a:Int) (r:List Int) (sh:Bool):Ka ⟨a::r,sh⟩=some (a,⟨r,sh⟩):=by
 unfold Ka;simp only;rw [A2,Ae (by simp;omega)]
 rw [show at? (a::r) 0=some a from rfl,Aa,show (1:Int)=((1:Nat):Int) from rfl,tcutk (by simp),Aa];rfl
theorem incl:∀ (n:Nat) (l:List Int) (i:Nat) (hi:i < l.length),l.length≤n→l.length≤64→(∀ x∈l,Dig x) →
  ∃ p:List Int,p.length+1≤l.length∧(∀ x∈p,Dig x)∧(∀ g,l.length≤g→Ey.m g l (i:Int)=some p)∧∀ g,l.length≤g→∀ (rest:List Int) (sh:Bool),B3.m g ⟨p++rest,sh⟩ (l.length:Int) (i:Int) l[i]=some (rt l,⟨rest,sh⟩):=by
 intro n
 induction n with
 | zero=>intro l i hi h1;omega
 | succ n ih =>
  intro l i hi h1 h2 hd;by_cases h:l.length=1
  ·obtain ⟨x,rfl⟩:=List.length_eq_one_iff.1 h;obtain rfl:i=0:=by simp at hi;exact hi
   refine ⟨[],by simp,by simp,fun g hg=>?_,fun g hg rest sh=>?_⟩
   ·cases g with
    | zero=>simp at hg
    | succ g =>
     show Ey.body _ _ _=_;unfold Ey.body;rw [A2,Af (by simp)]
   ·cases g with
    | zero=>simp at hg
    | succ g =>
     show B3.body _ _ _ _ _=_;unfold B3.body;rw [A2,Af (by simp),rt_one x (hd x (by simp))];rfl
  ·obtain ⟨s1,s2,s3,_,_⟩:=sp_ok (n:=l.length) (by omega) (by omega)
   have re:=rt_eq (by omega) h2 hd
   have ht:∀ x∈l.take (sp l.length),Dig x:=fun x hx=>hd x (C3 hx);have hp:∀ x∈l.drop (sp l.length),Dig x:=fun x hx=>hd x (Et hx);have lt:(l.take (sp l.length)).length=sp l.length:=by rw [Bg];omega
   have ld:(l.drop (sp l.length)).length=l.length - sp l.length:=Bz;obtain ⟨ra,da,_⟩:=Y0 (l:=l.take (sp l.length)) (by omega) (by omega) ht
   obtain ⟨rb,db,_⟩:=Y0 (l:=l.drop (sp l.length)) (by omega) (by omega) hp
   by_cases hlt:i < sp l.length
   ·obtain ⟨p,p1,p2,p3,p4⟩:=ih (l.take (sp l.length)) i (by omega) (by omega) (by omega) ht
    refine ⟨p++[rt (l.drop (sp l.length))],by rw [Au,Ar];omega,fun x hx=>?_,fun g hg=>?_,fun g hg rest sh=>?_⟩
    ·rcases Bl.1 hx with hx | hx
     ·exact p2 x hx
     ·rw [Bd] at hx;rw [hx];exact db
    ·cases g with
     | zero=>omega
     | succ g =>
      show Ey.body _ _ _=_;unfold Ey.body;rw [A2,Ae (by omega),s1,Aa,A2,Af (by omega),tcut0 (by omega),Aa,tcutk (by omega),Aa,p3 g (by omega),Aa,rb,Aa,H6 (by rw [Ar];omega),Aa]
    ·cases g with
     | zero=>omega
     | succ g =>
      have e:=p4 g (by omega) (rt (l.drop (sp l.length))::rest) sh
      rw [Gg] at e;simp only [lt] at e;show B3.body _ _ _ _ _=_;unfold B3.body;rw [A2,Ae (by omega),s1,Aa,A2,Af (by omega),A6,List.singleton_append,e,Aa]
      simp only;rw [tnext_f,Aa];simp only;rw [Za da db,Aa,← re]
   ·obtain ⟨p,p1,p2,p3,p4⟩:=ih (l.drop (sp l.length)) (i - sp l.length) (by omega) (by omega) (by omega) hp
    refine ⟨p++[rt (l.take (sp l.length))],by rw [Au,Ar];omega,fun x hx=>?_,fun g hg=>?_,fun g hg rest sh=>?_⟩
    ·rcases Bl.1 hx with hx | hx
     ·exact p2 x hx
     ·rw [Bd] at hx;rw [hx];exact da
    ·cases g with
     | zero=>omega
     | succ g =>
      show Ey.body _ _ _=_;unfold Ey.body;rw [A2,Ae (by omega),s1,Aa,A2,Ae (by omega),tcutk (by omega),Aa,C9 (by omega) (by omega),Aa,tcut0 (by omega),Aa,show (i:Int) - (sp l.length:Int)=((i - sp l.length:Nat):Int) by omega,p3 g (by omega),Aa,ra,Aa,H6 (by rw [Ar];omega),Aa]
    ·cases g with
     | zero=>omega
     | succ g =>
      have e:=p4 g (by omega) (rt (l.take (sp l.length))::rest) sh
      rw [D6] at e;simp only [ld] at e;simp only [show sp l.length+(i - sp l.length)=i by omega] at e
      show B3.body _ _ _ _ _=_;unfold B3.body;rw [A2,Ae (by omega),s1,Aa,A2,Ae (by omega),C9 (by omega) (by omega),Aa,C9 (by omega) (by omega),Aa,A6,List.singleton_append,show (i:Int) - (sp l.length:Int)=((i - sp l.length:Nat):Int) by omega,show (l.length:Int) - (sp l.length:Int)=((l.length - sp l.length:Nat):Int) by omega,e,Aa]
      simp only;rw [tnext_f,Aa];simp only;rw [Za da db,Aa,← re]
theorem cons_ok:∀ (n:Nat) (l:List Int) (m:Nat) (known:Bool),1≤m→m≤l.length→l.length≤n→l.length≤64→(∀ x∈l,Dig x) →
  ∃ p:List Int,p.length≤l.length∧(∀ x∈p,Dig x)∧(∀ g,l.length≤g→Cr.m g l (m:Int) known=some p) ∧
   ∀ g,l.length≤g→∀ (rest:List Int) (sh:Bool) (old:Int),(known=true→old=rt (l.take m))→Bm.m g ⟨p++rest,sh⟩ (l.length:Int) (m:Int) old known=some (rt (l.take m),rt l,⟨rest,sh⟩):=by
 intro n
 induction n with
 | zero=>intro l m known h0 h1 h2;omega
 | succ n ih =>
  intro l m known h0 h1 h2 h3 hd;by_cases h:m=l.length
  ·subst h;obtain ⟨r,dr,_⟩:=Y0 (by omega) h3 hd
   cases known with
   | true =>
    refine ⟨[],by simp,by simp,fun g hg=>?_,fun g hg rest sh old ho=>?_⟩
    ·cases g with
     | zero=>omega
     | succ g =>
      show Cr.body _ _ _ _=_;unfold Cr.body;rw [A2,Af rfl,Af rfl]
    ·cases g with
     | zero=>omega
     | succ g =>
      have ho:=ho rfl;rw [C2] at ho ⊢;show Bm.body _ _ _ _ _ _=_;unfold Bm.body;rw [A2,Af rfl,Ae (by simp),ho];rfl
   | false =>
    refine ⟨[rt l],by rw [Ar];omega,fun x hx=>by rw [Bd] at hx;rw [hx];exact dr,fun g hg=>?_,fun g hg rest sh old ho=>?_⟩
    ·cases g with
     | zero=>omega
     | succ g =>
      show Cr.body _ _ _ _=_;unfold Cr.body;rw [A2,Af rfl,Ae (by simp),r,Aa]
    ·cases g with
     | zero=>omega
     | succ g =>
      rw [C2];show Bm.body _ _ _ _ _ _=_;unfold Bm.body;rw [A2,Af rfl,Af (by simp),List.singleton_append,tnext_f,Aa];rfl
  ·obtain ⟨s1,s2,s3,_,_⟩:=sp_ok (n:=l.length) (by omega) (by omega)
   have re:=rt_eq (by omega) h3 hd
   have ht:∀ x∈l.take (sp l.length),Dig x:=fun x hx=>hd x (C3 hx);have hp:∀ x∈l.drop (sp l.length),Dig x:=fun x hx=>hd x (Et hx);have lt:(l.take (sp l.length)).length=sp l.length:=by rw [Bg];omega
   have ld:(l.drop (sp l.length)).length=l.length - sp l.length:=Bz;obtain ⟨ra,da,_⟩:=Y0 (l:=l.take (sp l.length)) (by omega) (by omega) ht
   obtain ⟨rb,db,_⟩:=Y0 (l:=l.drop (sp l.length)) (by omega) (by omega) hp
   by_cases hle:m≤sp l.length
   ·obtain ⟨p,p1,p2,p3,p4⟩:=ih (l.take (sp l.length)) m known h0 (by omega) (by omega) (by omega) ht
    refine ⟨p++[rt (l.drop (sp l.length))],by rw [Au,Ar];omega,fun x hx=>?_,fun g hg=>?_,fun g hg rest sh old ho=>?_⟩
    ·rcases Bl.1 hx with hx | hx
     ·exact p2 x hx
     ·rw [Bd] at hx;rw [hx];exact db
    ·cases g with
     | zero=>omega
     | succ g =>
      show Cr.body _ _ _ _=_;unfold Cr.body;rw [A2,Ae (by omega),s1,Aa,A2,Af (by omega),tcut0 (by omega),Aa,tcutk (by omega),Aa,p3 g (by omega),Aa,rb,Aa,H6 (by rw [Ar];omega),Aa]
    ·cases g with
     | zero=>omega
     | succ g =>
      have tt:(l.take (sp l.length)).take m=l.take m:=by rw [List.take_take,Nat.min_eq_left hle]
      have e:=p4 g (by omega) (rt (l.drop (sp l.length))::rest) sh old (by rw [tt];exact ho)
      rw [lt,tt] at e;show Bm.body _ _ _ _ _ _=_;unfold Bm.body;rw [A2,Ae (by omega),s1,Aa,A2,Af (by omega),A6,List.singleton_append,e,Aa]
      simp only;rw [tnext_f,Aa];simp only;rw [Za da db,Aa,← re]
   ·obtain ⟨p,p1,p2,p3,p4⟩:=ih (l.drop (sp l.length)) (m - sp l.length) false (by omega) (by omega) (by omega) (by omega) hp
    have hm:∀ x∈l.take m,Dig x:=fun x hx=>hd x (C3 hx);have lm:(l.take m).length=m:=by rw [Bg];omega
    have sm:sp m=sp l.length:=sp_same (by omega) (by omega) (by omega) h1
    have rm:=rt_eq (l:=l.take m) (by omega) (by omega) hm
    rw [lm,sm,List.take_take,Nat.min_eq_left (by omega),List.drop_take] at rm
    obtain ⟨_,dm,_⟩:=Y0 (l:=(l.drop (sp l.length)).take (m - sp l.length)) (by rw [Bg];omega) (by rw [Bg];omega) fun x hx=>hp x (C3 hx)
    refine ⟨p++[rt (l.take (sp l.length))],by rw [Au,Ar];omega,fun x hx=>?_,fun g hg=>?_,fun g hg rest sh old ho=>?_⟩
    ·rcases Bl.1 hx with hx | hx
     ·exact p2 x hx
     ·rw [Bd] at hx;rw [hx];exact da
    ·cases g with
     | zero=>omega
     | succ g =>
      show Cr.body _ _ _ _=_;unfold Cr.body;rw [A2,Ae (by omega),s1,Aa,A2,Ae (by omega),tcutk (by omega),Aa,C9 (by omega) (by omega),Aa,tcut0 (by omega),Aa,show (m:Int) - (sp l.length:Int)=((m - sp l.length:Nat):Int) by omega,p3 g (by omega),Aa,ra,Aa,H6 (by rw [Ar];omega),Aa]
    ·cases g with
     | zero=>omega
     | succ g =>
      have e:=p4 g (by omega) (rt (l.take (sp l.length))::rest) sh old (by simp)
      rw [ld] at e;show Bm.body _ _ _ _ _ _=_;unfold Bm.body;rw [A2,Ae (by omega),s1,Aa,A2,Ae (by omega),C9 (by omega) (by omega),Aa,C9 (by omega) (by omega),Aa,A6,List.singleton_append,show (m:Int) - (sp l.length:Int)=((m - sp l.length:Nat):Int) by omega,show (l.length:Int) - (sp l.length:Int)=((l.length - sp l.length:Nat):Int) by omega,e,Aa]
      simp only;rw [tnext_f,Aa];simp only;rw [Za da dm,Aa,Za da db,Aa,← re,← rm]
theorem ldig_f {l:List Int} (hd:∀ x∈l,Dig x) (hl:l.length≤1000) (k:Int):Hj k l=some ⟨0,0⟩:=by
 unfold Hj;rw [scan0 l (fun _ _=>(Option.none:Option Fault)) ?_ ?_,Aa]
 ·cases hs:Ll (fun _ _=>(Option.none:Option Fault)) 0 l with
  | none=>rfl
  | some y=>obtain ⟨j,hj,e⟩:=Mr hs;cases e
 ·intro k' hk _;unfold Hj.l1;rw [A2,Af (by omega),Ds hk,Aa,Zh (hd _ (A5 hk)),Aa]
  simp only [C6,Bc,Cg];rw [C9 (by omega) (by omega)];rfl
 ·unfold Hj.l1;rw [A2,Ae (by omega)]
theorem lchk_f {l:List Int} (hd:∀ x∈l,Dig x) (hl:l.length≤64):N2 l=some ⟨0,0⟩:=by
 unfold N2;rw [A2,Ae (by omega),ldig_f hd (by omega),Aa]
theorem lchkP_f {l:List Int} (hd:∀ x∈l,Dig x) (hl:l.length≤64):Mh l=some ⟨0,0⟩:=by
 unfold Mh;rw [A2,Ae (by omega),ldig_f hd (by omega),Aa]
theorem TRoot_f {l:List Int} (hd:∀ x∈l,Dig x) (hl:l.length≤64):Te l=some (rt l,⟨0,0⟩):=by
 unfold Te;rw [lchk_f hd hl,Aa];simp only [Dd,Eu,C6,Bc,Cg];by_cases h:l.length=0
 ·rw [List.length_eq_zero_iff] at h;subst h;rw [rt_nil,Aa]
 ·rw [(Y0 (by omega) hl hd).1,Aa]
theorem TProve_f {l:List Int} (hd:∀ x∈l,Dig x) (hl:l.length≤64) {i:Nat} (hi:i < l.length) :
  ∃ p:List Int,p.length≤64∧(∀ x∈p,Dig x)∧M6 l (i:Int)=some (p,⟨0,0⟩)∧B3 ⟨p,false⟩ (l.length:Int) (i:Int) l[i]=some (rt l,⟨[],false⟩):=by
 obtain ⟨p,h1,h2,h3,h4⟩:=incl l.length l i hi (C8 _) hl hd;refine ⟨p,by omega,h2,?_,?_⟩
 ·unfold M6;rw [lchk_f hd hl,Aa];simp only [Dd,Eu,C6,Bc,Cg];rw [A2,Ae (by omega),Aa,A2,Ae (by omega)]
  show (Ey.m 64 l (i:Int)).bind _=_;rw [h3 64 hl,Aa]
 ·have:=h4 64 hl [] false;rw [Ba] at this;exact this
theorem TCons_f {l:List Int} (hd:∀ x∈l,Dig x) (hl:l.length≤64) {m:Nat} (h1:1≤m) (h2:m≤l.length) :
  ∃ p:List Int,p.length≤64∧(∀ x∈p,Dig x)∧Lf l (m:Int)=some (p,⟨0,0⟩)∧Bm ⟨p,false⟩ (l.length:Int) (m:Int) (rt (l.take m)) true=some (rt (l.take m),rt l,⟨[],false⟩):=by
 obtain ⟨p,h3,h4,h5,h6⟩:=cons_ok l.length l m true h1 h2 (C8 _) hl hd;refine ⟨p,by omega,h4,?_,?_⟩
 ·unfold Lf;rw [lchk_f hd hl,Aa];simp only [Dd,Eu,C6,Bc,Cg];rw [A2,Ae (by omega),Aa,A2,Ae (by omega)]
  show (Cr.m 64 l (m:Int) true).bind _=_;rw [h5 64 hl,Aa]
 ·have:=h6 64 hl [] false (rt (l.take m)) (fun _=>rfl);rw [Ba] at this;exact this
theorem tdone_f:Mn ⟨[],false⟩=some true:=rfl
theorem TVerify_f {l p:List Int} (hd:∀ x∈l,Dig x) (hl:l.length≤64) (hp:p.length≤64) (hpd:∀ x∈p,Dig x) {i:Nat} (hi:i < l.length)
  (h:B3 ⟨p,false⟩ (l.length:Int) (i:Int) l[i]=some (rt l,⟨[],false⟩)):E4 (rt l) (l.length:Int) (i:Int) l[i] p=some (true,⟨0,0⟩):=by
 unfold E4;rw [Zh (Y0 (by omega) hl hd).2.1,Aa,A2,Af (by omega),Aa,A2,Af (by omega),Aa,Zh (hd _ (A5 hi)),Aa,Aw (show (l.length:Int)≤64 by omega),Aw (show (i:Int) < (l.length:Int) by omega)]
 have e:Gk (fun s=>E4.l1 true true true true s) 0=some (.inr ()):=by
  have e0:E4.l1 true true true true 0=some (.next 1):=rfl
  have e1:E4.l1 true true true true 1=some (.next 2):=rfl
  have e2:E4.l1 true true true true 2=some (.next 3):=rfl
  have e3:E4.l1 true true true true 3=some (.next 4):=rfl
  have e4:E4.l1 true true true true 4=some (.done (.inr ())):=rfl;rw [C7 e0,C7 e1,C7 e2,C7 e3,C4 e4]
 rw [e,Aa];simp only;unfold E4.j1;rw [lchkP_f hpd hp,Aa];simp only [Dd,Eu,C6,Bc,Cg];rw [h,Aa];simp only [Dd,G0];rw [tdone_f,Aa];rfl
theorem TVerifyC_f {l p:List Int} (hd:∀ x∈l,Dig x) (hl:l.length≤64) (hp:p.length≤64) (hpd:∀ x∈p,Dig x) {m:Nat} (h1:1≤m) (h2:m≤l.length)
  (h:Bm ⟨p,false⟩ (l.length:Int) (m:Int) (rt (l.take m)) true=some (rt (l.take m),rt l,⟨[],false⟩)):Ca (rt (l.take m)) (m:Int) (rt l) (l.length:Int) p=some (true,⟨0,0⟩):=by
 have lm:(l.take m).length=m:=by rw [Bg];omega
 unfold Ca;rw [Zh (Y0 (l:=l.take m) (by omega) (by omega) fun x hx=>hd x (C3 hx)).2.1,Aa,A2,Af (by omega),Aa,Zh (Y0 (by omega) hl hd).2.1,Aa,A2,Af (by omega),Aa,Aw (show (m:Int)≤(l.length:Int) by omega),Aw (show (l.length:Int)≤64 by omega)]
 have e:Gk (fun s=>Ca.l1 true true true true s) 0=some (.inr ()):=by
  have e0:Ca.l1 true true true true 0=some (.next 1):=rfl
  have e1:Ca.l1 true true true true 1=some (.next 2):=rfl
  have e2:Ca.l1 true true true true 2=some (.next 3):=rfl
  have e3:Ca.l1 true true true true 3=some (.next 4):=rfl
  have e4:Ca.l1 true true true true 4=some (.done (.inr ())):=rfl;rw [C7 e0,C7 e1,C7 e2,C7 e3,C4 e4]
 rw [e,Aa];simp only;unfold Ca.j1;rw [lchkP_f hpd hp,Aa];simp only [Dd,Eu,C6,Bc,Cg];rw [h,Aa];simp only [Dd,G0,Aa];rw [tdone_f,Aa];rfl
end Go.Dc
