import Derived.Test.YtmaepcbnjkanhaaGreatDoorDcP
import Derived.Test.YtmaepcbnjkanhaaGreatDoorDcPS
import Derived.Test.YtmaepcbnjkanhaaGreatDoorDcM
import Derived.Test.YtmaepcbnjkanhaaGreatDoorDcRS
import Derived.Lib.IndexAny
set_option linter.unusedSimpArgs false
set_option linter.unusedVariables false
set_option maxRecDepth 4000
namespace Go.Dc
open Go
section
variable {a b : List ByteArray} (hs : (a.length + 1) * (b.length + 1) * 8 ≤ 140737488355328) include hs
end
def OkLine (s:ByteArray):Prop:=s.size≤80∧idxB s 10 < 0
def Kl (l:List ByteArray):Prop:=l.length≤120∧∀ s∈l,OkLine s
theorem not_okText {l:List ByteArray} {k:Nat} (h:k < l.length) (hs:¬ OkLine l[k]):¬ Kl l:=fun ⟨_,hl⟩=>hs (hl _ (List.getElem_mem h))
theorem validate_eq (l:List ByteArray):∃ f,Cx l=some f∧((f=⟨0,0⟩∧Kl l)∨(f.Code≠0∧¬ Kl l)):=by
  unfold Cx;rw [Ba];by_cases h120:(l.length:Int) > 120
  · rw [if_pos h120];exact ⟨_,rfl,.inr ⟨by simp,fun h=>by have:=h.1;omega⟩⟩
  · rw [if_neg h120]
    obtain ⟨r,h1,h2⟩:=M6 (m:=fun s=>Cx.l1 l s) (fun s=>∃ k:Nat,s=(k:Int)∧k≤l.length∧∀ q (hq:q < l.length),q < k→OkLine l[q]) (fun s=>l.length - s.toNat)
      (fun r=>(r=.inr ()∧Kl l)∨∃ f,r=.inl f∧f.Code≠0∧¬ Kl l) (by
        rintro s ⟨k,rfl,hk,hall⟩;unfold Cx.l1;rw [Ba];by_cases hlt:k < l.length
        · rw [if_pos (by omega),Dg hlt,Option.bind_some,Ba]
          by_cases h80:(l[k].size:Int) > 80
          · rw [if_pos h80];exact .inr ⟨_,rfl,.inr ⟨_,rfl,by simp,not_okText hlt (fun h=>by have:=h.1;omega)⟩⟩
          · rw [if_neg h80];unfold Hv Gb;simp only [Option.bind_some,Ba];by_cases h10:idxB l[k] 10 ≥ 0
            · rw [if_pos h10];exact .inr ⟨_,rfl,.inr ⟨_,rfl,by simp,not_okText hlt (fun h=>by have:=h.2;omega)⟩⟩
            · rw [if_neg h10,Cs (by omega) (by omega),Option.bind_some]
              refine .inl ⟨_,rfl,⟨k+1,by omega,hlt,fun q hq hqk=>?_⟩,by omega⟩
              by_cases he:q=k
              · subst he;exact ⟨by omega,by omega⟩
              · exact hall q hq (by omega)
        · rw [if_neg (by omega)]
          refine .inr ⟨_,rfl,.inl ⟨rfl,by omega,fun s hs=>?_⟩⟩
          obtain ⟨q,hq,rfl⟩:=List.getElem_of_mem hs;exact hall q hq (by omega)) 0 ⟨0,rfl,Nat.zero_le _,fun q hq h=>absurd h (by omega)⟩
    rw [h1,Option.bind_some];rcases h2 with ⟨rfl,h⟩ | ⟨f,rfl,h,h'⟩
    · exact ⟨_,rfl,.inl ⟨rfl,h⟩⟩
    · exact ⟨_,rfl,.inr ⟨h,h'⟩⟩
theorem Ls {f:Fault}:(!(decide (f.Code=0) && decide (f.Index=0)))=true↔¬ (f.Code=0∧f.Index=0):=by
  by_cases h:f.Code=0 <;> by_cases h':f.Index=0 <;> simp [h,h']
theorem Qo (a b:List ByteArray) (hb:a.length≤1000000):Bp a b=some (decide (a=b)):=by
  unfold Bp;rw [Kj];by_cases hl:(a.length:Int)=(b.length:Int)
  · rw [if_pos hl];have hl':a.length=b.length:=by omega
    obtain ⟨r,h1,h2⟩:=M6 (m:=fun s=>Bp.l1 a b s) (fun s=>∃ k:Nat,s=(k:Int)∧k≤a.length∧a.take k=b.take k) (fun s=>a.length - s.toNat)
      (fun r=>(r=.inr ()∧a=b)∨(r=.inl false∧a≠b)) (by
        rintro s ⟨k,rfl,hk,hall⟩;unfold Bp.l1;rw [Ba];by_cases hlt:k < a.length
        · rw [if_pos (by omega),Dg hlt,Option.bind_some,Dg (by omega),Option.bind_some,Kj]
          by_cases he:a[k]=b[k]
          · rw [if_pos he,Cs (by omega) (by omega),Option.bind_some]
            exact .inl ⟨_,rfl,⟨k+1,by omega,hlt,by rw [List.take_succ_eq_append_getElem hlt,List.take_succ_eq_append_getElem (by omega),hall,he]⟩,by omega⟩
          · rw [if_neg he];exact .inr ⟨_,rfl,.inr ⟨rfl,fun h=>he (by subst h;rfl)⟩⟩
        · rw [if_neg (by omega)]
          refine .inr ⟨_,rfl,.inl ⟨rfl,?_⟩⟩;rw [List.take_of_length_le (by omega),List.take_of_length_le (by omega)] at hall
          exact hall) 0 ⟨0,rfl,Nat.zero_le _,by simp⟩
    rw [h1,Option.bind_some];rcases h2 with ⟨rfl,h⟩ | ⟨rfl,h⟩
    · rw [decide_eq_true h];rfl
    · rw [decide_eq_false h]
  · rw [if_neg hl,decide_eq_false (fun h=>hl (by rw [h]))]
def orL {α:Type}:Option α→α ⊕ Unit
  | some x=>.inl x
  | Option.none=>.inr ()
theorem K6 {α:Type} {l r:List α} {x:α} {k:Nat} (h:l.drop k=x::r):∃ hk:k < l.length,l[k]=x∧l.drop (k+1)=r:=by
  have hk:k < l.length:=by
    rcases Nat.lt_or_ge k l.length with h' | h'
    · exact h'
    · rw [List.drop_eq_nil_of_le h'] at h;cases h
  rw [List.drop_eq_getElem_cons hk] at h;exact ⟨hk,(List.cons.inj h).1,(List.cons.inj h).2⟩
theorem Hz {α:Type} {l:List α} {k:Nat} (h:l.drop k=[]):l.length≤k:=by simpa using h
def hasNL (s:ByteArray):Bool:=s.data.toList.contains 10
theorem idxB_nl (s:ByteArray):decide (idxB s 10 ≥ 0)=hasNL s:=by
  unfold hasNL idxB;rw [Lib.contains_iff_indexByte];rfl
def tscan:Int→List ByteArray→Option Fault
  | _,[]=>Option.none
  | i,s::r=>if s.size > 80 then some ⟨2,i⟩ else if hasNL s then some ⟨5,i⟩ else tscan (i+1) r
def Cr (l:List ByteArray):Fault:=if l.length > 120 then ⟨2,-1⟩ else (tscan 0 l).getD ⟨0,0⟩
theorem Od (l:List ByteArray):Cx l=some (Cr l):=by
  unfold Cx Cr;rw [Ba];by_cases h120:l.length > 120
  · rw [if_pos (by omega),if_pos h120]
  · rw [if_neg (by omega),if_neg h120]
    have key:∀ (rest:List ByteArray) (k:Nat),l.drop k=rest→Dw (fun s=>Cx.l1 l s) (k:Int)=some (orL (tscan k rest)):=by
      intro rest
      induction rest with
      | nil =>
        intro k hk;have:=Hz hk;refine B2 ?_;unfold Cx.l1;rw [Ba,if_neg (by omega)];rfl
      | cons s r ih =>
        intro k hk;obtain ⟨hlt,hs,hr⟩:=K6 hk
        have e1:Cx.l1 l (k:Int)=if s.size > 80 then some (Step.done (.inl ⟨2,(k:Int)⟩)) else if hasNL s then some (Step.done (.inl ⟨5,(k:Int)⟩)) else some (Step.next ((k:Int)+1)):=by
          unfold Cx.l1 Hv Gb;simp (disch:=omega) only [Dg hlt,hs,Option.bind_some,Cs,if_pos,← idxB_nl,decide_eq_true_eq];by_cases h:s.size > 80
          · rw [if_pos (by omega),if_pos h]
          · rw [if_neg (by omega),if_neg h]
        rw [tscan];by_cases h80:s.size > 80
        · rw [if_pos h80] at e1 ⊢;exact B2 e1
        · rw [if_neg h80] at e1 ⊢;cases hn:hasNL s with
          | true=>rw [hn,if_pos rfl] at e1;exact B2 e1
          | false =>
            rw [hn,if_neg (by decide)] at e1
            have:=ih (k+1) hr;rw [Cp e1];exact this
    have:=key l 0 rfl;simp only [Int.natCast_zero] at this;rw [show (0:Int)=((0:Nat):Int) from rfl] at *;rw [key l 0 rfl,Option.bind_some];cases tscan ((0:Nat):Int) l <;> rfl
theorem sAt_nat {s:ByteArray} {k:Nat} (h:k < s.size):sAt? s (k:Int)=some ((s[k].toNat:Nat):Int):=by
  unfold sAt?;rw [if_pos (by omega)]
  simp [h]
theorem linesFault_f (l:List ByteArray):Bg l=some (Cr l):=by
  unfold Bg Cr Cv;rw [Ba];by_cases h120:l.length > 120
  · rw [if_pos (by omega),if_pos h120];rfl
  · rw [if_neg (by omega),if_neg h120]
    have key:∀ (rest:List ByteArray) (k:Nat),l.drop k=rest→Dw (fun s=>Bg.l1 l s) (k:Int)=some (orL (tscan k rest)):=by
      intro rest
      induction rest with
      | nil =>
        intro k hk;have:=Hz hk;refine B2 ?_;unfold Bg.l1;rw [Ba,if_neg (by omega)];rfl
      | cons s r ih =>
        intro k hk;obtain ⟨hlt,hs,hr⟩:=K6 hk;rw [tscan];by_cases h80:s.size > 80
        · rw [if_pos h80];refine B2 ?_;unfold Bg.l1 Cv;simp (disch:=omega) only [Ba,Dg hlt,hs,Option.bind_some,if_pos];rfl
        · rw [if_neg h80]
          have inner:∀ (tail:List UInt8) (j:Nat),s.data.toList.drop j=tail→Dw (fun q=>Bg.l2 l (k:Int) q) (j:Int)=some (orL (if tail.contains 10 then some ⟨5,(k:Int)⟩ else Option.none)):=by
            intro tail
            induction tail with
            | nil =>
              intro j hj;have:s.data.toList.length≤j:=Hz hj;have hsz:s.data.toList.length=s.size:=by rw [Array.length_toList];rfl
              refine B2 ?_;unfold Bg.l2;simp (disch:=omega) only [Ba,Dg hlt,hs,Option.bind_some,if_neg];rfl
            | cons c tl ih2 =>
              intro j hj;obtain ⟨hj1,hc,htl⟩:=K6 hj;have hsz:s.data.toList.length=s.size:=by rw [Array.length_toList];rfl
              have hcc:s[j]'(by omega)=c:=by rw [← hc];rfl
              have e2:Bg.l2 l (k:Int) (j:Int)=if c=10 then some (Step.done (.inl ⟨5,(k:Int)⟩)) else some (Step.next ((j:Int)+1)):=by
                unfold Bg.l2 Cv;simp (disch:=omega) only [Ba,Dg hlt,hs,Option.bind_some,if_pos,sAt_nat,hcc,Cs];by_cases h10:c=10
                · rw [if_pos h10,if_pos (by rw [h10];rfl)]
                · rw [if_neg h10,if_neg (fun h=>h10 (by
                    have:c.toNat=10:=by omega
                    exact UInt8.toNat_inj.1 this))]
              by_cases h10:c=10
              · rw [if_pos h10] at e2;rw [B2 e2,h10];simp [orL]
              · rw [if_neg h10] at e2;rw [Cp e2]
                have hcn:(c::tl).contains 10=tl.contains 10:=by
                  simp;exact fun h=>absurd h.symm h10
                rw [hcn];exact ih2 (j+1) htl
          have e0:=inner s.data.toList 0 rfl
          have e1:Bg.l1 l (k:Int)=if hasNL s then some (Step.done (.inl ⟨5,(k:Int)⟩)) else some (Step.next ((k:Int)+1)):=by
            unfold Bg.l1 Bg.j3 Bg.j2;rw [show (0:Int)=((0:Nat):Int) from rfl,e0];simp (disch:=omega) only [Ba,Dg hlt,hs,Option.bind_some,if_pos,if_neg,Cs];unfold hasNL;cases s.data.toList.contains 10 <;> rfl
          cases hn:hasNL s with
          | true=>rw [hn,if_pos rfl] at e1;exact B2 e1
          | false =>
            rw [hn,if_neg (by decide)] at e1
            rw [Cp e1];exact ih (k+1) hr
    rw [show (0:Int)=((0:Nat):Int) from rfl,key l 0 rfl,Option.bind_some];cases tscan ((0:Nat):Int) l <;> rfl
theorem linesCode_f (l:List ByteArray):E5 l=some (Cr l).Code:=by
  unfold E5;rw [linesFault_f];rfl
theorem tscan_code:∀ (l:List ByteArray) (i:Int) (f:Fault),tscan i l=some f→f.Code≠0
  | [],_,_,h=>by cases h
  | s::r,i,f,h=>by
    rw [tscan] at h;split at h
    · cases h;show (2:Int)≠0;decide
    · split at h
      · cases h;show (5:Int)≠0;decide
      · exact tscan_code r _ f h
theorem Lr (l:List ByteArray):Cr l=⟨0,0⟩∨(Cr l).Code≠0:=by
  unfold Cr;split
  · right;decide
  · cases h:tscan 0 l with
    | none=>left;rfl
    | some f=>right;exact tscan_code l 0 f h
theorem D9 (l:List ByteArray):Cr l=⟨0,0⟩↔(Cr l).Code=0:=by
  rcases Lr l with h | h
  · rw [h];exact ⟨fun _=>rfl,fun _=>rfl⟩
  · constructor
    · intro h2;rw [h2]
    · intro h2;exact absurd h2 h
theorem Gv (l:List ByteArray):Kl l↔Cr l=⟨0,0⟩:=by
  obtain ⟨f,h1,h2⟩:=validate_eq l;rw [Od] at h1;cases h1;rcases h2 with ⟨h3,h4⟩ | ⟨h3,h4⟩
  · exact ⟨fun _=>h3,fun _=>h4⟩
  · exact ⟨fun h=>absurd h h4,fun h=>absurd (by rw [h]) h3⟩
theorem second_f (l:List ByteArray) (i:Int):Ln l i=some (if (Cr l).Code=0 then ⟨0,0⟩ else ⟨(Cr l).Code,i⟩):=by
  unfold Ln;rw [Od,Option.bind_some];rcases Lr l with h | h
  · rw [h];rfl
  · rw [if_pos (Ls.2 fun h2=>h h2.1),if_neg h]
theorem orB (b c:Bool):(if b=true then some true else some c)=some (b || c):=by cases b <;> rfl
theorem andB (b c:Bool):(if b=true then some c else some false)=some (b && c):=by cases b <;> rfl
def bts (s:ByteArray):List UInt8:=s.data.toList
def str (l:List UInt8):ByteArray:=⟨l.toArray⟩
theorem Ks (s:ByteArray):(bts s).length=s.size:=rfl
@[simp] theorem bts_str (l : List UInt8) : bts (str l) = l := by simp [bts, str]
@[simp] theorem Oq (s : ByteArray) : str (bts s) = s := by cases s; simp [bts, str]
@[simp] theorem Ky (l : List UInt8) : (str l).size = l.length := by rw [← Ks, bts_str]
theorem str_inj {a b:List UInt8} (h:str a=str b):a=b:=by rw [← bts_str a,h,bts_str]
theorem str_dec (a b:List UInt8):decide (str a=str b)=decide (a=b):=decide_eq_decide.2 ⟨str_inj,fun h=>by rw [h]⟩
theorem bts_inj {a b:ByteArray} (h:bts a=bts b):a=b:=by rw [← Oq a,h,Oq]
theorem sAt_str {l:List UInt8} {k:Nat} (h:k < l.length):sAt? (str l) (k:Int)=some ((l[k].toNat:Nat):Int):=by
  have hk:k < (str l).size:=by rw [Ky];exact h
  have:(str l)[k]=l[k]:=by simp [str];rfl
  rw [sAt_nat hk,this];rfl
theorem Qi {l:List UInt8} {i j:Nat} (h1:i≤j) (h2:j≤l.length):scut? (str l) (i:Int) (j:Int)=some (str ((l.take j).drop i)):=by
  unfold scut?;rw [if_pos (by rw [Ky];omega)]
  congr 1;refine ByteArray.ext ?_;rw [ByteArray.data_extract];refine Array.toList_inj.1 ?_;rw [Array.toList_extract];simp [List.extract_eq_take_drop,str,List.drop_take]
def Qp (c:UInt8):Bool:=(decide (97≤c.toNat) && decide (c.toNat≤122)) || (decide (65≤c.toNat) && decide (c.toNat≤90)) || (decide (48≤c.toNat) && decide (c.toNat≤57)) || decide (c.toNat=46) || decide (c.toNat=95) || decide (c.toNat=45)
theorem letB_slash:Qp 47=false:=by decide
theorem letter_f (c:UInt8):Gu ((c.toNat:Nat):Int)=some (Qp c):=by
  unfold Gu Qp;generalize c.toNat=n;simp only [orB,andB,Option.bind_some]
  rw [show decide ((n:Int) ≥ 97)=decide (97≤n) from decide_eq_decide.2 (by omega),show decide ((n:Int)≤122)=decide (n≤122) from decide_eq_decide.2 (by omega),
    show decide ((n:Int) ≥ 65)=decide (65≤n) from decide_eq_decide.2 (by omega),show decide ((n:Int)≤90)=decide (n≤90) from decide_eq_decide.2 (by omega),
    show decide ((n:Int) ≥ 48)=decide (48≤n) from decide_eq_decide.2 (by omega),show decide ((n:Int)≤57)=decide (n≤57) from decide_eq_decide.2 (by omega),
    show decide ((n:Int)=46)=decide (n=46) from decide_eq_decide.2 (by omega),show decide ((n:Int)=95)=decide (n=95) from decide_eq_decide.2 (by omega),
    show decide ((n:Int)=45)=decide (n=45) from decide_eq_decide.2 (by omega)]
theorem pathByte_f (c:UInt8):L7 ((c.toNat:Nat):Int)=some (Qp c):=letter_f c
def badP (p:List UInt8):Bool:=decide (p=[]) || decide (p=[46]) || decide (p=[46,46])
def Nd (p:List UInt8):Bool:=!badP p && p.all Qp
def vp:List UInt8→List UInt8→Bool
  | cur,[]=>Nd cur
  | cur,c::r=>if c=47 then Nd cur && vp [] r else vp (cur++[c]) r
def Ec (s:ByteArray):Bool:=decide (s.size≤60) && vp [] (bts s)
theorem vp_span:∀ (l cur:List UInt8),vp cur l=match l.dropWhile (· != 47) with
    | []=>Nd (cur++l.takeWhile (· != 47))
    | _::r=>Nd (cur++l.takeWhile (· != 47)) && vp [] r
  | [],cur=>by simp [vp]
  | c::r,cur=>by
    rw [vp];by_cases h:c=47
    · subst h;rw [if_pos rfl];simp [List.dropWhile_cons,List.takeWhile_cons]
    · rw [if_neg h,vp_span r (cur++[c])];have:(c != 47)=true:=by simpa using h
      rw [List.dropWhile_cons,List.takeWhile_cons,this,if_pos rfl,if_pos rfl,List.append_assoc,List.singleton_append]
theorem vp_app:∀ (a k b:List UInt8),vp k (a++47::b)=(vp k a && vp [] b)
  | [],k,b=>by simp [vp]
  | c::a,k,b=>by
    rw [List.cons_append,vp,vp];by_cases h:c=47
    · rw [if_pos h,if_pos h,vp_app a [] b,Bool.and_assoc]
    · rw [if_neg h,if_neg h,vp_app a _ b]
theorem vp_no:∀ (l k:List UInt8),l.all Qp=true→vp k l=Nd (k++l)
  | [],k,_=>by simp [vp]
  | c::l,k,h=>by
    simp only [List.all_cons,Bool.and_eq_true] at h;have hc:¬ c=47:=fun e=>by rw [e,letB_slash] at h;exact absurd h.1 (by decide)
    rw [vp,if_neg hc,vp_no l _ h.2,List.append_assoc,List.singleton_append]
theorem vp_cur:∀ (l k:List UInt8),k.all Qp=false→vp k l=false
  | [],k,h=>by simp [vp,Nd,h]
  | c::l,k,h=>by
    rw [vp];split
    · simp [Nd,h]
    · exact vp_cur l _ (by simp [h])
theorem vp_bad:∀ (a k b:List UInt8) (c:UInt8),c≠47→Qp c=false→vp k (a++c::b)=false
  | [],k,b,c,h1,h2=>by
    rw [List.nil_append,vp,if_neg h1];exact vp_cur b _ (by simp [h2])
  | d::a,k,b,c,h1,h2=>by
    rw [List.cons_append,vp];split
    · rw [vp_bad a [] b c h1 h2,Bool.and_false]
    · exact vp_bad a _ b c h1 h2
theorem letters_f {f:Int→Option (Step Int (Unit ⊕ Unit))} {l:List UInt8} (hl:l.length≤1000)
    (hf:∀ x,f x=if decide (x < ((str l).size:Int))=true then (sAt? (str l) x).bind fun y1=>(Gu y1).bind fun y2=>if (!y2)=true then some (Step.done (Sum.inl ())) else (ckK .i64 (x+1)).bind fun z1=>some (Step.next z1) else some (Step.done (Sum.inr ()))) :
    Dw (fun s=>f s) 0=some (if l.all Qp=true then .inr () else .inl ()):=by
  have key:∀ (r:List UInt8) (k:Nat),l.drop k=r→Dw (fun s=>f s) (k:Int)=some (if r.all Qp=true then .inr () else .inl ()):=by
    intro r
    induction r with
    | nil =>
      intro k hk;have:=Hz hk;refine B2 ?_;rw [hf,Ba,if_neg (by rw [Ky];omega)];rfl
    | cons c r ih =>
      intro k hk;obtain ⟨hlt,hc,hr⟩:=K6 hk
      have e:f (k:Int)=if Qp c=true then some (Step.next ((k:Int)+1)) else some (Step.done (.inl ())):=by
        rw [hf,Ba,if_pos (by rw [Ky];omega),sAt_str hlt,Option.bind_some,hc,letter_f,Option.bind_some]
        cases Qp c
        · rfl
        · rw [if_neg (by decide),Cs (by omega) (by omega)];rfl
      cases h:Qp c with
      | false =>
        rw [h,if_neg (by decide)] at e
        rw [B2 e];simp [h]
      | true =>
        rw [h,if_pos rfl] at e;rw [Cp e,show ((k:Int)+1)=((k+1:Nat):Int) from rfl,ih (k+1) hr];simp [h]
  exact key l 0 rfl
theorem bad_f (p:List UInt8):((if decide (str p=(⟨#[]⟩:ByteArray)) then some true else some (decide (str p=(⟨#[46]⟩:ByteArray)))).bind fun x2 =>
    (if x2 then some true else some (decide (str p=(⟨#[46,46]⟩:ByteArray)))))=some (badP p):=by
  rw [show (⟨#[]⟩:ByteArray)=str [] from rfl,show (⟨#[46]⟩:ByteArray)=str [46] from rfl,show (⟨#[46,46]⟩:ByteArray)=str [46,46] from rfl];simp only [orB,Option.bind_some,str_dec];rfl
theorem badK_f (p:List UInt8) {β:Type} (K:Bool→Option β):((if decide (str p=(⟨#[]⟩:ByteArray)) then some true else some (decide (str p=(⟨#[46]⟩:ByteArray)))).bind fun x2 =>
    (if x2 then some true else some (decide (str p=(⟨#[46,46]⟩:ByteArray)))).bind K)=K (badP p):=by
  have:=bad_f p;rw [← Option.bind_assoc,this,Option.bind_some]
theorem vj1_f {p:List UInt8} (hp:p.length≤1000):Ay.j1 (str p)=some (Nd p):=by
  unfold Ay.j1;rw [badK_f];cases h:badP p with
  | true=>simp [Nd,h,Ay.j2]
  | false =>
    rw [if_neg (by decide),letters_f (f:=fun x=>Ay.l1 (str p) x) hp (fun x=>rfl),Option.bind_some]
    unfold Nd;rw [h];cases p.all Qp <;> rfl
theorem idx_f (l:List UInt8):Lib.indexByte l 47=match l.dropWhile (· != 47) with
    | []=>-1
    | _::_=>((l.takeWhile (· != 47)).length:Int):=by
  induction l with
  | nil=>rfl
  | cons c r ih =>
    unfold Lib.indexByte;by_cases h:c=47
    · subst h;simp [List.dropWhile_cons,List.takeWhile_cons]
    · have h2:(c != 47)=true:=by simpa using h
      rw [List.dropWhile_cons,List.takeWhile_cons,h2,if_pos rfl,if_pos rfl];have h3:(c == 47)=false:=by simpa using h
      rw [ih];cases hd:r.dropWhile (· != 47) with
      | nil=>simp [h3,h]
      | cons a b=>simp [h3,h] <;> omega
theorem index_f (l:List UInt8):L9 (str l)=some (Lib.indexByte l 47):=by
  unfold L9 K8;rw [Ba];by_cases h:(⟨#[47]⟩:ByteArray)=str l
  · rw [if_pos h];have:l=[47]:=(str_inj (a:=[47]) (b:=l) h).symm;subst this;rfl
  · rw [if_neg h];show (some (idxB (str l) 47)).bind _=_;unfold idxB;rw [show (str l).data.toList=l from bts_str l];rfl
noncomputable def outV:Bool ⊕ ByteArray→Option Bool:=fun r=>match r with
  | .inl p=>some p
  | .inr p=>Ay.j1 p
theorem vp_iter:∀ (n:Nat) (l:List UInt8),l.length < n→l.length≤60→(Dw (fun s=>Ay.l2 s) (str l)).bind outV=some (vp [] l)
  | 0,_,h,_=>absurd h (by omega)
  | n+1,l,hn,hl=>by
    have hi:=idx_f l;have hs:=vp_span l [];have htd:l.takeWhile (· != 47)++l.dropWhile (· != 47)=l:=List.takeWhile_append_dropWhile;have e:Ay.l2 (str l)=Ay.l2 (str l):=rfl
    conv at e=>rhs;unfold Ay.l2
    rw [index_f,Option.bind_some] at e;simp only [List.nil_append] at hs;generalize ha:l.takeWhile (· != 47)=a at hi hs htd;cases hd:l.dropWhile (· != 47) with
    | nil =>
      rw [hd] at hi hs htd;simp only at hi hs;simp only [List.append_nil] at htd;rw [hi,if_pos (by decide)] at e
      rw [B2 e,Option.bind_some,hs];rw [htd];exact vj1_f (by omega)
    | cons c r =>
      rw [hd] at hi hs htd
      have hc:c=47:=by
        have:=List.head?_dropWhile_not (fun x:UInt8=>x != 47) l;rw [hd] at this;simpa using this
      subst hc;simp only at hi hs;have hlen:a.length+r.length+1=l.length:=by rw [← htd];simp;omega
      have hcut:scut? (str l) 0 (a.length:Int)=some (str a):=by
        have:=Qi (l:=l) (i:=0) (j:=a.length) (by omega) (by omega)
        rw [show ((0:Nat):Int)=0 from rfl] at this;rw [this,← htd];simp
      rw [hi,Ba,if_neg (by omega),Int.add_zero,Cs (by omega) (by omega),Option.bind_some,hcut,Option.bind_some,badK_f] at e
      unfold Nd at hs;cases hb:badP a with
      | true =>
        rw [hb] at e hs;rw [if_pos rfl] at e;rw [B2 (show _=some (Step.done (Sum.inl false)) from e),hs];rfl
      | false =>
        rw [hb] at e hs;rw [if_neg (by decide),letters_f (f:=fun x=>Ay.l3 (str a) x) (by omega) (fun x=>rfl),Option.bind_some] at e
        cases hq:a.all Qp with
        | false =>
          rw [hq] at e hs;rw [B2 (show _=some (Step.done (Sum.inl false)) from e),hs];rfl
        | true =>
          rw [hq] at e hs
          have hcut2:scut? (str l) ((a.length:Int)+1) ((str l).size:Int)=some (str r):=by
            have:=Qi (l:=l) (i:=a.length+1) (j:=l.length) (by omega) (by omega)
            rw [Ky];rw [show (((a.length+1:Nat)):Int)=(a.length:Int)+1 from rfl] at this;rw [this,List.take_length,← htd];simp
          simp only [if_pos rfl,Ay.j7,Ay.j6] at e;rw [Cs (by omega) (by omega),Option.bind_some,hcut2,Option.bind_some] at e
          rw [Cp e,vp_iter n r (by omega) (by omega),hs];rfl
theorem ValidPath_f (s:ByteArray):Ay s=some (Ec s):=by
  unfold Ay Ec;rw [Ba];by_cases h:s.size≤60
  · rw [if_neg (by omega)]
    have:=vp_iter ((bts s).length+1) (bts s) (by omega) (by rw [Ks];exact h)
    rw [Oq] at this;rw [decide_eq_true h,Bool.true_and];exact this
  · rw [if_pos (by omega),decide_eq_false h];rfl
noncomputable def outR:Bool ⊕ Unit→Option Bool:=fun r=>match r with
  | .inl p=>some p
  | .inr _=>Bj.j1
theorem rv_iter:∀ (n:Nat) (l cur suf:List UInt8) (s:List UInt8),l.length=n→s=l++cur++suf→s.length≤60→cur.all Qp=true →
    (Dw (fun x=>Bj.l1 (str s) x.1 x.2) ((l.length:Int) - 1,((l.length+cur.length:Nat):Int))).bind outR=some (vp [] (l++cur))
  | 0,l,cur,suf,s,hn,hs,hl,hc=>by
    obtain rfl:l=[]:=List.eq_nil_of_length_eq_zero hn;simp only [List.nil_append] at hs;have hlen:s.length=cur.length+suf.length:=by rw [hs];simp
    have hcut:scut? (str s) 0 ((cur.length:Nat):Int)=some (str cur):=by
      have:=Qi (l:=s) (i:=0) (j:=cur.length) (by omega) (by omega)
      rw [show ((0:Nat):Int)=0 from rfl] at this;rw [this,hs];simp
    have e:Bj.l1 (str s) (-1) ((cur.length:Nat):Int)=if badP cur=true then some (Step.done (Sum.inl false)) else some (Step.next (-2,-1)):=by
      simp only [Bj.l1];rw [if_pos (by decide),if_neg (by decide),Option.bind_some,if_neg (by decide),show ((-1:Int)+1)=0 from rfl,Cs (by omega) (by omega),Option.bind_some,hcut,Option.bind_some,badK_f]
      cases badP cur
      · rfl
      · rfl
    have hv:=vp_no cur [] hc;rw [List.nil_append] at hv ⊢;rw [hv];simp only [List.length_nil,Nat.zero_add];rw [show (((0:Nat):Int) - 1) = -1 from rfl];unfold Nd;rw [hc,Bool.and_true];cases hb:badP cur with
    | true =>
      rw [hb,if_pos rfl] at e;rw [B2 e];rfl
    | false =>
      rw [hb,if_neg (by decide)] at e
      have e2:Bj.l1 (str s) (-2) (-1)=some (Step.done (Sum.inr ())):=by
        simp only [Bj.l1];rw [if_neg (by decide)]
      rw [Cp e,B2 e2];rfl
  | n+1,l,cur,suf,s,hn,hs,hl,hc=>by
    obtain ⟨l',c,rfl⟩:∃ l' c,l=l'++[c]:=by
      rcases List.eq_nil_or_concat l with h | ⟨a,b,h⟩
      · rw [h] at hn;simp at hn
      · exact ⟨a,b,by simpa using h⟩
    simp only [List.length_append,List.length_singleton] at hn ⊢;have hs2:s=l'++c::(cur++suf):=by rw [hs];simp
    have hlen:s.length=l'.length+1+cur.length+suf.length:=by rw [hs];simp;omega
    have hat:sAt? (str s) ((l'.length:Nat):Int)=some ((c.toNat:Nat):Int):=by
      rw [sAt_str (by omega)]
      congr 2;simp [hs2]
    have hx:(((l'.length+1:Nat)):Int) - 1=((l'.length:Nat):Int):=by omega
    rw [hx];have k47:decide (((c.toNat:Nat):Int)=47)=decide (c=47):=decide_eq_decide.2 ⟨fun h=>UInt8.toNat_inj.1 (by have:(47:UInt8).toNat=47:=rfl;omega),fun h=>by rw [h];rfl⟩
    by_cases h47:c=47
    · -- a part ends
      have hcut:scut? (str s) ((l'.length:Int)+1) (((l'.length+1+cur.length:Nat)):Int)=some (str cur):=by
        have:=Qi (l:=s) (i:=l'.length+1) (j:=l'.length+1+cur.length) (by omega) (by omega)
        rw [show (((l'.length+1:Nat)):Int)=(l'.length:Int)+1 from rfl] at this;have hs3:s=(l'++[c])++(cur++suf):=by rw [hs];simp
        rw [this,hs3,List.drop_take,List.drop_left' (by simp),show l'.length+1+cur.length - (l'.length+1)=cur.length by omega,List.take_left' rfl]
      have e:Bj.l1 (str s) ((l'.length:Nat):Int) (((l'.length+1+cur.length:Nat)):Int)=if badP cur=true then some (Step.done (Sum.inl false)) else some (Step.next ((l'.length:Int) - 1,(l'.length:Int))):=by
        simp only [Bj.l1];rw [Ba,if_pos (by omega),Ba,if_pos (by omega),hat,Option.bind_some,k47,decide_eq_true h47]
        simp only [Bool.not_true,Option.bind_some];rw [if_neg (by decide),Cs (by omega) (by omega),Option.bind_some,hcut,Option.bind_some,badK_f]
        cases badP cur
        · rw [if_neg (by decide),if_neg (by decide)]
          unfold Bj.j2;rw [Cs (by omega) (by omega)];rfl
        · rfl
      have hv:vp [] (l'++[c]++cur)=(vp [] l' && !badP cur):=by
        rw [List.append_assoc,List.singleton_append,h47,vp_app,vp_no cur [] hc];unfold Nd;rw [List.nil_append,hc,Bool.and_true]
      rw [hv];cases hb:badP cur with
      | true =>
        rw [hb,if_pos rfl] at e;rw [B2 e];simp [outR]
      | false =>
        rw [hb,if_neg (by decide)] at e
        rw [Cp e];have ih:=rv_iter n l' [] (c::(cur++suf)) s (by omega) (by rw [hs2];simp) hl rfl
        simp only [List.length_nil,Nat.add_zero,List.append_nil] at ih;rw [ih];simp
    · -- a O2, or not
      have e:Bj.l1 (str s) ((l'.length:Nat):Int) (((l'.length+1+cur.length:Nat)):Int)=if Qp c=true then some (Step.next ((l'.length:Int) - 1,(((l'.length+1+cur.length:Nat)):Int))) else some (Step.done (Sum.inl false)):=by
        simp only [Bj.l1];rw [Ba,if_pos (by omega),Ba,if_pos (by omega),hat,Option.bind_some,k47,decide_eq_false h47]
        simp only [Bool.not_false,Option.bind_some];rw [if_pos trivial,pathByte_f,Option.bind_some];cases Qp c
        · rfl
        · rw [if_neg (by decide),if_pos rfl]
          unfold Bj.j2;rw [Cs (by omega) (by omega)];rfl
      cases hb:Qp c with
      | false =>
        rw [hb,if_neg (by decide)] at e
        rw [B2 e,List.append_assoc,List.singleton_append,vp_bad l' [] cur c h47 hb];rfl
      | true =>
        rw [hb,if_pos rfl] at e;rw [Cp e];have ih:=rv_iter n l' (c::cur) suf s (by omega) (by rw [hs2];simp) hl (by simp [hb,hc])
        rw [show l'.length+(c::cur).length=l'.length+1+cur.length by simp;omega] at ih
        rw [ih];simp
theorem PathValid_f (s:ByteArray):Bj s=some (Ec s):=by
  unfold Bj Ec;rw [Ba];by_cases h:s.size≤60
  · rw [if_neg (by omega),Cs (by omega) (by omega),Option.bind_some]
    have:=rv_iter (bts s).length (bts s) [] [] (bts s) rfl (by simp) (by rw [Ks];exact h) rfl
    rw [Oq] at this;simp only [List.length_nil,Nat.add_zero,List.append_nil,Ks] at this;rw [decide_eq_true h,Bool.true_and];exact this
  · rw [if_pos (by omega),decide_eq_false h];rfl
theorem Hh {s:ByteArray} (h:Ec s=true):s.size≤60:=by
  unfold Ec at h;simp only [Bool.and_eq_true,decide_eq_true_eq] at h;exact h.1
def slb (x y:List UInt8):Bool:=decide (y.take (x.length+1)=x++[47])
def Lh (a b:ByteArray):Bool:=decide (a=b) || slb (bts b) (bts a) || slb (bts a) (bts b)
theorem relB_comm (a b:ByteArray):Lh a b=Lh b a:=by
  unfold Lh;rw [show decide (a=b)=decide (b=a) from decide_eq_decide.2 eq_comm,Bool.or_assoc,Bool.or_assoc,Bool.or_comm (slb (bts b) (bts a))]
theorem relB_self (a:ByteArray):Lh a a=true:=by simp [Lh]
theorem hasPrefix_f (s p:List UInt8):G3 (str s) (str p)=some (decide (s.take p.length=p)):=by
  unfold G3 Hm;rw [Ba];by_cases h:p.length≤s.length
  · have hc:=Qi (l:=s) (i:=0) (j:=p.length) (by omega) h
    rw [show ((0:Nat):Int)=0 from rfl,List.drop_zero] at hc;rw [if_pos (by rw [Ky,Ky];omega),Ky,hc]
    simp only [Option.bind_some,str_dec]
  · rw [if_neg (by rw [Ky,Ky];omega)]
    have:¬ s.take p.length=p:=fun e=>by
      have:=congrArg List.length e;simp at this;omega
    rw [decide_eq_false this];rfl
theorem cat_str {a b:List UInt8} (h:a.length+b.length≤9223372036854775807):cat? (str a) (str b)=some (str (a++b)):=by
  unfold cat?;rw [if_pos (by rw [Ky,Ky];exact h)]
  refine congrArg some (bts_inj ?_);rw [bts_str];show (str a++str b).data.toList=a++b;rw [ByteArray.data_append];simp [str]
theorem Related_f {a b:ByteArray} (ha:a.size≤1000000) (hb:b.size≤1000000):Gm a b=some (Lh a b):=by
  have h1:=cat_str (a:=bts b) (b:=[47]) (by rw [Ks];simp;omega)
  have h2:=cat_str (a:=bts a) (b:=[47]) (by rw [Ks];simp;omega)
  have g1:=hasPrefix_f (bts a) (bts b++[47]);have g2:=hasPrefix_f (bts b) (bts a++[47]);rw [Oq] at h1 h2 g1 g2;unfold Gm;rw [show (⟨#[47]⟩:ByteArray)=str [47] from rfl,h1,h2];simp only [Option.bind_some];rw [g1,g2];simp only [Option.bind_some,orB];unfold Lh slb;simp
theorem rrel_body {a b:ByteArray} (h:a.size≤b.size) (rec:ByteArray→ByteArray→Option Bool):C0.body rec a b=some (Lh a b):=by
  unfold C0.body;have hc:=Qi (l:=bts b) (i:=0) (j:=a.size) (by omega) (by rw [Ks];exact h)
  rw [show ((0:Nat):Int)=0 from rfl,List.drop_zero,Oq] at hc;rw [Ba,if_neg (by omega),hc,Option.bind_some]
  have hn:slb (bts b) (bts a)=false:=by
    unfold slb;refine decide_eq_false fun e=>?_;have:=congrArg List.length e;simp [Ks] at this;omega
  unfold Lh;rw [hn,Bool.or_false];have hd:decide (str ((bts b).take a.size)=a)=decide ((bts b).take a.size=bts a):=decide_eq_decide.2 ⟨fun h=>by have:=congrArg bts h;rwa [bts_str] at this,fun h=>by rw [h,Oq]⟩
  rw [hd,Ba];by_cases ht:(bts b).take a.size=bts a
  · rw [if_pos ht,Ba];by_cases hsz:a.size=b.size
    · rw [if_pos (by omega)]
      have:a=b:=bts_inj (by rw [← ht,hsz,← Ks,List.take_length])
      rw [decide_eq_true this];rfl
    · rw [if_neg (by omega)]
      have hlt:a.size < (bts b).length:=by rw [Ks];omega
      have hat:=sAt_str hlt;rw [Oq] at hat;rw [hat];have hne:¬ a=b:=fun e=>hsz (by rw [e])
      rw [decide_eq_false hne,Bool.false_or];simp only [Option.bind_some];unfold slb;congr 1;refine decide_eq_decide.2 ?_;rw [Ks,List.take_succ_eq_append_getElem hlt,ht];constructor
      · intro h;rw [show (bts b)[a.size]=47 from UInt8.toNat_inj.1 (by have:(47:UInt8).toNat=47:=rfl;omega)]
      · intro h;have:=List.append_cancel_left h;simp at this;rw [this];rfl
  · rw [if_neg ht];have h1:¬ a=b:=fun e=>ht (by rw [e,← Ks,List.take_length])
    have h2:slb (bts a) (bts b)=false:=by
      unfold slb;refine decide_eq_false fun e=>ht ?_;have:=congrArg (List.take a.size) e;rw [List.take_take,Ks,Nat.min_eq_left (by omega),List.take_append_of_le_length (by rw [Ks];omega)] at this
      rw [this,← Ks,List.take_length]
    rw [decide_eq_false h1,h2];rfl
theorem RRelated_f (a b:ByteArray):C0 a b=some (Lh a b):=by
  unfold C0 C0.m;by_cases h:a.size≤b.size
  · exact rrel_body h _
  · unfold C0.body;rw [Ba,if_pos (by omega)]
    unfold C0.m;rw [rrel_body (by omega),Option.bind_some,relB_comm]
theorem bl_irr:∀ x:List UInt8,Op.bytesLess x x=false
  | []=>rfl
  | a::x=>by simp [Op.bytesLess,bl_irr x,UInt8.lt_irrefl]
theorem bl_tri:∀ x y:List UInt8,Op.bytesLess x y=true∨x=y∨Op.bytesLess y x=true
  | [],[]=>.inr (.inl rfl)
  | [],_::_=>.inl rfl
  | _::_,[]=>.inr (.inr rfl)
  | a::x,b::y=>by
    simp only [Op.bytesLess,Bool.or_eq_true,decide_eq_true_eq,Bool.and_eq_true,beq_iff_eq]
    have h0:a=b∨a < b∨b < a:=by
      by_cases h:a=b
      · exact .inl h
      · exact .inr (UInt8.lt_or_lt_of_ne h)
    rcases h0 with h | h | h
    · subst h;rcases bl_tri x y with h | h | h
      · exact .inl (.inr ⟨rfl,h⟩)
      · exact .inr (.inl (by rw [h]))
      · exact .inr (.inr (.inr ⟨rfl,h⟩))
    · exact .inl (.inl h)
    · exact .inr (.inr (.inl h))
theorem bl_trans:∀ {x y z:List UInt8},Op.bytesLess x y=true→Op.bytesLess y z=true→Op.bytesLess x z=true
  | x,[],z,h1,h2=>by cases x <;> cases h1
  | x,b::y,[],h1,h2=>by cases h2
  | [],b::y,c::z,h1,h2=>rfl
  | a::x,b::y,c::z,h1,h2=>by
    simp only [Op.bytesLess,Bool.or_eq_true,decide_eq_true_eq,Bool.and_eq_true,beq_iff_eq] at h1 h2 ⊢;rcases h1 with h1 | ⟨rfl,h1⟩
    · rcases h2 with h2 | ⟨rfl,h2⟩
      · exact .inl (UInt8.lt_trans h1 h2)
      · exact .inl h1
    · rcases h2 with h2 | ⟨rfl,h2⟩
      · exact .inl h2
      · exact .inr ⟨rfl,bl_trans h1 h2⟩
theorem cmp_neg:∀ x y:List UInt8,decide (Lib.compareBytes x y < 0)=Op.bytesLess x y
  | [],[]=>rfl
  | [],_::_=>rfl
  | _::_,[]=>rfl
  | a::x,b::y=>by
    unfold Lib.compareBytes Op.bytesLess;by_cases h:a < b
    · simp [h]
    · by_cases h2:b < a
      · have:¬ a=b:=by intro e;subst e;exact h h2
        simp [h,h2,this]
      · have:a=b:=UInt8.le_antisymm (UInt8.not_lt.1 h2) (UInt8.not_lt.1 h);subst this;simp only [h,if_false,decide_false,Bool.false_or,beq_self_eq_true,Bool.true_and];exact cmp_neg x y
theorem cmp_zero:∀ x y:List UInt8,(Lib.compareBytes x y=0)↔x=y
  | [],[]=>by simp [Lib.compareBytes]
  | [],_::_=>by simp [Lib.compareBytes]
  | _::_,[]=>by simp [Lib.compareBytes]
  | a::x,b::y=>by
    unfold Lib.compareBytes;by_cases h:a < b
    · have:¬ a=b:=by intro e;subst e;exact UInt8.lt_irrefl _ h
      simp [h,this]
    · by_cases h2:b < a
      · have:¬ a=b:=by intro e;subst e;exact h h2
        simp [h,h2,this]
      · have:a=b:=UInt8.le_antisymm (UInt8.not_lt.1 h2) (UInt8.not_lt.1 h);subst this;simp only [h,if_false,List.cons.injEq,true_and];exact cmp_zero x y
theorem sLt_bts (a b:ByteArray):sLt a b=Op.bytesLess (bts a) (bts b):=by
  unfold sLt;rw [Og,Og];rfl
theorem Ma (a:ByteArray):sLt a a=false:=by rw [sLt_bts];exact bl_irr _
theorem sLt_tri (a b:ByteArray):sLt a b=true∨a=b∨sLt b a=true:=by
  rw [sLt_bts,sLt_bts];rcases bl_tri (bts a) (bts b) with h | h | h
  · exact .inl h
  · exact .inr (.inl (bts_inj h))
  · exact .inr (.inr h)
theorem N5 {a b c:ByteArray} (h1:sLt a b=true) (h2:sLt b c=true):sLt a c=true:=by
  rw [sLt_bts] at *;exact bl_trans h1 h2
theorem Lo {a b:ByteArray} (h:sLt a b=true):sLt b a=false:=by
  cases h2:sLt b a
  · rfl
  · have:=N5 h h2;rw [Ma] at this;cases this
theorem sLt_ne {a b:ByteArray} (h:sLt a b=true):a≠b:=by intro e;subst e;rw [Ma] at h;cases h
theorem cmpB_neg (a b:ByteArray):decide (cmpB a b < 0)=sLt a b:=by rw [sLt_bts];exact cmp_neg _ _
theorem cmpB_zero (a b:ByteArray):decide (cmpB a b=0)=decide (a=b):=decide_eq_decide.2 ⟨fun h=>bts_inj ((cmp_zero _ _).1 h),fun h=>(cmp_zero _ _).2 (by rw [h])⟩
def G0 (l:List File):Prop:=l.Pairwise fun f g=>sLt f.Path g.Path=true
def Er (l:List File) (p:ByteArray):Nat:=(l.takeWhile fun f=>sLt f.Path p).length
def Gp (l:List File) (p:ByteArray):Bool:=l.any fun f=>decide (f.Path=p)
theorem pos_le (l:List File) (p:ByteArray):Er l p≤l.length:=by
  unfold Er;exact (List.takeWhile_prefix _).length_le
theorem pos_lt:∀ {l:List File} (h:G0 l) (p:ByteArray) (i:Nat) (hi:i < l.length),sLt l[i].Path p=decide (i < Er l p)
  | [],h,p,i,hi=>by cases hi
  | f::l,h,p,i,hi=>by
    have h':=List.pairwise_cons.1 h;unfold Er;rw [List.takeWhile_cons];cases hf:sLt f.Path p
    · simp only [Bool.false_eq_true,if_false,List.length_nil,Nat.not_lt_zero,decide_false];cases i with
      | zero=>exact hf
      | succ i =>
        simp only [List.getElem_cons_succ];have hi':i < l.length:=by simpa using hi
        have:=h'.1 l[i] (List.getElem_mem _);cases hg:sLt l[i].Path p
        · rfl
        · rw [N5 this hg] at hf;cases hf
    · simp only [if_true,List.length_cons];cases i with
      | zero=>simp [hf]
      | succ i =>
        simp only [List.getElem_cons_succ,Nat.add_lt_add_iff_right];exact pos_lt h'.2 p i (by simpa using hi)
theorem shr1u {b:Int} (h:0≤b):shr? .u64 b 1=some (b / 2):=by
  unfold shr?;rw [if_neg (by decide)]
  have:(2:Int) ^ (min (1:Int).toNat IntKind.u64.bits)=2:=by decide
  rw [this,Int.fdiv_eq_ediv_of_nonneg _ (by decide)]
theorem ckU {x:Int} (h1:0≤x) (h2:x≤9223372036854775807):ckK .u64 x=some x:=by
  unfold ckK inK
  have:IntKind.u64.wrap x=x:=by
    simp [IntKind.wrap,IntKind.bits,IntKind.signed];omega
  rw [if_pos (decide_eq_true this)]
theorem finds_f (f:File) (p:ByteArray):H1 f p=some (cmpB f.Path p):=rfl
theorem find_iter {l:List File} (h:G0 l) (p:ByteArray) (hl:l.length≤1000000):∀ (n lo hi:Nat),hi - lo≤n→lo≤Er l p→Er l p≤hi→hi≤l.length →
    Dw (fun s=>Bw.l1 l p s.1 s.2) ((hi:Int),(lo:Int))=some ((Er l p:Nat):Int):=by
  intro n
  induction n with
  | zero =>
    intro lo hi hn h1 h2 h3;have e:Er l p=lo:=by omega
    rw [B2 (r:=((Er l p:Nat):Int))];show Bw.l1 l p _ _=_;unfold Bw.l1;rw [decide_eq_false (by omega),if_neg Bool.false_ne_true,e]
  | succ n ih =>
    intro lo hi hn h1 h2 h3;by_cases hlt:lo < hi
    · have hm:(((lo:Int)+hi) / 2)=((lo+hi) / 2:Nat):=by omega
      have hml:(lo+hi) / 2 < l.length:=by omega
      have hstep:Bw.l1 l p (hi:Int) (lo:Int)=some (if (lo+hi) / 2 < Er l p then Step.next ((hi:Int),(((lo+hi) / 2+1:Nat):Int)) else Step.next ((((lo+hi) / 2:Nat):Int),(lo:Int))):=by
        unfold Bw.l1;rw [decide_eq_true (by omega:(lo:Int) < hi),if_pos rfl,Cs (by omega) (by omega),Option.bind_some,ckU (by omega) (by omega),Option.bind_some,shr1u (by omega),Option.bind_some,hm,Cs (by omega) (by omega),Option.bind_some,Dg hml,Option.bind_some,finds_f,Option.bind_some,cmpB_neg,pos_lt h p _ hml]
        by_cases hc:(lo+hi) / 2 < Er l p
        · rw [if_pos hc,decide_eq_true hc,if_pos rfl,Cs (by omega) (by omega),Option.bind_some];rfl
        · rw [if_neg hc,decide_eq_false hc,if_neg Bool.false_ne_true]
      by_cases hc:(lo+hi) / 2 < Er l p
      · rw [if_pos hc] at hstep;rw [Cp (s':=((hi:Int),(((lo+hi) / 2+1:Nat):Int))) hstep];exact ih _ _ (by omega) (by omega) h2 h3
      · rw [if_neg hc] at hstep;rw [Cp (s':=((((lo+hi) / 2:Nat):Int),(lo:Int))) hstep];exact ih _ _ (by omega) h1 (by omega) (by omega)
    · have e:Er l p=lo:=by omega
      rw [B2 (r:=((Er l p:Nat):Int))];show Bw.l1 l p _ _=_;unfold Bw.l1;rw [decide_eq_false (by omega),if_neg Bool.false_ne_true,e]
theorem has_at {l:List File} (h:G0 l) (p:ByteArray):Gp l p=if hp:Er l p < l.length then decide (l[Er l p].Path=p) else false:=by
  rw [Bool.eq_iff_iff];constructor
  · intro hh;unfold Gp at hh;rw [List.any_eq_true] at hh;obtain ⟨f,hf,he⟩:=hh;obtain ⟨i,hi,rfl⟩:=List.getElem_of_mem hf;have he:=of_decide_eq_true he;have h1:=pos_lt h p i hi;rw [he,Ma] at h1;have h1:¬ i < Er l p:=of_decide_eq_false h1.symm;have hpl:Er l p < l.length:=by omega
    rw [dif_pos hpl];refine decide_eq_true ?_;rcases Nat.lt_or_ge (Er l p) i with h2 | h2
    · have h3:=List.pairwise_iff_getElem.1 h _ _ hpl hi h2;have h4:=pos_lt h p _ hpl;rw [he] at h3;rw [h3] at h4;simp at h4
    · have:i=Er l p:=by omega
      subst this;exact he
  · intro hh;split at hh
    · rename_i hp
      unfold Gp;rw [List.any_eq_true];exact ⟨_,List.getElem_mem hp,hh⟩
    · cases hh
theorem Find_f {l:List File} (h:G0 l) (hl:l.length≤1000000) (p:ByteArray):Bw l p=some (((Er l p:Nat):Int),Gp l p):=by
  unfold Bw;have:=find_iter h p hl l.length 0 l.length (by omega) (Nat.zero_le _) (pos_le l p) (Nat.le_refl _)
  rw [show ((0:Nat):Int)=0 from rfl] at this;rw [this,Option.bind_some];unfold Bw.j1;rw [has_at h p];by_cases hp:Er l p < l.length
  · rw [dif_pos hp,decide_eq_true (by omega),if_pos rfl,Dg hp,Option.bind_some,finds_f,Option.bind_some,cmpB_zero];rfl
  · rw [dif_neg hp,decide_eq_false (by omega),if_neg Bool.false_ne_true];rfl
def Gf {α ρ:Type} (g:Nat→α→Option ρ):Nat→List α→Option ρ
  | _,[]=>Option.none
  | k,x::r=>match g k x with
    | some y=>some y
    | Option.none=>Gf g (k+1) r
theorem scan_iter {α ρ:Type} {f:Int→Option (Step Int (ρ ⊕ Unit))} (l:List α) (g:Nat→α→Option ρ)
    (hs:∀ k (h:k < l.length),(∀ j (hj:j < l.length),j < k→g j l[j]=Option.none)→f (k:Int)=match g k l[k] with | some r=>some (.done (.inl r)) | Option.none=>some (.next ((k+1:Nat):Int)))
    (he:f (l.length:Int)=some (.done (.inr ()))):∀ (rest:List α) (k:Nat),l.drop k=rest→k≤l.length→(∀ j (hj:j < l.length),j < k→g j l[j]=Option.none)→Dw f (k:Int)=some (orL (Gf g k rest)):=by
  intro rest
  induction rest with
  | nil =>
    intro k hk hkl _;have:=Hz hk;have e:k=l.length:=by omega
    subst e;exact B2 he
  | cons x r ih =>
    intro k hk hkl hp;obtain ⟨hlt,hx,hr⟩:=K6 hk;have e:=hs k hlt hp;rw [hx] at e;rw [Gf];cases hg:g k x with
    | some y=>rw [hg] at e;exact B2 e
    | none =>
      rw [hg] at e;rw [Cp e];refine ih (k+1) hr (by omega) fun j hj hjk=>?_
      by_cases hjk':j=k
      · subst hjk';rw [hx];exact hg
      · exact hp j hj (by omega)
theorem scan0 {α ρ:Type} {f:Int→Option (Step Int (ρ ⊕ Unit))} (l:List α) (g:Nat→α→Option ρ)
    (hs:∀ k (h:k < l.length),(∀ j (hj:j < l.length),j < k→g j l[j]=Option.none)→f (k:Int)=match g k l[k] with | some r=>some (.done (.inl r)) | Option.none=>some (.next ((k+1:Nat):Int)))
    (he:f (l.length:Int)=some (.done (.inr ()))):Dw f 0=some (orL (Gf g 0 l)):=by
  have:=scan_iter l g hs he l 0 rfl (Nat.zero_le _) (fun j hj h=>absurd h (by omega))
  exact this
theorem Md {α ρ:Type} {g:Nat→α→Option ρ}:∀ {l:List α} {k:Nat},Gf g k l=Option.none↔∀ j (h:j < l.length),g (k+j) l[j]=Option.none
  | [],k=>⟨fun _ j h=>absurd h (by simp),fun _=>rfl⟩
  | x::r,k=>by
    rw [Gf];cases hg:g k x with
    | some y =>
      simp only [reduceCtorEq,false_iff];intro h;have:=h 0 (by simp)
      rw [Nat.add_zero,List.getElem_cons_zero,hg] at this;cases this
    | none =>
      simp only;rw [Md];constructor
      · intro h j hj;cases j with
        | zero=>exact hg
        | succ j =>
          have:=h j (by simpa using hj)
          rw [List.getElem_cons_succ,← this];congr 1;omega
      · intro h j hj;have:=h (j+1) (by simpa using hj)
        rw [List.getElem_cons_succ] at this;rw [← this];congr 1;omega
theorem H4 {α ρ:Type} {g:Nat→α→Option ρ}:∀ {l:List α} {k:Nat} {y:ρ},Gf g k l=some y→∃ j,∃ h:j < l.length,g (k+j) l[j]=some y
  | [],k,y,h=>by cases h
  | x::r,k,y,h=>by
    rw [Gf] at h;cases hg:g k x with
    | some z=>rw [hg] at h;exact ⟨0,by simp,by rw [Nat.add_zero];simpa [hg] using h⟩
    | none =>
      rw [hg] at h;obtain ⟨j,hj,e⟩:=H4 h;exact ⟨j+1,by simpa using hj,by rw [List.getElem_cons_succ,← e];congr 1;omega⟩
def clG (p:ByteArray) (e:Int) (k:Nat) (f:File):Option Bool:=if (k:Int)≠e∧Lh f.Path p=true then some true else Option.none
def Ej (l:List File) (p:ByteArray):Bool:=l.any fun f=>Lh f.Path p
theorem clash_f {l:List File} {p:ByteArray} (hl:∀ f∈l,f.Path.size≤1000000) (hn:l.length≤1000000) (hp:p.size≤1000000) (e:Int):Cd l p e=some (Gf (clG p e) 0 l).isSome:=by
  unfold Cd;rw [scan0 l (clG p e) ?_ ?_,Option.bind_some]
  · cases h:Gf (clG p e) 0 l with
    | none=>rfl
    | some b =>
      obtain ⟨j,hj,hg⟩:=H4 h;unfold clG at hg;split at hg
      · cases hg;rfl
      · cases hg
  · intro k h _;unfold Cd.l1 clG;rw [decide_eq_true (by omega),if_pos rfl,Dg h,Option.bind_some]
    have hs:=hl _ (List.getElem_mem h);by_cases hk:(k:Int)=e
    · rw [decide_eq_true hk,if_neg (by simp),Option.bind_some,if_neg Bool.false_ne_true,Cs (by omega) (by omega),Option.bind_some,if_neg (fun h=>h.1 hk)];rfl
    · rw [decide_eq_false hk,if_pos (by rfl),Related_f hs hp,Option.bind_some,Option.bind_some]
      cases hr:Lh l[k].Path p
      · rw [if_neg Bool.false_ne_true,Cs (by omega) (by omega),Option.bind_some,if_neg (fun h=>Bool.false_ne_true h.2)];rfl
      · rw [if_pos rfl,if_pos ⟨hk,rfl⟩]
  · unfold Cd.l1;rw [decide_eq_false (by omega),if_neg Bool.false_ne_true]
theorem clO_all {p:ByteArray}:∀ (l:List File) (k:Nat),(Gf (clG p (-1)) k l).isSome=Ej l p
  | [],k=>rfl
  | f::l,k=>by
    rw [Gf];unfold clG Ej;rw [List.any_cons];cases h:Lh f.Path p
    · rw [if_neg (fun h=>Bool.false_ne_true h.2)];simp only [Bool.false_or];exact clO_all l (k+1)
    · rw [if_pos ⟨by omega,rfl⟩];rfl
theorem clO_ne {p:ByteArray}:∀ (l:List File) (k j:Nat),(Gf (clG p ((k+j:Nat):Int)) k l).isSome=Ej (l.eraseIdx j) p
  | [],k,j=>rfl
  | f::l,k,0=>by
    rw [Gf];unfold clG;rw [if_neg (fun h=>h.1 rfl)];simp only [List.eraseIdx_zero,List.tail_cons]
    have:∀ (m:List File) (q:Nat),k < q→(Gf (clG p ((k+0:Nat):Int)) q m).isSome=Ej m p:=by
      intro m
      induction m with
      | nil=>intro q _;rfl
      | cons f m ih =>
        intro q hq;rw [Gf];unfold clG Ej;rw [List.any_cons];cases h:Lh f.Path p
        · rw [if_neg (fun h=>Bool.false_ne_true h.2)];simp only [Bool.false_or];exact ih (q+1) (by omega)
        · rw [if_pos ⟨by omega,rfl⟩];rfl
    exact this l (k+1) (by omega)
  | f::l,k,j+1=>by
    rw [Gf];have hc:=clO_ne (p:=p) l (k+1) j;rw [show k+1+j=k+(j+1) by omega] at hc
    unfold Ej at hc ⊢;rw [List.eraseIdx_cons_succ,List.any_cons];unfold clG;cases h:Lh f.Path p
    · rw [if_neg (fun h=>Bool.false_ne_true h.2)];simp only [Bool.false_or];exact hc
    · rw [if_pos ⟨by omega,rfl⟩];rfl
def trG (l:List File) (k:Nat) (f:File):Option Fault :=
  if Ec f.Path=false then some ⟨12,k⟩
  else if 0 < k∧∃ q,l[k - 1]? = some q∧sLt q.Path f.Path=false then some ⟨5,k⟩
  else if Ej (l.take k) f.Path=true then some ⟨7,k⟩
  else if (Cr f.Lines).Code≠0 then some ⟨(Cr f.Lines).Code,k⟩ else Option.none
def Ef (l:List File):Fault:=if l.length > 24 then ⟨2,-1⟩ else (Gf (trG l) 0 l).getD ⟨0,0⟩
theorem trG_path {l:List File} {k:Nat} {f:File} (h:trG l k f=Option.none):Ec f.Path=true:=by
  unfold trG at h;cases hp:Ec f.Path
  · rw [if_pos hp] at h;cases h
  · rfl
theorem ord_dec (p q:ByteArray):(sLt p q || decide (p=q)) = !sLt q p:=by
  rcases sLt_tri p q with h | h | h
  · rw [h,Lo h];rfl
  · subst h;rw [Ma];simp
  · rw [h,Lo h,decide_eq_false (sLt_ne h).symm];rfl
theorem prev_f (l:List File) {k:Nat} (hk:k < l.length) (h1000:l.length≤1000000):((if decide ((k:Int) > 0) then (ckK .i64 ((k:Int) - 1)).bind fun z1=>(at? l z1).bind fun y3=>some (sLt l[k].Path y3.Path || decide (l[k].Path=y3.Path)) else some false):Option Bool) =
    some (decide (0 < k∧∃ q,l[k - 1]? = some q∧sLt q.Path l[k].Path=false)):=by
  by_cases h0:0 < k
  · have hk1:k - 1 < l.length:=by omega
    rw [decide_eq_true (by omega),if_pos rfl,Cs (by omega) (by omega),Option.bind_some,show ((k:Int) - 1)=((k - 1:Nat):Int) by omega,Dg hk1,Option.bind_some,ord_dec]
    congr 1;rw [Bool.eq_iff_iff];simp only [List.getElem?_eq_getElem hk1,Option.some.injEq,exists_eq_left',h0,true_and,decide_eq_true_eq];cases sLt l[k - 1].Path l[k].Path <;> simp
  · rw [decide_eq_false (by omega),if_neg Bool.false_ne_true,decide_eq_false (fun h=>h0 h.1)]
theorem Validate_f (t:FileTree):Ct t=some (Ef t.Files):=by
  obtain ⟨l⟩:=t;unfold Ct Ef;simp only;by_cases h24:l.length > 24
  · rw [decide_eq_true (by omega),if_pos rfl,if_pos h24]
  rw [decide_eq_false (by omega),if_neg Bool.false_ne_true,if_neg h24,scan0 l (trG l) ?_ ?_,Option.bind_some]
  · cases Gf (trG l) 0 l <;> rfl
  · intro k h hp
    have hsz:∀ f∈l.take k,f.Path.size≤60:=by
      intro f hf;obtain ⟨j,hj,rfl⟩:=List.getElem_of_mem hf;rw [List.getElem_take];rw [List.length_take] at hj;exact Hh (trG_path (hp j (by omega) (by omega)))
    unfold Ct.l1 trG;simp only;rw [decide_eq_true (by omega),if_pos rfl,Dg h,Option.bind_some,ValidPath_f,Option.bind_some]
    cases hv:Ec l[k].Path
    · rw [if_pos (by rfl),if_pos rfl]
    · rw [if_neg (show ¬ ((!true)=true) by decide),if_neg (show ¬ (true=false) by decide),prev_f l h (by omega),Option.bind_some]
      by_cases h5:0 < k∧∃ q,l[k - 1]? = some q∧sLt q.Path l[k].Path=false
      · rw [decide_eq_true h5,if_pos rfl,if_pos h5]
      · rw [decide_eq_false h5,if_neg Bool.false_ne_true,if_neg h5,cut_eq (by omega) (by omega) (by omega),Option.bind_some,show ((0:Int)).toNat=0 from rfl,List.drop_zero,Int.toNat_natCast,
          clash_f (fun f hf=>by have:=hsz f hf;omega) (by rw [List.length_take];omega) (by have:=Hh hv;omega),Option.bind_some,clO_all]
        cases h7:Ej (l.take k) l[k].Path
        · rw [if_neg Bool.false_ne_true,if_neg Bool.false_ne_true,second_f,Option.bind_some];by_cases hc:(Cr l[k].Lines).Code=0
          · rw [if_pos hc,if_neg (by decide),if_neg (by simpa using hc),Cs (by omega) (by omega),Option.bind_some];rfl
          · rw [if_neg hc,if_pos (by simp [hc]),if_pos hc]
        · rw [if_pos rfl,if_pos rfl]
  · unfold Ct.l1;rw [decide_eq_false (by simp),if_neg Bool.false_ne_true]
structure TrOk (l:List File):Prop where
  len:l.length≤24
  srt:G0 l
  path:∀ f∈l,Ec f.Path=true
  rel:l.Pairwise fun f g=>Lh f.Path g.Path=false
  text:∀ f∈l,Kl f.Lines
theorem trG_code {l:List File} {k:Nat} {f:File} {y:Fault} (h:trG l k f=some y):y.Code≠0:=by
  unfold trG at h;split at h
  · cases h;simp
  · split at h
    · cases h;simp
    · split at h
      · cases h;simp
      · split at h
        · rename_i hc;cases h;exact hc
        · cases h
theorem Qn (l:List File):Ef l=⟨0,0⟩∨(Ef l).Code≠0:=by
  unfold Ef;split
  · right;decide
  · cases h:Gf (trG l) 0 l with
    | none=>left;rfl
    | some y =>
      right;obtain ⟨j,hj,e⟩:=H4 h;exact trG_code e
theorem Gl (l:List File):(Ef l).Code=0↔TrOk l:=by
  unfold Ef;by_cases h24:l.length > 24
  · rw [if_pos h24];exact ⟨fun h=>by simp at h,fun h=>by have:=h.len;omega⟩
  rw [if_neg h24]
  have e1:(((Gf (trG l) 0 l).getD ⟨0,0⟩).Code=0)↔Gf (trG l) 0 l=Option.none:=by
    cases h:Gf (trG l) 0 l with
    | none=>simp
    | some y =>
      obtain ⟨j,hj,e⟩:=H4 h;simp [trG_code e]
  rw [e1,Md];simp only [Nat.zero_add];constructor
  · intro h
    have h2:∀ j (hj:j < l.length),Ec l[j].Path=true∧¬ (0 < j∧∃ q,l[j - 1]? = some q∧sLt q.Path l[j].Path=false)∧Ej (l.take j) l[j].Path=false∧(Cr l[j].Lines).Code=0:=by
      intro j hj;have:=h j hj;unfold trG at this;cases hp:Ec l[j].Path
      · rw [if_pos hp] at this;cases this
      · rw [if_neg (by rw [hp];decide)] at this
        split at this
        · cases this
        · rename_i h5
          split at this
          · cases this
          · rename_i h7
            split at this
            · cases this
            · rename_i hc
              exact ⟨rfl,h5,by simpa using h7,by simpa using hc⟩
    have hadj:∀ j (hj:j+1 < l.length),sLt l[j].Path l[j+1].Path=true:=by
      intro j hj;have:=(h2 (j+1) hj).2.1;cases hs:sLt l[j].Path l[j+1].Path
      · exact absurd ⟨by omega,l[j],by simp,hs⟩ this
      · rfl
    have hlt:∀ (d i:Nat) (hd:i+d+1 < l.length),sLt l[i].Path l[i+d+1].Path=true:=by
      intro d
      induction d with
      | zero=>intro i hd;exact hadj i hd
      | succ d ih=>intro i hd;exact N5 (ih i (by omega)) (hadj (i+d+1) hd)
    refine ⟨by omega,?_,?_,?_,?_⟩
    · refine List.pairwise_iff_getElem.2 fun i j hi hj hij=>?_;obtain ⟨d,rfl⟩:∃ d,j=i+d+1:=⟨j - i - 1,by omega⟩
      exact hlt d i hj
    · intro f hf;obtain ⟨j,hj,rfl⟩:=List.getElem_of_mem hf;exact (h2 j hj).1
    · refine List.pairwise_iff_getElem.2 fun i j hi hj hij=>?_;have:=(h2 j hj).2.2.1;unfold Ej at this;rw [List.any_eq_false] at this
      have hm:l[i]∈l.take j:=by
        rw [List.mem_take_iff_getElem];exact ⟨i,by omega,rfl⟩
      simpa using this _ hm
    · intro f hf;obtain ⟨j,hj,rfl⟩:=List.getElem_of_mem hf;exact (Gv _).2 ((D9 _).2 (h2 j hj).2.2.2)
  · intro h j hj;have hm:=List.getElem_mem hj;unfold trG;rw [if_neg (by rw [h.path _ hm];decide),if_neg ?_,if_neg ?_,if_neg ?_]
    · simpa using (D9 _).1 ((Gv _).1 (h.text _ hm))
    · have:Ej (l.take j) l[j].Path=false:=by
        unfold Ej;rw [List.any_eq_false];intro f hf;rw [List.mem_take_iff_getElem] at hf;obtain ⟨i,hi,rfl⟩:=hf;have:=List.pairwise_iff_getElem.1 h.rel i j (by omega) hj (by omega)
        simpa using this
      rw [this];decide
    · rintro ⟨h0,q,hq,hs⟩;have hk1:j - 1 < l.length:=by omega
      rw [List.getElem?_eq_getElem hk1] at hq;cases hq;have:=List.pairwise_iff_getElem.1 h.srt (j - 1) j hk1 hj (by omega)
      rw [this] at hs;cases hs
theorem tsecond_f (t:FileTree) (i:Int):Hd t i=some (if (Ef t.Files).Code=0 then ⟨0,0⟩ else ⟨(Ef t.Files).Code,i⟩):=by
  unfold Hd;rw [Validate_f,Option.bind_some];rcases Qn t.Files with h | h
  · rw [h];rfl
  · rw [if_pos (Ls.2 fun h2=>h h2.1),if_neg h]
end Go.Dc
