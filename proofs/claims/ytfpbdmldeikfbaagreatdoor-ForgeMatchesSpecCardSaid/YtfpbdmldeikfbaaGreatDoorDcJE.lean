import Derived.Test.YtfpbdmldeikfbaaGreatDoorDcNB
import Derived.Test.YtfpbdmldeikfbaaGreatDoorDcRS
set_option linter.unusedSimpArgs false
set_option linter.unusedVariables false
set_option maxRecDepth 4000
namespace Go.Dc
open Go
theorem end_f (h:Hunk) (h0 : -1000000≤h.At) (h1:h.At≤1000000) (h2:h.Old.length≤1000000):M7 h=some (h.At+h.Old.length):=by
 unfold M7;rw [Br (by omega) (by omega)];rfl
def hcode (h:Hunk) (e:Int):Int :=
 if h.At < 0∨h.At > 120 then 3 else if (B5 h.Old).Code≠0 then (B5 h.Old).Code else if (B5 h.New).Code≠0 then (B5 h.New).Code else
 if h.Old.length+h.New.length=0∨h.At≤e then 5 else if h.At+h.Old.length > 120 then 3 else 0
theorem Kc {l:Ab} (h:(B5 l).Code=0):l.length≤120:=((Hr l).2 ((Er l).2 h)).1
theorem hunk_f (h:Hunk) (e:Int):Ho h e=some (hcode h e):=by
 unfold Ho hcode;by_cases ha:h.At < 0∨h.At > 120
 ·rw [Ad ha]
  have:(if decide (h.At < 0)=true then some true else some (decide (h.At > 120)))=some true:=by
   rw [Al];by_cases h0:h.At < 0
   ·rw [Ad h0]
   ·rw [Ac h0,Ag (by omega)]
  rw [this,Aa,Ad rfl]
 ·rw [Ac ha]
  have:(if decide (h.At < 0)=true then some true else some (decide (h.At > 120)))=some false:=by
   rw [Al,Ac (by omega),Af (by omega)]
  rw [this,Aa,Ac (by decide)]
  have l0:Ho.l1 h 0=if (B5 h.Old).Code≠0 then some (.done (.inl (B5 h.Old).Code)) else some (.next 1):=by
   unfold Ho.l1;rw [Al,Ad (by decide),show at? ([h.Old,h.New]:List Ab) 0=some h.Old from rfl,Aa,Xz,Aa]
   rcases Qy h.Old with h1 | h1
   ·rw [h1,Ac (by decide),Ac (by decide),Br (by omega) (by omega)];rfl
   ·rw [Ad h1,Ad (Om.2 fun h2=>h1 h2.1)]
  have l1:Ho.l1 h 1=if (B5 h.New).Code≠0 then some (.done (.inl (B5 h.New).Code)) else some (.next 2):=by
   unfold Ho.l1;rw [Al,Ad (by decide),show at? ([h.Old,h.New]:List Ab) 1=some h.New from rfl,Aa,Xz,Aa]
   rcases Qy h.New with h1 | h1
   ·rw [h1,Ac (by decide),Ac (by decide),Br (by omega) (by omega)];rfl
   ·rw [Ad h1,Ad (Om.2 fun h2=>h1 h2.1)]
  have l2:Ho.l1 h 2=some (.done (.inr ())):=by
   unfold Ho.l1;rw [Al,Ac (by decide)]
  by_cases ho:(B5 h.Old).Code≠0
  ·rw [Ad ho] at l0 ⊢;rw [Bm l0,Aa]
  ·rw [Ac ho] at l0 ⊢;by_cases hw:(B5 h.New).Code≠0
   ·rw [Ad hw] at l1 ⊢;rw [Bz l0,Bm l1,Aa]
   ·rw [Ac hw] at l1 ⊢;rw [Bz l0,Bz l1,Bm l2,Aa];have s1:=Kc (l:=h.Old) (by omega)
    have s2:=Kc (l:=h.New) (by omega)
    simp only;unfold Ho.j1;rw [Br (by omega) (by omega),Aa]
    by_cases hm:h.Old.length+h.New.length=0∨h.At≤e
    ·rw [Ad hm]
     have:(if decide ((h.Old.length:Int)+(h.New.length:Int)=0)=true then some true else some (decide (h.At≤e)))=some true:=by
      rw [Al];by_cases h0:(h.Old.length:Int)+(h.New.length:Int)=0
      ·rw [Ad h0]
      ·rw [Ac h0,Ag (by omega)]
     rw [this,Aa,Ad rfl]
    ·rw [Ac hm]
     have:(if decide ((h.Old.length:Int)+(h.New.length:Int)=0)=true then some true else some (decide (h.At≤e)))=some false:=by
      rw [Al,Ac (by omega),Af (by omega)]
     rw [this,Aa,Ac (by decide),end_f h (by omega) (by omega) (by omega),Aa,Al]
     split <;> rfl
theorem Zk {h:Hunk} {e:Int} (hc:hcode h e=0):0≤h.At∧(B5 h.Old).Code=0∧(B5 h.New).Code=0∧0 < h.Old.length+h.New.length∧e < h.At∧h.At+h.Old.length≤120:=by
 unfold hcode at hc;split at hc
 ·cases hc
 ·split at hc
  ·rename_i h1 h2;exact absurd hc h2
  ·split at hc
   ·rename_i h1 h2 h3;exact absurd hc h3
   ·split at hc
    ·cases hc
    ·split at hc
     ·cases hc
     ·omega
def Z9:Int→Int→A7→Option Fault
 | _,_,[]=>Option.none
 | i,e,h::r=>if hcode h e=0 then Z9 (i+1) (h.At+h.Old.length) r else some ⟨hcode h e,i⟩
def H8 (p:Patch):Fault:=if p.Hunks.length > 130 then ⟨2,-1⟩ else (Z9 0 (-1) p.Hunks).getD ⟨0,0⟩
theorem pscan_code:∀ (l:A7) (i e:Int) (f:Fault),Z9 i e l=some f→f.Code≠0
 | [],_,_,_,h=>by cases h
 | x::r,i,e,f,h=>by
  rw [Z9] at h;split at h
  ·exact pscan_code r _ _ f h
  ·rename_i h0;cases h;exact h0
theorem patchFault_ok (p:Patch):H8 p=⟨0,0⟩∨(H8 p).Code≠0:=by
 unfold H8;split
 ·right;show (2:Int)≠0;decide
 ·cases h:Z9 0 (-1) p.Hunks with
  | none=>left;rfl
  | some f=>right;exact pscan_code _ _ _ f h
theorem patchFault_zero (p:Patch):H8 p=⟨0,0⟩↔(H8 p).Code=0:=by
 rcases patchFault_ok p with h | h
 ·rw [h];exact ⟨fun _=>rfl,fun _=>rfl⟩
 ·exact ⟨fun h2=>by rw [h2],fun h2=>absurd h2 h⟩
theorem pvalidate_f (p:Patch):Gi p=some (H8 p):=by
 unfold Gi H8;rw [Al];by_cases h130:p.Hunks.length > 130
 ·rw [Ad (by omega),Ad h130]
 ·rw [Ac (by omega),Ac h130]
  have key:∀ (rest:A7) (k:Nat) (e:Int),p.Hunks.drop k=rest→C7 (fun s=>Gi.l1 p s.1 s.2) ((k:Int),e)=some (orL (Z9 k e rest)):=by
   intro rest
   induction rest with
   | nil =>
    intro k e hk;have:=Kt hk;refine Bm ?_;unfold Gi.l1;rw [Al,Ac (by omega)];rfl
   | cons h r ih =>
    intro k e hk;obtain ⟨hlt,hh,hr⟩:=K9 hk;rw [Z9];by_cases hc:hcode h e=0
    ·obtain ⟨z1,z2,z3,z4,z5,z6⟩:=Zk hc
     have e0:Gi.l1 p (k:Int) e=some (.next (((k+1:Nat):Int),h.At+h.Old.length)):=by
      unfold Gi.l1;rw [Al,Ad (by omega),Bg hlt,Aa,hh,hunk_f,Aa,hc,Lm,Ad rfl,end_f h (by omega) (by omega) (by omega),Aa,Br (by omega) (by omega),Aa];rfl
     rw [Ad hc,Bz e0];exact ih (k+1) _ hr
    ·rw [Ac hc];refine Bm ?_;unfold Gi.l1;rw [Al,Ad (by omega),Bg hlt,Aa,hh,hunk_f,Aa,Lm,Ac hc];rfl
  rw [show (0:Int)=((0:Nat):Int) from rfl,key p.Hunks 0 _ rfl,Aa];cases Z9 ((0:Nat):Int) (-1) p.Hunks <;> rfl
def Good:Int→A7→Prop
 | _,[]=>True
 | e,h::r=>hcode h e=0∧Good (h.At+h.Old.length) r
theorem pscan_good:∀ (l:A7) (i e:Int),Z9 i e l=Option.none↔Good e l
 | [],_,_=>by simp [Z9,Good]
 | h::r,i,e=>by
  rw [Z9,Good];by_cases hc:hcode h e=0
  ·rw [Ad hc,pscan_good r];simp [hc]
  ·rw [Ac hc];simp [hc]
theorem On (p:Patch):(H8 p).Code=0↔p.Hunks.length≤130∧Good (-1) p.Hunks:=by
 rw [← patchFault_zero,← pscan_good p.Hunks 0 (-1)];unfold H8;by_cases h:p.Hunks.length > 130
 ·rw [Ad h];constructor
  ·intro h2;cases h2
  ·intro h2;omega
 ·rw [Ac h];cases hs:Z9 0 (-1) p.Hunks with
  | none=>simp;omega
  | some f =>
   have:=pscan_code _ _ _ f hs;constructor
   ·intro h2;simp at h2;rw [h2] at this;exact absurd rfl this
   ·intro h2;cases h2.2
def occ (text part:Ab) (k:Nat):Prop:=k≤text.length∧(text.drop k).take part.length=part
instance (text part:Ab) (k:Nat):Decidable (occ text part k):=by unfold occ;infer_instance
theorem occ_len {text part:Ab} {k:Nat} (h:occ text part k):k+part.length≤text.length:=by
 have h1:=congrArg List.length h.2;simp at h1;have:=h.1;omega
theorem sequal_f (a b:Ab) (hb:a.length≤1000000):H1 a b=some (decide (a=b)):=by
 unfold H1;rw [Lm];by_cases hl:a.length=b.length
 ·rw [Ad (by omega)]
  have key:∀ (rest:Ab) (k:Nat),a.drop k=rest→a.take k=b.take k→C7 (fun s=>H1.l1 a b s) (k:Int)=some (if a=b then .inr () else .inl false):=by
   intro rest
   induction rest with
   | nil =>
    intro k hk ht;have:=Kt hk;rw [Cn (by omega),Cn (by omega)] at ht
    rw [Ad ht];refine Bm ?_;unfold H1.l1;rw [Al,Ac (by omega)]
   | cons x r ih =>
    intro k hk ht;obtain ⟨hlt,hx,hr⟩:=K9 hk;have hlt2:k < b.length:=by omega
    by_cases he:x=b[k]
    ·have e0:H1.l1 a b (k:Int)=some (.next ((k+1:Nat):Int)):=by
      unfold H1.l1;rw [Al,Ad (by omega),Bg hlt,Aa,hx,Bg hlt2,Aa,Lm,Ad he,Br (by omega) (by omega),Aa];rfl
     rw [Bz e0];exact ih (k+1) hr (by rw [As hlt,As hlt2,ht,hx,he])
    ·rw [Ac (fun e=>he (by rw [← hx];simp only [e]))]
     refine Bm ?_;unfold H1.l1;rw [Al,Ad (by omega),Bg hlt,Aa,hx,Bg hlt2,Aa,Lm,Ac he]
  rw [show (0:Int)=((0:Nat):Int) from rfl,key a 0 rfl rfl,Aa];by_cases h:a=b
  ·rw [Ad h,Ag h]
  ·rw [Ac h,Af h]
 ·rw [Ac (by omega),Af (fun e=>hl (by rw [e]))]
theorem occurs_f (text part:Ab) (i:Int) (h1:text.length≤1000000) (h2:part.length≤1000000):Uz text part i=some (decide (0≤i∧occ text part i.toNat)):=by
 unfold Uz;by_cases hi:0≤i∧i≤text.length
 ·have e1:(if decide (i ≥ 0)=true then some (decide (i≤(text.length:Int))) else some false)=some true:=by
   rw [Al,Ad hi.1,Ag hi.2]
  rw [e1,Aa,Ad rfl,Br (by omega) (by omega),Aa,Aa,Al]
  by_cases hp:(part.length:Int)≤text.length - i
  ·rw [Ad hp,Br (by omega) (by omega),Aa,Tr (by omega) (by omega) (by omega),Aa,sequal_f _ _ (by simp;omega),Aa,Aa]
   congr 1
   have:(text.take (i+(part.length:Int)).toNat).drop i.toNat=(text.drop i.toNat).take part.length:=by
    rw [List.take_drop];congr 2;omega
   rw [this];rw [Ch];unfold occ;constructor
   ·intro h;exact ⟨by omega,by omega,h⟩
   ·intro h;exact h.2.2
  ·rw [Ac hp,Aa];congr 1;rw [eq_comm,Ep];rintro ⟨_,h⟩;have:=occ_len h;omega
 ·have e1:(if decide (i ≥ 0)=true then some (decide (i≤(text.length:Int))) else some false)=some false:=by
   rw [Al];by_cases h0:i ≥ 0
   ·rw [Ad h0,Af (by omega)]
   ·rw [Ac h0]
  rw [e1];simp only [Aa,A6,Cg];congr 1;rw [eq_comm,Ep];rintro ⟨h0,h⟩;exact hi ⟨h0,by have:=h.1;omega⟩
def Qq:A7→Ab→Nat→Ab
 | [],text,low=>text.drop low
 | h::r,text,low=>(text.drop low).take (h.At.toNat - low)++(h.New++Qq r text (h.At.toNat+h.Old.length))
def Fits (text:Ab) (l:A7):Prop:=∀ h∈l,occ text h.Old h.At.toNat
theorem raw_f (text:Ab) (ht:text.length≤120) (hs:A7) (hn:hs.length≤130):∀ (rest:A7) (k low:Nat) (out:Ab) (e:Int),hs.drop k=rest→Good e rest→Fits text rest→(low:Int)≤e+1→low≤text.length→out.length≤k * 240→k≤130 →
  ∃ fin:Nat,fin≤text.length∧∃ o,C7 (fun s=>E3.l1 hs text s.1 s.2.1 s.2.2) ((k:Int),out,(low:Int))=some (o,(fin:Int))∧o++text.drop fin=out++Qq rest text low∧o.length≤131 * 240:=by
 intro rest
 induction rest with
 | nil =>
  intro k low out e hk _ _ _ hlow hout hk130;have:=Kt hk;refine ⟨low,hlow,out,Bm ?_,rfl,?_⟩
  ·unfold E3.l1;rw [Al,Ac (by omega)]
  ·have:k * 240≤130 * 240:=Aq _ hk130;omega
 | cons h r ih =>
  intro k low out e hk hg hf hle hlow hout hk130;obtain ⟨hlt,hh,hr⟩:=K9 hk;obtain ⟨hc,hg'⟩:=hg;obtain ⟨z1,z2,z3,z4,z5,z6⟩:=Zk hc;have ho:=occ_len (hf h (by simp))
  have l2:=Kc z3;have hka:k < 130:=by omega
  have hlo:low≤h.At.toNat:=by omega
  have e0:E3.l1 hs text (k:Int) out (low:Int)=some (.next (((k+1:Nat):Int),out++(text.drop low).take (h.At.toNat - low)++h.New,((h.At.toNat+h.Old.length:Nat):Int))):=by
   unfold E3.l1
   have hcut:(text.take h.At.toNat).drop (low:Int).toNat=(text.drop low).take (h.At.toNat - low):=by
    rw [Ay,List.drop_take]
   rw [Al,Ad (by omega),Bg hlt,Aa,hh,Tr (by omega) (by omega) (by omega),Aa,hcut,
    Dp (by simp;omega),Aa,Dp (by simp;omega),Aa,end_f h (by omega) (by omega) (by omega),Aa,Br (by omega) (by omega),Aa,
    show h.At+(h.Old.length:Int)=((h.At.toNat+h.Old.length:Nat):Int) by omega]
   rfl
  rw [Bz e0];obtain ⟨fin,f1,o,f2,f3,f4⟩:=ih (k+1) (h.At.toNat+h.Old.length) (out++(text.drop low).take (h.At.toNat - low)++h.New) (h.At+h.Old.length) hr hg' (fun q hq=>hf q (Bk _ hq)) (by omega) (by omega) (by simp;omega) (by omega)
  refine ⟨fin,f1,o,f2,?_,f4⟩;rw [f3,Qq];simp only [Am]
theorem Raw_f {text:Ab} (ht:text.length≤120) {hs:A7} (hn:hs.length≤130) (hg:Good (-1) hs) (hf:Fits text hs):E3 hs text 0 (text.length:Int)=some (Qq hs text 0):=by
 obtain ⟨fin,f1,o,f2,f3,f4⟩:=raw_f text ht hs hn hs 0 0 [] (-1) rfl hg hf (by omega) (Cs _) (by simp) (by omega)
 unfold E3;rw [show ((0:Nat):Int)=0 from rfl] at f2;rw [f2,Aa];unfold E3.j1;rw [Tr (by omega) (by omega) (by omega),Aa,Ay,Ay,Bw,Dp (by simp;omega),Aa,f3]
 rfl
def oscan (text:Ab):Int→A7→Option Fault
 | _,[]=>Option.none
 | i,h::r=>if occ text h.Old h.At.toNat then oscan text (i+1) r else some ⟨19,i⟩
theorem Zs (text:Ab):∀ (l:A7) (i:Int),oscan text i l=Option.none↔Fits text l
 | [],_=>by simp [oscan,Fits]
 | h::r,i=>by
  rw [oscan];by_cases hc:occ text h.Old h.At.toNat
  ·rw [Ad hc,Zs text r];simp [Fits,hc]
  ·rw [Ac hc];simp [Fits,hc]
theorem oscan_code (text:Ab):∀ (l:A7) (i:Int) (f:Fault),oscan text i l=some f→f.Code=19
 | [],_,_,h=>by cases h
 | x::r,i,f,h=>by
  rw [oscan] at h;split at h
  ·exact oscan_code text r _ f h
  ·cases h;rfl
def Qn (p:Patch) (text:Ab):Ab×Fault :=
 if (H8 p).Code≠0 then ([],H8 p) else if (B5 text).Code≠0 then ([],⟨(B5 text).Code,-2⟩) else
 match oscan text 0 p.Hunks with
 | some f=>([],f)
 | Option.none=>if (Qq p.Hunks text 0).length > 120 then ([],⟨10,-1⟩) else (Qq p.Hunks text 0,⟨0,0⟩)
theorem good_at:∀ {l:A7} {e:Int},Good e l → -1≤e→∀ h∈l,0≤h.At∧h.At+h.Old.length≤120∧(B5 h.Old).Code=0∧(B5 h.New).Code=0∧0 < h.Old.length+h.New.length
 | x::r,e,hg,he,h,hm=>by
  obtain ⟨hc,hg'⟩:=hg;obtain ⟨z1,z2,z3,z4,z5,z6⟩:=Zk hc;rcases Bf.1 hm with rfl | hm
  ·exact ⟨z1,z6,z2,z3,z4⟩
  ·exact good_at hg' (by omega) h hm
theorem apply_f (p:Patch) (text:Ab):Hi p text=some (Qn p text):=by
 unfold Hi Qn;rw [pvalidate_f,Aa];rcases patchFault_ok p with hp | hp
 ·rw [hp];simp only [ne_eq,not_true,Cg];rw [Ac (by simp),second_f,Aa]
  rcases Qy text with ht | ht
  ·rw [ht];simp only [ne_eq,not_true,Cg,E4];rw [Ac (by simp)]
   obtain ⟨hn,hg⟩:=(On p).1 ((patchFault_zero p).1 hp);have hl:=Kc ((Er text).1 ht)
   have key:∀ (rest:A7) (k:Nat),p.Hunks.drop k=rest→(∀ h∈rest,0≤h.At∧h.Old.length≤120)→C7 (fun s=>Hi.l1 p text s) (k:Int)=some (orL ((oscan text k rest).map fun f=>(([]:Ab),f))):=by
    intro rest
    induction rest with
    | nil =>
     intro k hk _;have:=Kt hk;refine Bm ?_;unfold Hi.l1;rw [Al,Ac (by omega)];rfl
    | cons h r ih =>
     intro k hk hall;obtain ⟨hlt,hh,hr⟩:=K9 hk;obtain ⟨h0,h1⟩:=hall h (by simp)
     rw [oscan]
     have eo:Uz text h.Old h.At=some (decide (occ text h.Old h.At.toNat)):=by
      rw [occurs_f _ _ _ (by omega) (by omega)];simp [h0]
     by_cases hc:occ text h.Old h.At.toNat
     ·have e0:Hi.l1 p text (k:Int)=some (.next ((k+1:Nat):Int)):=by
       unfold Hi.l1;rw [Al,Ad (by omega),Bg hlt,Aa,hh,eo,Aa,Ag hc,Ac (by decide),Br (by omega) (by omega),Aa];rfl
      rw [Ad hc,Bz e0];exact ih (k+1) hr (fun q hq=>hall q (Bk _ hq))
     ·rw [Ac hc];refine Bm ?_;unfold Hi.l1;rw [Al,Ad (by omega),Bg hlt,Aa,hh,eo,Aa,Af hc,Ad (by decide)];rfl
   rw [show (0:Int)=((0:Nat):Int) from rfl,key p.Hunks 0 rfl (fun h hm=>by
    obtain ⟨z1,_,z2,_⟩:=good_at hg (by omega) h hm
    exact ⟨z1,Kc z2⟩),Aa,show (((0:Nat):Int))=0 from rfl]
   cases ho:oscan text 0 p.Hunks with
   | some f=>rfl
   | none =>
    have hf:=(Zs text p.Hunks 0).1 ho;simp only [Option.map_none,orL];unfold Hi.j1;rw [Raw_f hl hn hg hf,Aa,Al];by_cases h120:(Qq p.Hunks text 0).length > 120
    ·rw [Ad (by omega),Ad h120]
    ·rw [Ac (by omega),Ac h120]
  ·simp only [ne_eq,ht,not_false_iff,E4,Cg];rw [Ad (by simp)]
 ·simp only [ne_eq,hp,not_false_iff,E4];rw [Ad (by simp [hp])]
theorem applyF_ok {p:Patch} {text:Ab} (h:(Qn p text).2.Code=0):p.Hunks.length≤130∧Good (-1) p.Hunks∧Kb text∧Fits text p.Hunks∧(Qq p.Hunks text 0).length≤120∧Qn p text=(Qq p.Hunks text 0,⟨0,0⟩):=by
 unfold Qn at h ⊢;by_cases hp:(H8 p).Code≠0
 ·rw [Ad hp] at h;exact absurd h hp
 ·rw [Ac hp] at h ⊢;by_cases ht:(B5 text).Code≠0
  ·rw [Ad ht] at h;exact absurd h ht
  ·rw [Ac ht] at h ⊢;cases ho:oscan text 0 p.Hunks with
   | some f =>
    rw [ho] at h;have:=oscan_code text _ _ _ ho;simp only at h;rw [this] at h;cases h
   | none =>
    rw [ho] at h;simp only at h ⊢;by_cases h120:(Qq p.Hunks text 0).length > 120
    ·rw [Ad h120] at h;cases h
    ·rw [Ac h120];obtain ⟨a1,a2⟩:=(On p).1 (by omega)
     exact ⟨a1,a2,(Hr _).2 ((Er _).2 (by omega)),(Zs _ _ _).1 ho,by omega,rfl⟩
theorem bool_or {p:Prop} [Decidable p] {b:Bool}:(if decide p=true then some true else some b)=some (decide p || b):=by
 by_cases h:p <;> simp [h]
def gr (h:Hunk):Int:=(h.New.length:Int) - h.Old.length
def rng (h:Hunk):Range_commute:=⟨h.At,h.At+h.Old.length,gr h⟩
def newR:Int→A7→Kl
 | _,[]=>[]
 | s,h::r=>⟨h.At+s,h.At+s+h.New.length,gr h⟩::newR (s+gr h) r
def tch (a b:Range_commute):Bool:=decide (a.High ≥ b.Low) && decide (b.High ≥ a.Low)
def SmH (B:Int) (h:Hunk):Prop:=-B≤h.At∧h.At≤B∧h.Old.length≤120∧h.New.length≤120
def Sm (B:Int) (l:A7):Prop:=l.length≤130∧∀ h∈l,SmH B h
theorem sm_of {p:Patch} (h:(H8 p).Code=0):Sm 120 p.Hunks:=by
 obtain ⟨h1,h2⟩:=(On p).1 h;refine ⟨h1,fun x hx=>?_⟩;obtain ⟨a1,a2,a3,a4,_⟩:=good_at h2 (by omega) x hx
 exact ⟨by omega,by omega,Kc a3,Kc a4⟩
theorem growth_f (h:Hunk) (h1:h.Old.length≤120) (h2:h.New.length≤120):Qo h=some (gr h):=by
 unfold Qo;rw [Br (by omega) (by omega)];rfl
theorem rend_f (h:Hunk) (h0 : -1000000≤h.At) (h1:h.At≤1000000) (h2:h.Old.length≤1000000):Gv h=some (h.At+h.Old.length):=by
 unfold Gv;rw [Br (by omega) (by omega)];rfl
theorem oldRanges_f {B:Int} (hB:B≤20000) (p:Patch) (hp:Sm B p.Hunks):G3 p=some (p.Hunks.map rng):=by
 obtain ⟨hl,hs⟩:=hp
 have key:∀ (rest:A7) (k:Nat) (out:Kl),p.Hunks.drop k=rest→out.length=k→C7 (fun s=>G3.l1 p s.1 s.2) ((k:Int),out)=some (out++rest.map rng):=by
  intro rest
  induction rest with
  | nil =>
   intro k out hk _;have:=Kt hk;refine Bm ?_;simp only;unfold G3.l1;rw [Al,Ac (by omega),List.map_nil,Bh]
  | cons h r ih =>
   intro k out hk h3;obtain ⟨hlt,hh,hr⟩:=K9 hk;obtain ⟨b1,b2,b3,b4⟩:=hs h (hh ▸ Ar hlt)
   have e0:G3.l1 p (k:Int) out=some (.next (((k+1:Nat):Int),out++[rng h])):=by
    unfold G3.l1
    rw [Al,Ad (by omega),Bg hlt,Aa,hh,end_f h (by omega) (by omega) (by omega),Aa,growth_f h b3 b4,Aa,
     Dp (by simp only [Ak];omega),Aa,Br (by omega) (by omega),Aa]
    rfl
   rw [Bz e0,ih (k+1) _ hr (by simp;omega),Dg,Am]
   rfl
 unfold G3;rw [show (0:Int)=((0:Nat):Int) from rfl,key p.Hunks 0 [] rfl rfl,Aa];rfl
theorem clone_f (l:Ab) (h:l.length≤1000000):Nw l=some l:=by
 unfold Nw
 have e:((app? 16 ([]:Ab) l).bind fun y1=>some y1)=some l:=by
  rw [Dp (by simp only [Ey];omega)];rfl
 rw [e,nilIf_same (fun h=>by rw [h])]
theorem fless {f:Fault} (h:f=⟨0,0⟩∨f.Code≠0):(!(decide (f.Code=0) && decide (f.Index=0)))=decide (f.Code≠0):=by
 rcases h with h | h
 ·rw [h];rfl
 ·simp [h]
theorem rat_f (c i:Int):Bd c i=some ⟨c,i⟩:=rfl
theorem rpatchFault_f (p:Patch):Dn p=some (H8 p):=by
 unfold Dn H8;rw [Al];by_cases h130:p.Hunks.length > 130
 ·rw [Ad (by omega),Ad h130];rfl
 ·rw [Ac (by omega),Ac h130]
  have key:∀ (rest:A7) (k:Nat) (e:Int),p.Hunks.drop k=rest→((k=0∧e = -1)∨(0 < k∧∃ (h:k - 1 < p.Hunks.length),e=p.Hunks[k - 1].At+p.Hunks[k - 1].Old.length∧0≤p.Hunks[k - 1].At∧e≤120)) →
    C7 (fun s=>Dn.l1 p s) (k:Int)=some (orL (Z9 k e rest)):=by
   intro rest
   induction rest with
   | nil =>
    intro k e hk _;have:=Kt hk;refine Bm ?_;unfold Dn.l1;rw [Al,Ac (by omega)];rfl
   | cons h r ih =>
    intro k e hk he;obtain ⟨hlt,hh,hr⟩:=K9 hk;rw [Z9]
    have e0:Dn.l1 p (k:Int)=if hcode h e=0 then some (.next ((k+1:Nat):Int)) else some (.done (.inl ⟨hcode h e,(k:Int)⟩)):=by
     unfold Dn.l1;rw [Al,Ad (by omega),Bg hlt,Aa,hh]
     simp only [rat_f,Nz,Aa];unfold hcode;rw [bool_or,Aa];by_cases c1:h.At < 0∨h.At > 120
     ·have:(decide (h.At < 0) || decide (h.At > 120))=true:=by simp;omega
      rw [Ad this,Ad c1,Ac (by decide)]
     ·have:(decide (h.At < 0) || decide (h.At > 120))=false:=by simp;omega
      rw [this,Ac (by decide),Ac c1]
      simp only [Lm];by_cases c2:(B5 h.Old).Code=0
      ·rw [Ad c2];by_cases c3:(B5 h.New).Code=0
       ·rw [Ad c3];have l1:=Kc c2;have l2:=Kc c3;simp only [c2,c3,ne_eq,not_true,Cg];rw [Br (by omega) (by omega),Aa]
        have hprev:(if decide (((k:Nat):Int) > 0)=true then (ckK .i64 ((k:Int) - 1)).bind fun z2=>(at? p.Hunks z2).bind fun y8=>(Gv y8).bind fun y9=>some (decide (h.At≤y9)) else some false)=some (decide (h.At≤e)):=by
         rcases he with ⟨k0,e0⟩ | ⟨kp,hk1,e1,e2,e3⟩
         ·rw [Al,Ac (by omega),e0,Af (by omega)]
         ·rw [Al,Ad (by omega),Br (by omega) (by omega),Aa,show (k:Int) - 1=((k - 1:Nat):Int) by omega,Bg hk1,Aa,rend_f _ (by omega) (by omega) (by omega),Aa,e1]
        rw [hprev,Aa,bool_or,Aa];by_cases c4:h.Old.length+h.New.length=0∨h.At≤e
        ·have:(decide ((h.Old.length:Int)+(h.New.length:Int)=0) || decide (h.At≤e))=true:=by simp;omega
         rw [Ad this,Ad c4,Ac (by decide)]
        ·have:(decide ((h.Old.length:Int)+(h.New.length:Int)=0) || decide (h.At≤e))=false:=by simp;omega
         rw [this,Ac (by decide),Ac c4,rend_f h (by omega) (by omega) (by omega),Aa,Al]
         by_cases c5:h.At+h.Old.length > 120
         ·rw [Ad c5,Ad c5,Ac (by decide)]
         ·rw [Ac c5,Ac c5,Ad rfl,Br (by omega) (by omega),Aa];rfl
       ·rw [Ac c3];simp only [c2,ne_eq,not_true,Cg,c3,not_false_iff,E4]
      ·rw [Ac c2];simp only [c2,ne_eq,not_false_iff,E4,Cg]
    by_cases hc:hcode h e=0
    ·rw [Ad hc] at e0 ⊢;obtain ⟨z1,z2,z3,z4,z5,z6⟩:=Zk hc;rw [Bz e0];refine ih (k+1) _ hr (Or.inr ⟨by omega,by simpa using hlt,?_⟩)
     simp only [Nat.add_sub_cancel,hh];exact ⟨trivial,z1,z6⟩
    ·rw [Ac hc] at e0 ⊢;exact Bm e0
  rw [show (0:Int)=((0:Nat):Int) from rfl,key p.Hunks 0 (-1) rfl (Or.inl ⟨rfl,rfl⟩),Aa];cases Z9 ((0:Nat):Int) (-1) p.Hunks <;> rfl
theorem patch_refl {B:Int} (p:Patch) (hp:Sm B p.Hunks):E1 p p=some true:=by
 obtain ⟨hl,hs⟩:=hp;unfold E1;rw [Lm,Ad rfl]
 have key:∀ (rest:A7) (k:Nat),p.Hunks.drop k=rest→C7 (fun s=>E1.l1 p p s) (k:Int)=some (.inr ()):=by
  intro rest
  induction rest with
  | nil =>
   intro k hk;have:=Kt hk;refine Bm ?_;unfold E1.l1;rw [Al,Ac (by omega)]
  | cons h r ih =>
   intro k hk;obtain ⟨hlt,hh,hr⟩:=K9 hk;obtain ⟨b1,b2,b3,b4⟩:=hs h (hh ▸ Ar hlt)
   have e0:E1.l1 p p (k:Int)=some (.next ((k+1:Nat):Int)):=by
    unfold E1.l1;rw [Al,Ad (by omega)]
    simp only [Bg hlt,Aa,hh,strings_eq h.Old h.Old (by omega),strings_eq h.New h.New (by omega),C3,Ct,A6,Cg]
    rw [Br (by omega) (by omega)];rfl
   rw [Bz e0,ih (k+1) hr]
 rw [show (0:Int)=((0:Nat):Int) from rfl,key p.Hunks 0 rfl];rfl
structure Pc where
 k:Bool
 g:Int
 o:Ab
 n:Ab
def sel (t u:Bool):Int→List Pc→A7
 | _,[]=>[]
 | e,c::r=>if c.k=t then ⟨e+c.g,c.o,c.n⟩::sel t u (e+c.g+c.o.length) r else sel t u (e+c.g+(if u=true then (c.n.length:Int) else c.o.length)) r
theorem sel_s {t u:Bool} {c:Pc} {r:List Pc} {e:Int} (h:c.k=t):sel t u e (c::r)=⟨e+c.g,c.o,c.n⟩::sel t u (e+c.g+c.o.length) r:=by rw [sel,Ad h]
theorem sel_o {t:Bool} {c:Pc} {r:List Pc} {e:Int} (h:¬ c.k=t):sel t false e (c::r)=sel t false (e+c.g+c.o.length) r:=by rw [sel,Ac h,Ac (by decide)]
theorem sel_n {t:Bool} {c:Pc} {r:List Pc} {e:Int} (h:¬ c.k=t):sel t true e (c::r)=sel t true (e+c.g+c.n.length) r:=by rw [sel,Ac h,Ad rfl]
def Val (m:List Pc):Prop:=∀ c∈m,1≤c.g
theorem val_nil:Val []:=fun _ hc=>by cases hc
def Srt:Int→A7→Prop
 | _,[]=>True
 | e,h::r=>e < h.At∧Srt (h.At+h.Old.length) r
theorem srt_of:∀ (l:A7) (e:Int),Good e l→Srt e l
 | [],_,_=>trivial
 | _::r,_,hg=>⟨(Zk hg.1).2.2.2.2.1,srt_of r _ hg.2⟩
def NoT (a b:Kl):Prop:=∀ x∈a,∀ y∈b,tch x y=false
theorem lt_of_tch {a b:Range_commute} (h:tch a b=false):a.High < b.Low∨b.High < a.Low:=by
 unfold tch at h;by_cases h1:a.High ≥ b.Low
 ·by_cases h2:b.High ≥ a.Low
  ·rw [Ag h1,Ag h2] at h;cases h
  ·right;omega
 ·left;omega
theorem pieces:∀ (N:Nat) (pl ql:A7) (e s:Int),pl.length+ql.length≤N→Srt e pl→Srt (e+s) ql→NoT (newR s pl) (ql.map rng)→∃ m,Val m∧pl=sel true false e m∧ql=sel false true (e+s) m:=by
 intro N
 induction N with
 | zero =>
  intro pl ql e s hN _ _ _;have h1:pl=[]:=Db (by omega)
  have h2:ql=[]:=Db (by omega)
  exact ⟨[],val_nil,h1,h2⟩
 | succ N ih =>
  intro pl ql e s hN hp hq hno
  have takeP:∀ (h:Hunk) (pr:A7),pl=h::pr→Srt (h.At+h.Old.length+(s+gr h)) ql→∃ m,Val m∧pl=sel true false e m∧ql=sel false true (e+s) m:=by
   intro h pr hpl hq';subst hpl;obtain ⟨m,m1,m2,m3⟩:=ih pr ql (h.At+h.Old.length) (s+gr h) (by simp at hN;omega) hp.2 hq' (fun x hx y hy=>hno x (by rw [newR];exact Bk _ hx) y hy)
   refine ⟨⟨true,h.At - e,h.Old,h.New⟩::m,?_,?_,?_⟩
   ·intro c hc;rcases Bf.1 hc with rfl | hc
    ·have:=hp.1;simp only;omega
    ·exact m1 c hc
   ·rw [sel_s (c:=⟨true,h.At - e,h.Old,h.New⟩) rfl];simp only;rw [show e+(h.At - e)=h.At by omega,← m2]
   ·rw [sel_n (by simp)]
    simp only;rw [show e+s+(h.At - e)+(h.New.length:Int)=h.At+h.Old.length+(s+gr h) by unfold gr;omega]
    exact m3
  have takeQ:∀ (h:Hunk) (qr:A7),ql=h::qr→Srt (h.At+h.Old.length - s) pl→∃ m,Val m∧pl=sel true false e m∧ql=sel false true (e+s) m:=by
   intro h qr hql hp';subst hql;have hq2:=hq.2;rw [show h.At+(h.Old.length:Int)=h.At+h.Old.length - s+s by omega] at hq2
   obtain ⟨m,m1,m2,m3⟩:=ih pl qr (h.At+h.Old.length - s) s (by simp at hN;omega) hp' hq2 (fun x hx y hy=>hno x hx y (by rw [Dg];exact Bk _ hy))
   refine ⟨⟨false,h.At - s - e,h.Old,h.New⟩::m,?_,?_,?_⟩
   ·intro c hc;rcases Bf.1 hc with rfl | hc
    ·have:=hq.1;simp only;omega
    ·exact m1 c hc
   ·rw [sel_o (by simp)]
    simp only;rw [show e+(h.At - s - e)+(h.Old.length:Int)=h.At+h.Old.length - s by omega]
    exact m2
   ·rw [sel_s (c:=⟨false,h.At - s - e,h.Old,h.New⟩) rfl];simp only;rw [show e+s+(h.At - s - e)=h.At by omega,show h.At+(h.Old.length:Int)=h.At+h.Old.length - s+s by omega,← m3]
  match hpl:pl,hql:ql with
  | [],[]=>exact ⟨[],val_nil,rfl,rfl⟩
  | h::pr,[]=>exact takeP h pr rfl trivial
  | [],h::qr=>exact takeQ h qr rfl trivial
  | h::pr,y::qr =>
   have ht:=hno ⟨h.At+s,h.At+s+h.New.length,gr h⟩ (by rw [newR];simp) (rng y) (by simp)
   rcases lt_of_tch ht with h1 | h1
   ·refine takeP h pr rfl ⟨?_,hq.2⟩;have h1':h.At+s+h.New.length < y.At:=h1;unfold gr;omega
   ·refine takeQ y qr rfl ⟨?_,hp.2⟩;have h1':y.At+y.Old.length < h.At+s:=h1;omega
theorem rawS_cut:∀ (hs:A7) (T:Ab) (b n:Nat),(∀ h∈hs,((b+n:Nat):Int)≤h.At)→Qq hs T b=(T.drop b).take n++Qq hs T (b+n)
 | [],T,b,n,_=>by rw [Qq,Qq,← Gu,Hj]
 | h::r,T,b,n,ha=>by
  have:=ha h (by simp)
  rw [Qq,Qq,show h.At.toNat - b=n+(h.At.toNat - (b+n)) by omega,U4,Gu,Am]
def chF (c:TreeChange):Int :=
 if c.Kind < 1∨c.Kind > 4 then 4
 else if Kq c.Path=false∨(c.Kind=3∧Kq c.To=false) then 12
 else if (c.Kind≠3∧c.To≠⟨#[]⟩)∨(c.Kind=3∧Oc c.Path c.To=true)∨(c.Lines≠[]∧(c.Kind=4∨c.Kind=3))∨(c.Kind=4∧c.Patch.Hunks=[])∨(c.Kind≠4∧c.Patch.Hunks≠[]) then 5
 else if (B5 c.Lines).Code≠0 then (B5 c.Lines).Code else (H8 c.Patch).Code
theorem Aap {α:Type} (l:List α):decide ((l.length:Int) > 0)=decide (l≠[]):=Ch.2 (by cases l <;> simp <;> omega)
theorem len_zero_dec {α:Type} (l:List α):decide ((l.length:Int)=0)=decide (l=[]):=Ch.2 (by cases l <;> simp <;> omega)
theorem rel_ok {c:TreeChange} (h:¬ (Kq c.Path=false∨(c.Kind=3∧Kq c.To=false))) (h3:c.Kind=3):c.Path.size≤1000000∧c.To.size≤1000000:=by
 have h1:Kq c.Path=true:=by cases hh:Kq c.Path with | true=>rfl | false=>exact absurd (Or.inl hh) h
 have h2:Kq c.To=true:=by cases hh:Kq c.To with | true=>rfl | false=>exact absurd (Or.inr ⟨h3,hh⟩) h
 have:=Mu h1;have:=Mu h2;omega
theorem check_f (c:TreeChange):Th c=some (chF c):=by
 unfold Th chF;simp only [ValidPath_f,orB,andB,Aa,Aap];by_cases h1:c.Kind < 1∨c.Kind > 4
 ·rw [Ad h1,Ad (by simpa using h1)]
 ·rw [Ac h1,Ac (by simpa using h1)]
  have e2:(!Kq c.Path || if decide (c.Kind=3)=true then !Kq c.To else false)=decide (Kq c.Path=false∨(c.Kind=3∧Kq c.To=false)):=by
   by_cases h3:c.Kind=3 <;> cases Kq c.Path <;> cases Kq c.To <;> simp [h3]
  have e2':(if !Kq c.Path=true then some true else (if decide (c.Kind=3)=true then some (!Kq c.To) else some false).bind fun x3=>some x3)=some (decide (Kq c.Path=false∨(c.Kind=3∧Kq c.To=false))):=by
   rw [← e2];by_cases h3:c.Kind=3 <;> cases Kq c.Path <;> cases Kq c.To <;> simp [h3]
  by_cases h2:Kq c.Path=false∨(c.Kind=3∧Kq c.To=false)
  ·rw [Ad h2];rw [Ag h2] at e2';simp only [Aa,andB,orB] at e2' ⊢;rw [show (!Kq c.Path || (decide (c.Kind=3) && !Kq c.To))=true from by simpa using e2']
   rfl
  ·rw [Ac h2];rw [Af h2] at e2';simp only [Aa,andB,orB] at e2' ⊢;rw [show (!Kq c.Path || (decide (c.Kind=3) && !Kq c.To))=false from by simpa using e2']
   rw [Ac (by decide)]
   have e3:(if decide (c.Kind=3)=true then (L1 c.Path c.To).bind fun y3=>some y3 else some false)=some (decide (c.Kind=3) && Oc c.Path c.To):=by
    by_cases h3:c.Kind=3
    ·obtain ⟨a,b⟩:=rel_ok h2 h3;rw [Related_f a b,Ag h3];rfl
    ·rw [Af h3];rfl
   rw [e3];simp only [Aa,orB];by_cases h5:(c.Kind≠3∧c.To≠⟨#[]⟩)∨(c.Kind=3∧Oc c.Path c.To=true)∨(c.Lines≠[]∧(c.Kind=4∨c.Kind=3))∨(c.Kind=4∧c.Patch.Hunks=[])∨(c.Kind≠4∧c.Patch.Hunks≠[])
   ·rw [Ad h5];by_cases g1:((!decide (c.Kind=3) && !decide (c.To=⟨#[]⟩)) || (decide (c.Kind=3) && Oc c.Path c.To))=true
    ·rw [Ad g1]
    ·rw [Ac g1];by_cases g2:(decide (c.Lines≠[]) && (decide (c.Kind=4) || decide (c.Kind=3)))=true
     ·rw [Ad g2]
     ·rw [Ac g2,Ad];simp only [Gd,Cv,Bool.not_eq_true',Bs,Ep,ne_eq] at g1 g2 h5 ⊢;by_cases k4:c.Kind=4 <;> by_cases kh:c.Patch.Hunks=[] <;> simp [k4,kh] at h5 g1 g2 ⊢
      all_goals first
       | omega
       | (rcases h5 with ⟨a,b⟩ | ⟨a,b⟩ | ⟨a,b⟩ <;> simp_all)
       | simp_all
   ·rw [Ac h5]
    rw [Ac (by
     simp only [Gd,Cv,Bool.not_eq_true',Bs,Ep,ne_eq];intro h;rcases h with h | h
     ·exact h5 (Or.inl h)
     ·exact h5 (Or.inr (Or.inl h)))]
    rw [Ac (by
     simp only [Gd,Cv,Bs];intro h;exact h5 (Or.inr (Or.inr (Or.inl h))))]
    rw [Ac (by
     simp only [Bool.not_eq_true',Ep];intro h;by_cases k4:c.Kind=4 <;> by_cases kh:c.Patch.Hunks=[] <;> simp [k4,kh] at h5 h)]
    rw [Xz,Aa,fless (Qy c.Lines),Al,pvalidate_f];split <;> rfl
theorem ChangeCode_f (c:TreeChange):Ln c=some (chF c):=by
 unfold Ln chF;simp only [PathValid_f,Z2,orB,andB,Aa,Aap,len_zero_dec];by_cases h1:c.Kind < 1∨c.Kind > 4
 ·rw [Ad h1,Ad (by simp;omega)]
 ·rw [Ac h1,Ac (by simp;omega)]
  have e2:(!Kq c.Path || (decide (c.Kind=3) && !Kq c.To))=decide (Kq c.Path=false∨(c.Kind=3∧Kq c.To=false)):=by
   by_cases h3:c.Kind=3 <;> cases Kq c.Path <;> cases Kq c.To <;> simp [h3]
  rw [e2,Al];by_cases h2:Kq c.Path=false∨(c.Kind=3∧Kq c.To=false)
  ·rw [Ad h2,Ad h2]
  ·rw [Ac h2,Ac h2]
   have e5:(!decide (c.Kind=3) && !decide (c.To=⟨#[]⟩) || decide (c.Kind=3) && Oc c.Path c.To || !decide (c.Kind=1) && !decide (c.Kind=2) && decide (c.Lines≠[]) || decide (c.Kind=4) && decide (c.Patch.Hunks=[]) || !decide (c.Kind=4) && decide (c.Patch.Hunks≠[])) =
     decide ((c.Kind≠3∧c.To≠⟨#[]⟩)∨(c.Kind=3∧Oc c.Path c.To=true)∨(c.Lines≠[]∧(c.Kind=4∨c.Kind=3))∨(c.Kind=4∧c.Patch.Hunks=[])∨(c.Kind≠4∧c.Patch.Hunks≠[])):=by
    have hk:c.Kind=1∨c.Kind=2∨c.Kind=3∨c.Kind=4:=by omega
    rcases hk with k | k | k | k <;> rw [k] <;> by_cases t1:c.To=⟨#[]⟩ <;> by_cases t2:c.Lines=[] <;> by_cases t3:c.Patch.Hunks=[] <;> cases Oc c.Path c.To <;> simp [t1,t2,t3]
   rw [e5,Al];split
   ·rfl
   ·rw [Nz,Aa,rpatchFault_f,Lm];by_cases h:(B5 c.Lines).Code=0
    ·rw [Ad h,Ac (by simpa using h)];rfl
    ·rw [Ac h,Ad h]
structure OkCh (c:TreeChange):Prop where
 kind:1≤c.Kind∧c.Kind≤4
 path:Kq c.Path=true
 to:c.Kind=3→Kq c.To=true∧Oc c.Path c.To=false
 noTo:c.Kind≠3→c.To=⟨#[]⟩
 noLines:c.Kind=4∨c.Kind=3→c.Lines=[]
 hunks:c.Kind=4→c.Patch.Hunks≠[]
 noHunks:c.Kind≠4→c.Patch.Hunks=[]
 lines:(B5 c.Lines).Code=0
 patch:(H8 c.Patch).Code=0
theorem chF_ok {c:TreeChange}:chF c=0↔OkCh c:=by
 unfold chF;constructor
 ·intro h;split at h
  ·cases h
  ·rename_i h1
   split at h
   ·cases h
   ·rename_i h2
    split at h
    ·cases h
    ·rename_i h3
     split at h
     ·rename_i h4;exact absurd h h4
     ·rename_i h4
      refine ⟨by omega,?_,fun k=>⟨?_,?_⟩,fun k=>?_,fun k=>?_,fun k e=>?_,fun k=>?_,by omega,h⟩
      ·cases hh:Kq c.Path with | true=>rfl | false=>exact absurd (Or.inl hh) h2
      ·cases hh:Kq c.To with | true=>rfl | false=>exact absurd (Or.inr ⟨k,hh⟩) h2
      ·cases hh:Oc c.Path c.To with | false=>rfl | true=>exact absurd (Or.inr (Or.inl ⟨k,hh⟩)) h3
      ·exact Decidable.by_contra fun e=>h3 (Or.inl ⟨k,e⟩)
      ·exact Decidable.by_contra fun e=>h3 (Or.inr (Or.inr (Or.inl ⟨e,k⟩)))
      ·exact h3 (Or.inr (Or.inr (Or.inr (Or.inl ⟨k,e⟩))))
      ·exact Decidable.by_contra fun e=>h3 (Or.inr (Or.inr (Or.inr (Or.inr ⟨k,e⟩))))
 ·rintro ⟨a1,a2,a3,a4,a5,a6,a7,a8,a9⟩;rw [Ac (by omega),Ac,Ac,Ac (by omega),a9]
  ·rintro (⟨h,e⟩ | ⟨h,e⟩ | ⟨e,h⟩ | ⟨h,e⟩ | ⟨h,e⟩)
   ·exact e (a4 h)
   ·rw [(a3 h).2] at e;cases e
   ·exact e (a5 h)
   ·exact a6 h e
   ·exact e (a7 h)
  ·rintro (h | ⟨h,e⟩)
   ·rw [a2] at h;cases h
   ·rw [(a3 h).1] at e;cases e
def Q3 (c:TreeChange):Ab:=if c.Kind=3 then [c.Path,c.To] else [c.Path]
def Wr (p:ByteArray) (c:TreeChange):Bool:=(Q3 c).any fun q=>Oc q p
theorem paths_f (c:TreeChange):O5 c=some (Q3 c):=by
 unfold O5 Q3;rw [Al];split <;> rfl
theorem OkCh.size {c:TreeChange} (h:OkCh c):∀ p∈Q3 c,p.size≤60:=by
 intro p hp;unfold Q3 at hp;split at hp
 ·rename_i k
  simp only [Bf,List.not_mem_nil,or_false] at hp;rcases hp with rfl | rfl
  ·exact Mu h.path
  ·exact Mu (h.to k).1
 ·simp only [A2] at hp;subst hp;exact Mu h.path
theorem any_drop {α:Type} (p:α→Bool) {l:List α} {k:Nat} (h:k < l.length):(l.drop k).any p=(p l[k] || (l.drop (k+1)).any p):=by
 rw [Cq h,Lc]
theorem paths_len (c:TreeChange):(Q3 c).length≤2:=by unfold Q3;split <;> simp
theorem touches_f {p:ByteArray} {c:TreeChange} (hp:p.size≤1000000) (hc:∀ q∈Q3 c,q.size≤60):Ca p [c]=some (Wr p c):=by
 have hlen:=paths_len c
 have key:∀ (n k:Nat),k+n=(Q3 c).length→(C7 (fun s=>Ca.l2 p (Q3 c) s) (k:Int)=some (.inr ())∧((Q3 c).drop k).any (fun q=>Oc q p)=false) ∨
   ∃ j:Nat,C7 (fun s=>Ca.l2 p (Q3 c) s) (k:Int)=some (.inl (j:Int))∧((Q3 c).drop k).any (fun q=>Oc q p)=true:=by
  intro n
  induction n with
  | zero =>
   intro k hk;left;refine ⟨Bm ?_,by rw [D8 (by omega)];rfl⟩
   unfold Ca.l2;rw [Al,Ac (by omega)]
  | succ n ih =>
   intro k hk;have hlt:k < (Q3 c).length:=by omega
   have hq:=hc _ (Ar hlt);rw [any_drop _ hlt]
   have e:Ca.l2 p (Q3 c) (k:Int)=if Oc (Q3 c)[k] p=true then some (Step.done (Sum.inl (k:Int))) else some (Step.next ((k+1:Nat):Int)):=by
    unfold Ca.l2;rw [Al,Ad (by omega),Bg hlt,Aa,Related_f (by omega) hp,Aa]
    split
    ·rfl
    ·rw [Br (by omega) (by omega)];rfl
   cases hb:Oc (Q3 c)[k] p with
   | true =>
    rw [hb,Ad rfl] at e;exact Or.inr ⟨k,Bm e,by rw [Bool.true_or]⟩
   | false =>
    rw [hb,Ac (by decide)] at e
    rw [Bz e,Ki];exact ih (k+1) (by omega)
 unfold Ca
 have e1:Ca.l1 p [c] 0=if Wr p c=true then some (Step.done (Sum.inl true)) else some (Step.next 1):=by
  unfold Ca.l1;rw [Ad (by simp),show at? [c] 0=some c from rfl,Aa,paths_f,Aa]
  rcases key (Q3 c).length 0 (by omega) with ⟨h1,h2⟩ | ⟨j,h1,h2⟩
  ·rw [show (0:Int)=((0:Nat):Int) from rfl,h1,Aa];rw [List.drop_zero] at h2;unfold Wr;rw [h2,Ac (by decide)]
   rfl
  ·rw [show (0:Int)=((0:Nat):Int) from rfl,h1,Aa];rw [List.drop_zero] at h2;unfold Wr;rw [h2,Ad rfl];simp only [Ca.j2];rw [Al,Ad (by omega)]
 cases h:Wr p c with
 | true =>
  rw [h,Ad rfl] at e1;rw [Bm e1];rfl
 | false =>
  rw [h,Ac (by decide)] at e1
  have e2:Ca.l1 p [c] 1=some (Step.done (Sum.inr ())):=by
   unfold Ca.l1;rw [Ac (by simp)]
  rw [Bz e1,Bm e2];rfl
theorem touB_def (p:ByteArray) (c:TreeChange):Wr p c=(Oc c.Path p || (decide (c.Kind=3) && Oc c.To p)):=by
 unfold Wr Q3;by_cases k:c.Kind=3 <;> simp [k]
theorem Touches_f (c:TreeChange) (p:ByteArray):Mi c p=some (Wr p c):=by
 unfold Mi;simp only [Z2,orB,andB,Aa];rw [touB_def]
def edF (path:ByteArray) (p:Patch):TreeChange:=⟨4,path,ByteArray.empty,[],p⟩
theorem OkCh.sm {c:TreeChange} (h:OkCh c):Sm 120 c.Patch.Hunks:=sm_of h.patch
theorem OkCh.len {c:TreeChange} (h:OkCh c):c.Lines.length≤120:=Kc h.lines
theorem change_refl {c:TreeChange} {B:Int} (h1:c.Lines.length≤1000000) (h2:Sm B c.Patch.Hunks):Li c c=some true:=by
 unfold Li;rw [strings_eq _ _ h1,patch_refl _ h2];simp
theorem refl_ok {c:TreeChange} (h:OkCh c):Li c c=some true:=change_refl (by have:=h.len;omega) h.sm
theorem okCh_ed {path:ByteArray} {p:Patch} (h1:Kq path=true) (h2:p.Hunks≠[]) (h3:(H8 p).Code=0):OkCh (edF path p) :=
 ⟨⟨(by show (1:Int)≤4;decide),(by show (4:Int)≤4;decide)⟩,h1,(fun h=>by cases h),fun _=>rfl,fun _=>rfl,fun _=>h2,fun h=>absurd rfl h,(by show (B5 []).Code=0;rfl),h3⟩
def Lines (t:Ab):Prop:=∀ s∈t,Xp s
theorem lines_of {t:Ab} (h:(B5 t).Code=0):Lines t:=((Hr t).2 ((Er t).2 h)).2
theorem textFault_of {t:Ab} (h1:Lines t) (h2:t.length≤120):(B5 t).Code=0:=(Er t).1 ((Hr t).1 ⟨h2,h1⟩)
theorem rawS_lines:∀ (hs:A7) (t:Ab) (b:Nat),Lines t→(∀ h∈hs,Lines h.New)→Lines (Qq hs t b)
 | [],t,b,ht,_=>fun s hs=>ht s (Eo hs)
 | h::r,t,b,ht,hn=>by
  intro s hs;rw [Qq] at hs;rcases Az.1 hs with hs | hs
  ·exact ht s (Eo (C4 hs))
  ·rcases Az.1 hs with hs | hs
   ·exact hn h (by simp) s hs
   ·exact rawS_lines r t _ ht (fun x hx=>hn x (Bk _ hx)) s hs
theorem applyF_of {p:Patch} (hp:(H8 p).Code=0) {t:Ab} (h1:Lines t) (h2:t.length≤120) (hf:Fits t p.Hunks):Qn p t=if (Qq p.Hunks t 0).length > 120 then ([],⟨10,-1⟩) else (Qq p.Hunks t 0,⟨0,0⟩):=by
 unfold Qn;rw [Ac (by omega),Ac (by rw [textFault_of h1 h2];simp),(Zs t p.Hunks 0).2 hf]
theorem both_f (a b:Ab):Wf a b=some (if (B5 a).Code≠0 then B5 a else if (B5 b).Code=0 then ⟨0,0⟩ else ⟨(B5 b).Code,-2⟩):=by
 unfold Wf;rw [Xz,Aa];rcases Qy a with h | h
 ·rw [h,second_f];rfl
 ·rw [Ad (Om.2 fun h2=>h h2.1),Ad h]
abbrev Cst:=A7×Int×Bool
def W2 (hs:A7) (f:Hunk→Hunk):A7:=match hs.getLast? with
 | some h=>hs.dropLast++[f h]
 | Option.none=>hs
def Of (s:Cst):Cst:=(s.1,s.2.1+1,false)
def Me (s:Cst):A7:=if s.2.2 then s.1 else s.1++[⟨s.2.1,[],[]⟩]
def Q5 (x:ByteArray) (s:Cst):Cst:=(W2 (Me s) fun h=>{ h with Old:=h.Old++[x] },s.2.1+1,true)
def Tk (y:ByteArray) (s:Cst):Cst:=(W2 (Me s) fun h=>{ h with New:=h.New++[y] },s.2.1,true)
def scr:Ab→Ab→Cst→Cst
 | [],[],s=>s
 | [],y::b,s=>scr [] b (Tk y s)
 | x::a,[],s=>scr a [] (Q5 x s)
 | x::a,y::b,s=>if x=y then scr a b (Of s) else if lcs a (y::b) ≥ lcs (x::a) b then scr a (y::b) (Q5 x s) else scr (x::a) b (Tk y s)
 termination_by a b=>a.length+b.length
theorem Aaf {hs:A7} {h:Hunk} (hl:hs.getLast? = some h) (f:Hunk→Hunk):∃ hlt:hs.length - 1 < hs.length,hs[hs.length - 1]=h∧hs.set (hs.length - 1) (f h)=W2 hs f:=by
 have hne:hs≠[]:=by intro e;subst e;cases hl
 have hlt:hs.length - 1 < hs.length:=by have:=K7.2 hne;omega
 have hgl:hs[hs.length - 1]=h:=by
  rw [List.getLast?_eq_some_getLast hne] at hl;simp only [Option.some.injEq] at hl;rw [← hl,List.getLast_eq_getElem]
 refine ⟨hlt,hgl,?_⟩;unfold W2;rw [hl];simp only;rw [List.set_eq_take_append_cons_drop,Ad hlt,List.dropLast_eq_take];have:hs.drop (hs.length - 1+1)=[]:=Lu (by omega)
 rw [this]
theorem cOpen_last (s:Cst) (h:s.2.2=true→s.1≠[]):∃ q,(Me s).getLast? = some q:=by
 unfold Me;cases hb:s.2.2 with
 | true=>rw [Ad rfl];exact ⟨_,List.getLast?_eq_some_getLast (h hb)⟩
 | false=>rw [Ac (by decide)];exact ⟨⟨s.2.1,[],[]⟩,by simp⟩
theorem setLast_len (hs:A7) (f:Hunk→Hunk):(W2 hs f).length=hs.length:=by
 unfold W2;cases h:hs.getLast? with
 | none=>rfl
 | some q =>
  have hne:hs≠[]:=by intro e;subst e;cases h
  have:=K7.2 hne
  simp;omega
theorem setLast_ne {hs:A7} {f:Hunk→Hunk} (h:hs≠[]):W2 hs f≠[]:=by
 intro e;have:=setLast_len hs f;rw [e] at this;exact h (Db this.symm)
theorem cOpen_ne (s:Cst) (h:s.2.2=true→s.1≠[]):Me s≠[]:=by
 obtain ⟨q,hq⟩:=cOpen_last s h;intro e;rw [e] at hq;cases hq
structure CInv (s:Cst) (k:Nat):Prop where
 open_:s.2.2=true→s.1≠[]
 len:s.1.length≤k
 at0:0≤s.2.1
 at1:s.2.1≤k
 each:∀ h∈s.1,h.Old.length≤k∧h.New.length≤k
theorem mem_setLast {hs:A7} {f:Hunk→Hunk} {h:Hunk} (hm:h∈W2 hs f):h∈hs∨∃ q∈hs,h=f q:=by
 unfold W2 at hm;cases hl:hs.getLast? with
 | none=>rw [hl] at hm;exact .inl hm
 | some q =>
  rw [hl] at hm;simp only [Az,A2] at hm;rcases hm with hm | hm
  ·exact .inl ((List.dropLast_sublist hs).subset hm)
  ·exact .inr ⟨q,List.mem_of_getLast? hl,hm⟩
theorem Xu {s:Cst} {h:Hunk} (hm:h∈Me s):h∈s.1∨(h.Old=[]∧h.New=[]):=by
 unfold Me at hm;split at hm
 ·exact .inl hm
 ·rcases Az.1 hm with hm | hm
  ·exact .inl hm
  ·simp at hm;subst hm;exact .inr ⟨rfl,rfl⟩
theorem cOpen_len (s:Cst):(Me s).length≤s.1.length+1:=by unfold Me;split <;> simp
theorem CInv.keep {s:Cst} {k:Nat} (h:CInv s k):CInv (Of s) (k+1):=⟨fun e=>by simp [Of] at e,by have:=h.len;simp only [Of];omega,by have:=h.at0;simp only [Of];omega,by have:=h.at1;simp only [Of];omega,fun q hq=>by have:=h.each q hq;omega⟩
theorem CInv.del {s:Cst} {k:Nat} (h:CInv s k) (x:ByteArray):CInv (Q5 x s) (k+1):=by
 refine ⟨fun _=>setLast_ne (cOpen_ne s h.open_),?_,by have:=h.at0;simp only [Q5];omega,by have:=h.at1;simp only [Q5];omega,fun q hq=>?_⟩
 ·have:=h.len;have:=cOpen_len s;simp only [Q5,setLast_len];omega
 ·simp only [Q5] at hq;rcases mem_setLast hq with hq | ⟨p,hp,rfl⟩
  ·rcases Xu hq with hq | ⟨h1,h2⟩
   ·have:=h.each q hq;omega
   ·simp [h1,h2]
  ·rcases Xu hp with hq | ⟨h1,h2⟩
   ·have:=h.each p hq;simp;omega
   ·simp [h1,h2]
theorem CInv.ins {s:Cst} {k:Nat} (h:CInv s k) (x:ByteArray):CInv (Tk x s) (k+1):=by
 refine ⟨fun _=>setLast_ne (cOpen_ne s h.open_),?_,h.at0,by have:=h.at1;simp only [Tk];omega,fun q hq=>?_⟩
 ·have:=h.len;have:=cOpen_len s;simp only [Tk,setLast_len];omega
 ·simp only [Tk] at hq;rcases mem_setLast hq with hq | ⟨p,hp,rfl⟩
  ·rcases Xu hq with hq | ⟨h1,h2⟩
   ·have:=h.each q hq;omega
   ·simp [h1,h2]
  ·rcases Xu hp with hq | ⟨h1,h2⟩
   ·have:=h.each p hq;simp;omega
   ·simp [h1,h2]
theorem coll_keep {s:Cst} {k:Nat} (h:CInv s k) (hk:k≤1000000):Ni ⟨s.1,s.2.1,s.2.2⟩ 1=some ⟨(Of s).1,(Of s).2.1,(Of s).2.2⟩:=by
 have hat0:=h.at0;have hat1:=h.at1;unfold Ni;rw [Ad (by decide),Br (x:=s.2.1+1) (by omega) (by omega),Aa];rfl
theorem coll_del {s:Cst} {k:Nat} (h:CInv s k) (hk:k≤1000000) (x:ByteArray):G2 ⟨s.1,s.2.1,s.2.2⟩ x=some ⟨(Q5 x s).1,(Q5 x s).2.1,(Q5 x s).2.2⟩:=by
 obtain ⟨q,hq⟩:=cOpen_last s h.open_;have hlen:=h.len;have hat0:=h.at0;have hat1:=h.at1
 have j4e:G2.j1 ⟨s.1,s.2.1,s.2.2⟩ x (Me s) true=some ⟨(Q5 x s).1,(Q5 x s).2.1,(Q5 x s).2.2⟩:=by
  obtain ⟨h1,h2,h3⟩:=Aaf hq fun h=>{ h with Old:=h.Old++[x] };have hol:=cOpen_len s
  have hqm:q.Old.length≤k:=by
   rcases Xu (List.mem_of_getLast? hq) with hq | ⟨h1,_⟩
   ·exact (h.each q hq).1
   ·simp [h1]
  unfold G2.j1;have ez:((Me s).length:Int) - 1=(((Me s).length - 1:Nat):Int):=by omega
  rw [Br (by omega) (by omega),Aa,ez,Bg h1,Aa,h2,Dp (by simp only [Ak];omega),Aa,Br (by show -9223372036854775808≤s.2.1+1;omega) (by show s.2.1+1≤9223372036854775807;omega),Aa,Aa]
  rw [Ay];have:(Me s).set ((Me s).length - 1) ({ At:=q.At,Old:=q.Old++[x],New:=q.New }:Hunk)=(Q5 x s).1:=h3;rw [this];rfl
 unfold G2;simp only;cases hb:s.2.2 with
 | true =>
  have:Me s=s.1:=by unfold Me;rw [hb,Ad rfl]
  rw [hb,this] at j4e;rw [Ac (by decide)];exact j4e
 | false =>
  have:Me s=s.1++[⟨s.2.1,[],[]⟩]:=by unfold Me;rw [hb,Ac (by decide)]
  rw [hb] at j4e;rw [Ad (by decide),Dp (by simp only [Ak];omega),Aa,← this];exact j4e
theorem coll_ins {s:Cst} {k:Nat} (h:CInv s k) (hk:k≤1000000) (x:ByteArray):G4 ⟨s.1,s.2.1,s.2.2⟩ x=some ⟨(Tk x s).1,(Tk x s).2.1,(Tk x s).2.2⟩:=by
 obtain ⟨q,hq⟩:=cOpen_last s h.open_;have hlen:=h.len;have hat0:=h.at0;have hat1:=h.at1
 have j4e:G4.j1 ⟨s.1,s.2.1,s.2.2⟩ x (Me s) true=some ⟨(Tk x s).1,(Tk x s).2.1,(Tk x s).2.2⟩:=by
  obtain ⟨h1,h2,h3⟩:=Aaf hq fun h=>{ h with New:=h.New++[x] };have hol:=cOpen_len s
  have hqm:q.New.length≤k:=by
   rcases Xu (List.mem_of_getLast? hq) with hq | ⟨_,h1⟩
   ·exact (h.each q hq).2
   ·simp [h1]
  unfold G4.j1;have ez:((Me s).length:Int) - 1=(((Me s).length - 1:Nat):Int):=by omega
  rw [Br (by omega) (by omega),Aa,ez,Bg h1,Aa,h2,Dp (by simp only [Ak];omega),Aa,Aa]
  rw [Ay];have:(Me s).set ((Me s).length - 1) ({ At:=q.At,Old:=q.Old,New:=q.New++[x] }:Hunk)=(Tk x s).1:=h3;rw [this];rfl
 unfold G4;simp only;cases hb:s.2.2 with
 | true =>
  have:Me s=s.1:=by unfold Me;rw [hb,Ad rfl]
  rw [hb,this] at j4e;rw [Ac (by decide)];exact j4e
 | false =>
  have:Me s=s.1++[⟨s.2.1,[],[]⟩]:=by unfold Me;rw [hb,Ac (by decide)]
  rw [hb] at j4e;rw [Ad (by decide),Dp (by simp only [Ak];omega),Aa,← this];exact j4e
section
variable {a b : Ab}
theorem scr_loop (hab:a.length+b.length≤1000):∀ (n i j k:Nat) (s:Cst),i≤a.length→j≤b.length→(a.length - i)+(b.length - j)=n→k≤i+j→(Oh a b).drop k=Oh (a.drop i) (b.drop j)→CInv s (i+j) →
  C7 (fun s=>Gq.l1 a b (Oh a b) s.1 s.2.1 s.2.2.1 s.2.2.2.1 s.2.2.2.2.1 s.2.2.2.2.2) ((k:Int),(j:Int),(i:Int),s.1,s.2.1,s.2.2)=some (scr (a.drop i) (b.drop j) s):=by
 intro n
 induction n using Nat.strongRecOn with
 | _ n ih =>
 intro i j k s hi hj hn hk hal hs
 have j2e:∀ (p q:Int) (t:Cst),Gq.j2 (k:Int) q p t.1 t.2.1 t.2.2=some (.next (((k+1:Nat):Int),q,p,t.1,t.2.1,t.2.2)):=by
  intro p q t;unfold Gq.j2;rw [Br (by omega) (by omega),Aa];rfl
 have ed:∀ (x:ByteArray) (r:List Int),(Oh a b).drop k=1::r→(hx:∃ h:i < a.length,a[i]=x) →
   Gq.l1 a b (Oh a b) (k:Int) (j:Int) (i:Int) s.1 s.2.1 s.2.2=some (.next (((k+1:Nat):Int),(j:Int),((i+1:Nat):Int),(Q5 x s).1,(Q5 x s).2.1,(Q5 x s).2.2))∧(Oh a b).drop (k+1)=r:=by
  intro x r hr ⟨hx,hxe⟩;obtain ⟨hlt,hk1,hr1⟩:=K9 hr;refine ⟨?_,hr1⟩;unfold Gq.l1;rw [Al,Ad (by omega),Bg hlt,Aa,hk1,Al,Ac (by decide),Al,Ad rfl,Bg hx,Aa,hxe,coll_del hs (by omega) x,Aa,Br (by omega) (by omega),Aa,j2e]
  rfl
 have ei:∀ (x:ByteArray) (r:List Int),(Oh a b).drop k=2::r→(hx:∃ h:j < b.length,b[j]=x) →
   Gq.l1 a b (Oh a b) (k:Int) (j:Int) (i:Int) s.1 s.2.1 s.2.2=some (.next (((k+1:Nat):Int),((j+1:Nat):Int),(i:Int),(Tk x s).1,(Tk x s).2.1,(Tk x s).2.2))∧(Oh a b).drop (k+1)=r:=by
  intro x r hr ⟨hx,hxe⟩;obtain ⟨hlt,hk1,hr1⟩:=K9 hr;refine ⟨?_,hr1⟩;unfold Gq.l1;rw [Al,Ad (by omega),Bg hlt,Aa,hk1,Al,Ac (by decide),Al,Ac (by decide),Bg hx,Aa,hxe,coll_ins hs (by omega) x,Aa,Br (by omega) (by omega),Aa,j2e]
  rfl
 have ek:∀ (r:List Int),(Oh a b).drop k=0::r →
   Gq.l1 a b (Oh a b) (k:Int) (j:Int) (i:Int) s.1 s.2.1 s.2.2=some (.next (((k+1:Nat):Int),((j+1:Nat):Int),((i+1:Nat):Int),(Of s).1,(Of s).2.1,(Of s).2.2))∧(Oh a b).drop (k+1)=r:=by
  intro r hr;obtain ⟨hlt,hk1,hr1⟩:=K9 hr;refine ⟨?_,hr1⟩;have h0:=hs.at0;have h1:=hs.at1;unfold Gq.l1;rw [Al,Ad (by omega),Bg hlt,Aa,hk1,Al,Ad rfl,coll_keep hs (by omega),Aa,Br (by omega) (by omega),Aa,Br (by omega) (by omega),Aa]
  exact j2e _ _ (Of s)
 by_cases hia:i < a.length
 ·have hda:=Mw hia;by_cases hjb:j < b.length
  ·have hdb:=Mw hjb;have hal':=hal;rw [hda,hdb,Oh,← hda,← hdb] at hal'
   have hsc:scr (a.drop i) (b.drop j) s=if a[i]=b[j] then scr (a.drop (i+1)) (b.drop (j+1)) (Of s) else if lcs (a.drop (i+1)) (b.drop j) ≥ lcs (a.drop i) (b.drop (j+1)) then scr (a.drop (i+1)) (b.drop j) (Q5 a[i] s) else scr (a.drop i) (b.drop (j+1)) (Tk b[j] s):=by
    conv=>lhs;rw [hda,hdb,scr]
    rw [← hda,← hdb]
   rw [hsc];by_cases heq:a[i]=b[j]
   ·rw [Ad heq] at hal' ⊢;obtain ⟨e1,e2⟩:=ek _ hal';rw [Bz e1];exact ih _ (by omega) (i+1) (j+1) (k+1) (Of s) (by omega) (by omega) rfl (by omega) e2 ⟨hs.keep.open_,by have:=hs.keep.len;omega,hs.keep.at0,by have:=hs.keep.at1;omega,fun q hq=>by have:=hs.keep.each q hq;omega⟩
   ·rw [Ac heq] at hal' ⊢;by_cases hge:lcs (a.drop (i+1)) (b.drop j) ≥ lcs (a.drop i) (b.drop (j+1))
    ·rw [Ad hge] at hal' ⊢;obtain ⟨e1,e2⟩:=ed _ _ hal' ⟨hia,rfl⟩;rw [Bz e1];exact ih _ (by omega) (i+1) j (k+1) (Q5 a[i] s) (by omega) (by omega) rfl (by omega) e2 (by have:=hs.del a[i];rwa [show i+j+1=i+1+j by omega] at this)
    ·rw [Ac hge] at hal' ⊢;obtain ⟨e1,e2⟩:=ei _ _ hal' ⟨hjb,rfl⟩;rw [Bz e1];exact ih _ (by omega) i (j+1) (k+1) (Tk b[j] s) (by omega) (by omega) rfl (by omega) e2 (hs.ins b[j])
  ·have hj':j=b.length:=by omega
   subst hj';have hal':=hal;rw [hda,List.drop_length,Oh] at hal';obtain ⟨e1,e2⟩:=ed _ _ hal' ⟨hia,rfl⟩
   have hsc:scr (a.drop i) (b.drop b.length) s=scr (a.drop (i+1)) (b.drop b.length) (Q5 a[i] s):=by
    rw [hda,List.drop_length,scr]
   rw [Bz e1,hsc];exact ih _ (by omega) (i+1) b.length (k+1) (Q5 a[i] s) (by omega) (by omega) rfl (by omega) (by rw [e2,List.drop_length]) (by have:=hs.del a[i];rwa [show i+b.length+1=i+1+b.length by omega] at this)
 ·have hi':i=a.length:=by omega
  subst hi';by_cases hjb:j < b.length
  ·have hdb:=Mw hjb;have hal':=hal;rw [hdb,List.drop_length,Oh] at hal';obtain ⟨e1,e2⟩:=ei _ _ hal' ⟨hjb,rfl⟩
   have hsc:scr (a.drop a.length) (b.drop j) s=scr (a.drop a.length) (b.drop (j+1)) (Tk b[j] s):=by
    rw [hdb,List.drop_length,scr]
   rw [Bz e1,hsc];exact ih _ (by omega) a.length (j+1) (k+1) (Tk b[j] s) (by omega) (by omega) rfl (by omega) (by rw [e2,List.drop_length]) (hs.ins b[j])
  ·have hj':j=b.length:=by omega
   subst hj';rw [List.drop_length,List.drop_length,Oh] at hal;have:=Kt hal;rw [List.drop_length,List.drop_length,scr];refine Bm ?_;unfold Gq.l1;rw [Al,Ac (by omega)]
end
def H3 (a b:Ab):A7:=(scr a b ([],0,false)).1
theorem script_f (a b:Ab):Gq a b=some (if (B5 a).Code≠0 then (⟨[]⟩,B5 a) else if (B5 b).Code≠0 then (⟨[]⟩,⟨(B5 b).Code,-2⟩) else (⟨H3 a b⟩,⟨0,0⟩)):=by
 unfold Gq;rw [both_f,Aa];by_cases ha:(B5 a).Code=0
 ·by_cases hb:(B5 b).Code=0
  ·simp only [ha,hb,ne_eq,not_true,Cg,E4];have oa:=(Hr a).2 ((Er a).2 ha);have ob:=(Hr b).2 ((Er b).2 hb);have h1:=oa.1;have h2:=ob.1;rw [Ac (by simp),align_eq (okText_small oa ob),Aa]
   have:=scr_loop (a:=a) (b:=b) (by omega) _ 0 0 0 ([],0,false) (Cs _) (Cs _) rfl (Cs _) (by simp) ⟨fun h=>(by cases h),by simp,by simp,by simp,fun q hq=>(by cases hq)⟩
   simp only [List.drop_zero] at this;rw [show (0:Int)=((0:Nat):Int) from rfl,show ((([]:A7),((0:Nat):Int),false):Cst)=([],0,false) from rfl,this,Aa];rfl
  ·simp only [ha,hb,ne_eq,not_true,not_false_iff,Cg,E4];rw [Ad (by simp)]
 ·simp only [ha,ne_eq,not_false_iff,E4];rw [Ad (by simp)]
def endS:A7→Nat→Nat
 | [],low=>low
 | h::r,_=>endS r (h.At.toNat+h.Old.length)
def preS:A7→Ab→Nat→Ab
 | [],_,_=>[]
 | h::r,t,low=>(t.drop low).take (h.At.toNat - low)++(h.New++preS r t (h.At.toNat+h.Old.length))
theorem rawS_pre:∀ (hs:A7) (t:Ab) (low:Nat),Qq hs t low=preS hs t low++t.drop (endS hs low)
 | [],t,low=>rfl
 | h::r,t,low=>by rw [Qq,preS,endS,rawS_pre r t _];simp
theorem N3:∀ (hs:A7) (h:Hunk) (low:Nat),endS (hs++[h]) low=h.At.toNat+h.Old.length
 | [],h,low=>rfl
 | x::r,h,low=>by rw [List.cons_append,endS,N3 r h _]
theorem X0:∀ (hs:A7) (h:Hunk) (t:Ab) (low:Nat),preS (hs++[h]) t low=preS hs t low++((t.drop (endS hs low)).take (h.At.toNat - endS hs low)++h.New)
 | [],h,t,low=>by simp [preS,endS]
 | x::r,h,t,low=>by rw [List.cons_append,preS,preS,endS,X0 r h t _];simp
def Chn:Int→A7→Prop
 | _,[]=>True
 | e,h::r=>e < h.At∧Chn (h.At+h.Old.length) r
theorem Zw:∀ (l:A7) (h:Hunk) (e:Int),Chn e (l++[h])↔Chn e l∧(l=[]→e < h.At)∧(∀ p q,l=p++[q]→q.At+q.Old.length < h.At)
 | [],h,e=>by simp [Chn]
 | x::r,h,e=>by
  rw [List.cons_append,Chn,Chn,Zw r h _];constructor
  ·rintro ⟨h1,h2,h3,h4⟩;refine ⟨⟨h1,h2⟩,by simp,fun p q e=>?_⟩
   cases p with
   | nil=>simp at e;obtain ⟨rfl,rfl⟩:=e;exact h3 rfl
   | cons y p=>simp at e;exact h4 p q e.2
  ·rintro ⟨⟨h1,h2⟩,h3,h4⟩;refine ⟨h1,h2,fun e=>?_,fun p q e=>h4 (x::p) q (by rw [e];rfl)⟩
   subst e;exact h4 [] x rfl
def HkOk (a b:Ab) (h:Hunk):Prop:=∃ p q:Nat,h.At=p∧p+h.Old.length≤a.length∧h.Old=(a.drop p).take h.Old.length∧q+h.New.length≤b.length∧h.New=(b.drop q).take h.New.length∧0 < h.Old.length+h.New.length
structure ScI (a b:Ab) (s:Cst) (i j:Nat):Prop where
 pos:s.2.1=i
 low:endS s.1 0≤i
 txt:preS s.1 a 0++(a.drop (endS s.1 0)).take (i - endS s.1 0)=b.take j
 opn:s.2.2=true→∃ hs h q,s.1=hs++[h]∧h.At.toNat+h.Old.length=i∧q+h.New.length=j∧h.New=(b.drop q).take h.New.length
 cls:s.2.2=false→s.1=[]∨endS s.1 0 < i
 chn:Chn (-1) s.1
 each:∀ h∈s.1,HkOk a b h
theorem Ze {α:Type} {l:List α} {k:Nat} (h:k < l.length):l.take (k+1)=l.take k++[l[k]]:=by
 rw [List.take_add_one,A3 h];rfl
theorem Y9 (hs:A7) (h:Hunk) (f:Hunk→Hunk):W2 (hs++[h]) f=hs++[f h]:=by
 unfold W2;simp
theorem ScI.keep {a b:Ab} {s:Cst} {i j:Nat} (h:ScI a b s i j) (hi:i < a.length) (hj:j < b.length) (e:a[i]=b[j]):ScI a b (Of s) (i+1) (j+1):=by
 have hl:=h.low;refine ⟨by simp only [Of,h.pos];omega,by simp only [Of];omega,?_,fun h=>by simp [Of] at h,fun _=>.inr (by simp only [Of];omega),h.chn,h.each⟩
 simp only [Of];rw [Ze hj,← h.txt,show i+1 - endS s.1 0=(i - endS s.1 0)+1 by omega,Ze (by simp;omega),← e,Am]
 congr 3;rw [D3];congr 1;omega
theorem HkOk.old {a b:Ab} {h:Hunk} (hh:HkOk a b h) (hi:h.At.toNat+h.Old.length < a.length):HkOk a b { h with Old:=h.Old++[a[h.At.toNat+h.Old.length]] }:=by
 obtain ⟨p,q,h1,h2,h3,h4,h5,h6⟩:=hh;have hp:h.At.toNat=p:=by omega
 refine ⟨p,q,h1,by simp;omega,?_,h4,h5,by simp;omega⟩
 simp only [Aj,Ak];rw [Ze (by simp;omega),← h3]
 congr 2;rw [D3];simp only [hp]
theorem HkOk.new {a b:Ab} {h:Hunk} (hh:HkOk a b h) {q:Nat} (hq:h.New=(b.drop q).take h.New.length) (hi:q+h.New.length < b.length):HkOk a b { h with New:=h.New++[b[q+h.New.length]] }∧h.New++[b[q+h.New.length]]=(b.drop q).take (h.New.length+1):=by
 obtain ⟨p,_,h1,h2,h3,h4,h5,h6⟩:=hh
 have e:h.New++[b[q+h.New.length]]=(b.drop q).take (h.New.length+1):=by
  rw [Ze (by simp;omega),← hq]
  congr 2;rw [D3]
 refine ⟨⟨p,q,h1,h2,h3,by simp;omega,?_,by simp;omega⟩,e⟩
 simp only [Aj,Ak];exact e
theorem ScI.del {a b:Ab} {s:Cst} {i j:Nat} (h:ScI a b s i j) (hi:i < a.length) (hj:j≤b.length):ScI a b (Q5 a[i] s) (i+1) j:=by
 have hl:=h.low;have ht:=h.txt;have hc:=h.chn;have he:=h.each;have hp:=h.pos;obtain ⟨hs0,at0,op⟩:=s;simp only at hl ht hc he hp;cases op with
 | true =>
  obtain ⟨hs,k,q,e1,e2,e3,e4⟩:=h.opn rfl;simp only at e1;subst e1
  have hcd:Q5 a[i] (hs++[k],at0,true)=(hs++[{ k with Old:=k.Old++[a[i]] }],at0+1,true):=by
   unfold Q5 Me;simp only [E4,Y9]
  rw [hcd];rw [N3,e2,Mb,G6,Bh,X0] at ht;have hk:=HkOk.old (he k (by simp)) (by omega)
  have hx:a[k.At.toNat+k.Old.length]'(by omega)=a[i]:=by congr 1
  rw [hx] at hk;rw [Zw] at hc;refine ⟨by simp only;omega,by simp only [N3,Aj,Ak];omega,?_,fun _=>⟨hs,_,q,rfl,by simp only [Aj,Ak];omega,e3,e4⟩,fun h=>by simp at h,(Zw _ _ _).2 hc,?_⟩
  ·simp only [N3,Aj,Ak,X0];rw [show i+1 - (k.At.toNat+(k.Old.length+1))=0 by omega,G6,Bh]
   exact ht
  ·intro m hm;rcases Az.1 hm with hm | hm
   ·exact he m (D4 _ hm)
   ·rw [A2] at hm;subst hm;exact hk
 | false =>
  have hcl:=h.cls rfl;simp only at hcl
  have hcd:Q5 a[i] (hs0,at0,false)=(hs0++[⟨at0,[a[i]],[]⟩],at0+1,true):=by
   unfold Q5 Me;simp only [A6,Cg,Y9,A8]
  rw [hcd];have hat:at0.toNat=i:=by omega
  refine ⟨by simp only;omega,by simp only [N3,Ak];omega,?_,fun _=>⟨hs0,_,j,rfl,by simp only [Ak];omega,by simp,by simp⟩,fun h=>by simp at h,(Zw _ _ _).2 ⟨hc,fun _=>by simp only;omega,fun p q e=>?_⟩,?_⟩
  ·simp only [N3,Ak,X0,hat,Mb,G6,Bh];exact ht
  ·subst e;rcases hcl with hcl | hcl
   ·simp at hcl
   ·rw [N3] at hcl;obtain ⟨p',_,h1,_⟩:=he q (by simp)
    simp only;omega
  ·intro m hm;rcases Az.1 hm with hm | hm
   ·exact he m hm
   ·rw [A2] at hm;subst hm;refine ⟨i,j,hp,by simp;omega,?_,by simp;omega,by simp,by simp⟩
    simp only [Ak];rw [Cq hi];rfl
theorem ScI.ins {a b:Ab} {s:Cst} {i j:Nat} (h:ScI a b s i j) (hi:i≤a.length) (hj:j < b.length):ScI a b (Tk b[j] s) i (j+1):=by
 have hl:=h.low;have ht:=h.txt;have hc:=h.chn;have he:=h.each;have hp:=h.pos;obtain ⟨hs0,at0,op⟩:=s;simp only at hl ht hc he hp;cases op with
 | true =>
  obtain ⟨hs,k,q,e1,e2,e3,e4⟩:=h.opn rfl;simp only at e1;subst e1
  have hcd:Tk b[j] (hs++[k],at0,true)=(hs++[{ k with New:=k.New++[b[j]] }],at0,true):=by
   unfold Tk Me;simp only [E4,Y9]
  rw [hcd];rw [N3,e2,Mb,G6,Bh,X0] at ht;obtain ⟨hk,hk2⟩:=HkOk.new (he k (by simp)) e4 (by omega)
  have hx:b[q+k.New.length]'(by omega)=b[j]:=by congr 1
  rw [hx] at hk hk2;rw [Zw] at hc;refine ⟨hp,by simp only [N3];omega,?_,fun _=>⟨hs,_,q,rfl,e2,by simp only [Aj,Ak];omega,by simp only [Aj,Ak];exact hk2⟩,fun h=>by simp at h,(Zw _ _ _).2 hc,?_⟩
  ·simp only [N3,X0];rw [show i - (k.At.toNat+k.Old.length)=0 by omega,G6,Bh,Ze hj,← ht]
   simp only [Am]
  ·intro m hm;rcases Az.1 hm with hm | hm
   ·exact he m (D4 _ hm)
   ·rw [A2] at hm;subst hm;exact hk
 | false =>
  have hcl:=h.cls rfl;simp only at hcl
  have hcd:Tk b[j] (hs0,at0,false)=(hs0++[⟨at0,[],[b[j]]⟩],at0,true):=by
   unfold Tk Me;simp only [A6,Cg,Y9,A8]
  rw [hcd];have hat:at0.toNat=i:=by omega
  have hn:[b[j]]=(b.drop j).take 1:=by rw [Cq hj];rfl
  refine ⟨hp,by simp only [N3,Ey];omega,?_,fun _=>⟨hs0,_,j,rfl,by simp only [Ey];omega,by simp,by simp only [Ak];exact hn⟩,fun h=>by simp at h,(Zw _ _ _).2 ⟨hc,fun _=>by simp only;omega,fun p q e=>?_⟩,?_⟩
  ·simp only [N3,Ey,X0,hat,Eg,Mb,G6,Bh];rw [Ze hj,← ht,Am]
  ·subst e;rcases hcl with hcl | hcl
   ·simp at hcl
   ·rw [N3] at hcl;obtain ⟨p',_,h1,_⟩:=he q (by simp)
    simp only;omega
  ·intro m hm;rcases Az.1 hm with hm | hm
   ·exact he m hm
   ·rw [A2] at hm;subst hm;exact ⟨i,j,hp,by simp;omega,by simp,by simp;omega,by simp only [Ak];exact hn,by simp⟩
theorem scr_ok {a b:Ab}:∀ (n i j:Nat) (s:Cst),(a.length - i)+(b.length - j)=n→i≤a.length→j≤b.length→ScI a b s i j→ScI a b (scr (a.drop i) (b.drop j) s) a.length b.length:=by
 intro n
 induction n using Nat.strongRecOn with
 | _ n ih =>
 intro i j s hn hi hj h;by_cases hia:i < a.length
 ·have hda:=Cq hia;by_cases hjb:j < b.length
  ·have hdb:=Cq hjb
   have hsc:scr (a.drop i) (b.drop j) s=if a[i]=b[j] then scr (a.drop (i+1)) (b.drop (j+1)) (Of s) else if lcs (a.drop (i+1)) (b.drop j) ≥ lcs (a.drop i) (b.drop (j+1)) then scr (a.drop (i+1)) (b.drop j) (Q5 a[i] s) else scr (a.drop i) (b.drop (j+1)) (Tk b[j] s):=by
    conv=>lhs;rw [hda,hdb,scr]
    rw [← hda,← hdb]
   rw [hsc];split
   ·rename_i e
    exact ih _ (by omega) (i+1) (j+1) _ rfl (by omega) (by omega) (h.keep hia hjb e)
   ·split
    ·exact ih _ (by omega) (i+1) j _ rfl (by omega) (by omega) (h.del hia hj)
    ·exact ih _ (by omega) i (j+1) _ rfl (by omega) (by omega) (h.ins hi hjb)
  ·have hj':j=b.length:=by omega
   subst hj'
   have hsc:scr (a.drop i) (b.drop b.length) s=scr (a.drop (i+1)) (b.drop b.length) (Q5 a[i] s):=by
    rw [hda,List.drop_length,scr]
   rw [hsc];exact ih _ (by omega) (i+1) b.length _ rfl (by omega) (by omega) (h.del hia hj)
 ·have hi':i=a.length:=by omega
  subst hi';by_cases hjb:j < b.length
  ·have hdb:=Cq hjb
   have hsc:scr (a.drop a.length) (b.drop j) s=scr (a.drop a.length) (b.drop (j+1)) (Tk b[j] s):=by
    rw [hdb,List.drop_length,scr]
   rw [hsc];exact ih _ (by omega) a.length (j+1) _ rfl (by omega) (by omega) (h.ins hi hjb)
  ·have hj':j=b.length:=by omega
   subst hj';rw [List.drop_length,List.drop_length,scr];exact h
theorem ok_part {l:Ab} (h:Kb l) (p k:Nat):(B5 ((l.drop p).take k)).Code=0:=by
 refine (Er _).1 ((Hr _).1 ⟨?_,fun s hs=>h.2 s (Eo (C4 hs))⟩);have:=h.1
 simp;omega
theorem good_of {a b:Ab} (ha:Kb a) (hb:Kb b):∀ (l:A7) (e:Int),Chn e l→(∀ h∈l,HkOk a b h)→Good e l∧(-1≤e→e≤120→(l.length:Int)≤120 - e)
 | [],e,_,_=>⟨trivial,fun _ _=>by simp;omega⟩
 | h::r,e,hc,he=>by
  obtain ⟨p,q,h1,h2,h3,h4,h5,h6⟩:=he h Ce;obtain ⟨c1,c2⟩:=hc;have hl:=ha.1;obtain ⟨g1,g2⟩:=good_of ha hb r _ c2 fun x hx=>he x (Bk _ hx);refine ⟨⟨?_,g1⟩,fun _ _=>?_⟩
  ·unfold hcode;have t1:(B5 h.Old).Code=0:=by rw [h3];exact ok_part ha _ _
   have t2:(B5 h.New).Code=0:=by rw [h5];exact ok_part hb _ _
   rw [Ac (by omega),Ac (fun hn=>hn t1),Ac (fun hn=>hn t2),Ac (by omega),Ac (by omega)]
  ·have:=g2 (by omega) (by omega)
   rw [Eb];omega
theorem script_ok {a b:Ab} (ha:Kb a) (hb:Kb b):(H8 ⟨H3 a b⟩).Code=0∧Qn ⟨H3 a b⟩ a=(b,⟨0,0⟩)∧(H3 a b=[]→a=b):=by
 have h0:ScI a b ([],0,false) 0 0:=⟨rfl,B7 _,by simp [preS,endS],fun h=>by simp at h,fun _=>.inl rfl,trivial,fun h hh=>by cases hh⟩
 have h:=scr_ok _ 0 0 _ rfl (Cs _) (Cs _) h0;rw [List.drop_zero,List.drop_zero] at h
 have hraw:Qq (H3 a b) a 0=b:=by
  rw [rawS_pre];have ht:=h.txt;have hl:=h.low;rw [Bw,Cn (by simp)] at ht
  exact ht
 obtain ⟨g1,g2⟩:=good_of ha hb (H3 a b) (-1) h.chn h.each;have hlen:=g2 (by omega) (by omega)
 have hp:(H8 ⟨H3 a b⟩).Code=0:=(On _).2 ⟨by simp only;omega,g1⟩
 have hf:Fits a (H3 a b):=fun x hx=>by
  obtain ⟨p,q,h1,h2,h3,_⟩:=h.each x hx;rw [h1,Ay];exact ⟨by omega,h3.symm⟩
 refine ⟨hp,?_,fun e=>?_⟩
 ·rw [applyF_of hp ha.2 ha.1 hf];simp only;rw [hraw,Ac (by have:=hb.1;omega)]
 ·rw [e] at hraw;exact hraw
def Yn (l:Ai) (x:File):Ai:=l.take (H9 l x.Path)++[x]++l.drop (H9 l x.Path)
theorem Ww {l:Ai} (h:Mq l) {p:ByteArray} (hh:Lb l p=true):∃ hp:H9 l p < l.length,l[H9 l p].Path=p:=by
 rw [has_at h] at hh;split at hh
 ·rename_i hp;exact ⟨hp,Lr hh⟩
 ·cases hh
theorem pos_of {l:Ai} (h:Mq l) {j:Nat} (hj:j < l.length):H9 l l[j].Path=j∧Lb l l[j].Path=true:=by
 have hh:Lb l l[j].Path=true:=by
  unfold Lb;rw [Ke];exact ⟨_,Ar hj,Ag rfl⟩
 refine ⟨?_,hh⟩;obtain ⟨hp,he⟩:=Ww h hh;rcases Ou (H9 l l[j].Path) j with h1 | h1 | h1
 ·have:=B0.1 h _ _ hp hj h1;rw [he,Qz] at this;cases this
 ·exact h1
 ·have:=B0.1 h _ _ hj hp h1;rw [he,Qz] at this;cases this
theorem rel_has {l:Ai} {p:ByteArray} (h:G0 l p=false):Lb l p=false:=by
 unfold G0 at h;unfold Lb;rw [Kk] at h ⊢;intro f hf e;have:=h f hf;rw [Lr e,relB_self] at this;exact this rfl
theorem ins_len (l:Ai) (x:File):(Yn l x).length=l.length+1:=by
 have:=pos_le l x.Path;unfold Yn;simp;omega
theorem ins_srt {l:Ai} (h:Mq l) {x:File} (hn:Lb l x.Path=false):Mq (Yn l x):=by
 unfold Mq Yn
 have hlow:∀ f∈l.take (H9 l x.Path),sLt f.Path x.Path=true:=by
  intro f hf;rw [Hv] at hf;obtain ⟨i,hi,rfl⟩:=hf;rw [pos_lt h x.Path i (by omega)]
  exact Ag (by omega)
 have hhigh:∀ f∈l.drop (H9 l x.Path),sLt x.Path f.Path=true:=by
  intro f hf;obtain ⟨i,hi,rfl⟩:=Ci hf;rw [Cd] at hi;rw [D3];have h1:=pos_lt h x.Path (H9 l x.Path+i) (by omega)
  rw [Af (by omega)] at h1
  rcases sLt_tri x.Path l[H9 l x.Path+i].Path with h2 | h2 | h2
  ·exact h2
  ·unfold Lb at hn;rw [Kk] at hn;exact absurd (Ag h2.symm) (hn _ (Ar (by omega)))
  ·rw [h1] at h2;cases h2
 rw [Gy,Gy];refine ⟨⟨h.sublist (List.take_sublist _ _),Hs _ _,?_⟩,h.sublist (List.drop_sublist _ _),?_⟩
 ·intro a ha b hb;rw [A2] at hb;subst hb;exact hlow a ha
 ·intro a ha b hb;rcases Az.1 ha with ha | ha
  ·exact Xx (hlow a ha) (hhigh b hb)
  ·rw [A2] at ha;subst ha;exact hhigh b hb
theorem ins_mem {l:Ai} {x f:File}:f∈Yn l x↔f=x∨f∈l:=by
 unfold Yn;rw [Az,Az,A2]
 conv=>rhs;rw [← Hj (H9 l x.Path) l,Az]
 constructor
 ·rintro ((h | h) | h)
  ·exact .inr (.inl h)
  ·exact .inl h
  ·exact .inr (.inr h)
 ·rintro (h | h | h)
  ·exact .inl (.inr h)
  ·exact .inl (.inl h)
  ·exact .inr h
theorem Put_f {l:Ai} (h:Mq l) (hl:l.length≤1000) {p:ByteArray} (hn:Lb l p=false) {L:Ab} (hL:L.length≤1000000):Kx ⟨l⟩ p L=some ⟨Yn l ⟨p,L⟩⟩:=by
 have hp:=pos_le l p;unfold Kx;simp only;rw [Find_f h (by omega),Aa,hn,Ad (by rfl)]
 have e:ins? 40 l ((H9 l p:Nat):Int) [⟨p,[]⟩]=some (l.take (H9 l p)++[⟨p,[]⟩]++l.drop (H9 l p)):=by
  unfold ins?;simp only;rw [Ad (by omega),Dp (by simp;omega),Aa,Ay]
 rw [e,Aa];unfold Kx.j1;rw [clone_f _ hL,Aa];simp only;have hlen:(l.take (H9 l p)).length=H9 l p:=by simp;omega
 rw [Bg (by simp;omega),Aa,Aa,Ay]
 have e2:(l.take (H9 l p)++[(⟨p,[]⟩:File)]++l.drop (H9 l p))[H9 l p]'(by simp;omega)=⟨p,[]⟩:=by
  rw [Gb (by simp;omega),Hw (by omega)]
  simp [hlen]
 rw [e2];unfold Yn;congr 2;rw [Am,Am,List.set_append_right _ _ (by omega),hlen,Mb]
 rfl
theorem del_f (l:Ai) {j:Nat} (hj:j < l.length):del? l (j:Int) ((j+1:Nat):Int)=some (l.eraseIdx j):=by
 unfold del?;rw [Ad (by omega),Ay,Ay,List.eraseIdx_eq_take_drop_succ]
def Qr (c:TreeChange) (l:Ai):Int×Ai :=
 if c.Kind=1 then if G0 l c.Path=true then (7,l) else if 24≤l.length then (14,l) else (0,Yn l ⟨c.Path,c.Lines⟩)
 else match (if Lb l c.Path=true then l[H9 l c.Path]? else Option.none) with
 | Option.none=>(6,l)
 | some f =>
  if c.Kind=2 then if f.Lines≠c.Lines then (19,l) else (0,l.eraseIdx (H9 l c.Path))
  else if c.Kind=3 then if G0 (l.eraseIdx (H9 l c.Path)) c.To=true then (7,l) else (0,Yn (l.eraseIdx (H9 l c.Path)) ⟨c.To,f.Lines⟩)
  else if (Qn c.Patch f.Lines).2.Code≠0 then ((Qn c.Patch f.Lines).2.Code,l) else (0,l.set (H9 l c.Path) ⟨f.Path,(Qn c.Patch f.Lines).1⟩)
theorem TrOk.text_len {l:Ai} (h:TrOk l) {f:File} (hf:f∈l):f.Lines.length≤120:=(h.text f hf).1
theorem make1_f {l:Ai} (h:TrOk l) {c:TreeChange} (hc:OkCh c):Mc c ⟨l⟩=some ((Qr c l).1,⟨(Qr c l).2⟩):=by
 have hl:=h.len;have hps:∀ f∈l,f.Path.size≤1000000:=fun f hf=>by have:=Mu (h.path f hf);omega
 have hcp:=Mu hc.path;have hcl:c.Lines.length≤120:=Kc hc.lines;unfold Mc Qr;simp only;rw [Find_f h.srt (by omega),Aa]
 by_cases k1:c.Kind=1
 ·rw [Ag k1,Ad rfl,Ad k1,clash_f hps (by omega) (by omega),Aa,clO_all]
  cases hr:G0 l c.Path
  ·rw [Ac Ae,Ac Ae];by_cases h24:24≤l.length
   ·rw [Ag (by omega),Ad rfl,Ad h24]
   ·rw [Af (by omega),Ac Ae,Ac h24,Put_f h.srt (by omega) (rel_has hr) (by omega),Aa]
  ·rw [Ad rfl,Ad rfl]
 rw [Af k1,Ac Ae,Ac k1];cases hh:Lb l c.Path with
 | false =>
  rw [Ad (by rfl)]
  simp only [A6,Cg]
 | true =>
  obtain ⟨hp,he⟩:=Ww h.srt hh;have hfm:=Ar hp;have hft:=h.text_len hfm;rw [Ac (show ¬ ((!true)=true) by decide),Bg hp,Aa,Ad rfl,A3 hp]
  simp only
  have ez:ckK .i64 (((H9 l c.Path:Nat):Int)+1)=some ((H9 l c.Path+1:Nat):Int):=by
   rw [Br (by omega) (by omega)];rfl
  by_cases k2:c.Kind=2
  ·rw [Ag k2,Ad rfl,Ad k2,sequal_f _ _ (by omega),Aa]
   by_cases ht:l[H9 l c.Path].Lines=c.Lines
   ·rw [Ag ht,Ac (show ¬ ((!true)=true) by decide),Ac (fun hn=>hn ht),ez,Aa,del_f l hp,Aa]
   ·rw [Af ht,Ad (by rfl),Ad ht]
  rw [Af k2,Ac Ae,Ac k2];by_cases k3:c.Kind=3
  ·have hto:=Mu (hc.to k3).1;have hcl3:=clO_ne (p:=c.To) l 0 (H9 l c.Path);rw [Gc] at hcl3;rw [Ag k3,Ad rfl,Ad k3,clash_f hps (by omega) (by omega),Aa,hcl3]
   cases hr:G0 (l.eraseIdx (H9 l c.Path)) c.To
   ·rw [Ac Ae,Ac Ae,ez,Aa,del_f l hp,Aa,
     Put_f (h.srt.sublist (List.eraseIdx_sublist _ _)) (by have:=List.length_eraseIdx_le l (H9 l c.Path);omega) (rel_has hr) (by omega),Aa]
   ·rw [Ad rfl,Ad rfl]
  ·rw [Af k3,Ac Ae,Ac k3,apply_f,Aa];by_cases ha:(Qn c.Patch l[H9 l c.Path].Lines).2.Code=0
   ·have hi:(Qn c.Patch l[H9 l c.Path].Lines).2.Index=0:=by rw [(applyF_ok ha).2.2.2.2.2]
    rw [Ag ha,Ag hi,Ac (by decide),Ac (fun hn=>hn ha),Aa,Aa,Ay]
   ·rw [Ad (by simp [ha]),Ad ha]
theorem requal_f (a b:Ab) (hb:a.length≤1000000):Dj a b=some (decide (a=b)):=by
 unfold Dj;rw [Lm];by_cases hl:a.length=b.length
 ·rw [Ad (by omega)]
  have key:∀ (ra rb:Ab) (k:Nat),a.drop k=ra→b.drop k=rb→ra.length=rb.length→C7 (fun s=>Dj.l1 a b s) (k:Int)=some (if ra=rb then .inr () else .inl false):=by
   intro ra
   induction ra with
   | nil =>
    intro rb k hka hkb hll;have:=Kt hka;obtain rfl:rb=[]:=Db (by simpa using hll.symm)
    refine Bm ?_;unfold Dj.l1;rw [Al,Ac (by omega)];rfl
   | cons x ra ih =>
    intro rb k hka hkb hll;cases rb with
    | nil=>simp at hll
    | cons y rb =>
     obtain ⟨h1,h2,h3⟩:=K9 hka;obtain ⟨h4,h5,h6⟩:=K9 hkb;by_cases hxy:x=y
     ·have e0:Dj.l1 a b (k:Int)=some (.next ((k+1:Nat):Int)):=by
       unfold Dj.l1;rw [Al,Ad (by omega),Bg h1,Aa,h2,Bg h4,Aa,h5,Lm,Ad hxy,Br (by omega) (by omega)];rfl
      rw [Bz e0,ih rb (k+1) h3 h6 (by simpa using hll)]
      subst hxy;simp
     ·rw [Ac (by simp [hxy])]
      refine Bm ?_;unfold Dj.l1;rw [Al,Ad (by omega),Bg h1,Aa,h2,Bg h4,Aa,h5,Lm,Ac hxy]
  rw [show (0:Int)=((0:Nat):Int) from rfl,key a b 0 rfl rfl hl,Aa];by_cases h:a=b
  ·rw [Ad h,Ag h]
  ·rw [Ac h,Af h]
 ·rw [Ac (by omega),Af (fun h=>hl (by rw [h]))]
theorem has_f (text part:Ab) (i:Int) (h1:text.length≤1000000) (h2:part.length≤1000000) (hi:i≤1000000):Mx text i part=some (decide (0≤i∧occ text part i.toNat)):=by
 unfold Mx;rw [Al];by_cases h0:i < 0
 ·rw [Ad h0,Aa,Ad rfl,Af (by omega)]
 ·rw [Ac h0,Br (by omega) (by omega),Aa,Aa,Al]
  by_cases h3:i+(part.length:Int) > text.length
  ·rw [Ad h3,Af (fun h=>by have:=occ_len h.2;omega)]
  ·rw [Ac h3,Aa,Tr (by omega) (by omega) (by omega),Aa,requal_f _ _ (by simp;omega),Aa,List.drop_take,show (i+(part.length:Int)).toNat - i.toNat=part.length by omega]
   congr 1;rw [Ch];exact ⟨fun h=>⟨by omega,by omega,h⟩,fun h=>h.2.2⟩
theorem rawS_len:∀ (l:A7) (t:Ab) (b:Nat),(∀ h∈l,h.New.length≤120)→(Qq l t b).length≤t.length+(t.length+120) * l.length
 | [],t,b,_=>by rw [Qq,Cd];simp
 | h::r,t,b,hn=>by
  have:=rawS_len r t (h.At.toNat+h.Old.length) (fun x hx=>hn x (Bk _ hx));have h1:=hn h (by simp)
  rw [Qq,Aj,Aj,Bl,Cd,Eb,Nat.mul_succ];omega
theorem srt_all:∀ (l:A7) (e:Int),Srt e l→∀ h∈l,e < h.At
 | [],_,_,h,hh=>by cases hh
 | x::l,e,hs,h,hh=>by
  rcases Bf.1 hh with rfl | hh
  ·exact hs.1
  ·have:=srt_all l _ hs.2 h hh;have:=hs.1;omega
theorem rapply_f (p:Patch) (text:Ab):B6 p text=some (Qn p text):=by
 unfold B6 Qn;rw [rpatchFault_f,Aa,Lm];by_cases hp:(H8 p).Code≠0
 ·rw [Ac hp,Ad hp]
 ·rw [Ad (by omega),Ac hp,Nz,Aa,Lm]
  by_cases ht:(B5 text).Code≠0
  ·rw [Ac ht,Ad ht];rfl
  ·rw [Ad (by omega),Ac ht]
   obtain ⟨hn,hg⟩:=(On p).1 (by omega)
   have hl:=Kc (l:=text) (by omega)
   have key:∀ (rest:A7) (k:Nat),p.Hunks.drop k=rest→(∀ h∈rest,0≤h.At∧h.At≤120∧h.Old.length≤120)→C7 (fun s=>B6.l2 p text s) (k:Int)=some (orL ((oscan text k rest).map fun f=>(([]:Ab),f))):=by
    intro rest
    induction rest with
    | nil =>
     intro k hk _;have:=Kt hk;refine Bm ?_;unfold B6.l2;rw [Al,Ac (by omega)];rfl
    | cons h r ih =>
     intro k hk hall;obtain ⟨hlt,hh,hr⟩:=K9 hk;obtain ⟨h0,h1,h2⟩:=hall h (by simp)
     rw [oscan]
     have eo:Mx text h.At h.Old=some (decide (occ text h.Old h.At.toNat)):=by
      rw [has_f _ _ _ (by omega) (by omega) (by omega)];simp [h0]
     by_cases hc:occ text h.Old h.At.toNat
     ·have e0:B6.l2 p text (k:Int)=some (.next ((k+1:Nat):Int)):=by
       unfold B6.l2;rw [Al,Ad (by omega),Bg hlt,Aa,Aa,hh,eo,Aa,Ag hc,Ac (by decide),Br (by omega) (by omega),Aa];rfl
      rw [Ad hc,Bz e0];exact ih (k+1) hr (fun q hq=>hall q (Bk _ hq))
     ·rw [Ac hc];refine Bm ?_;unfold B6.l2;rw [Al,Ad (by omega),Bg hlt,Aa,Aa,hh,eo,Aa,Af hc,Ad (by decide)];rfl
   rw [show (0:Int)=((0:Nat):Int) from rfl,key p.Hunks 0 rfl (fun h hm=>by
    obtain ⟨z1,z3,z2,_⟩:=good_at hg (by omega) h hm
    exact ⟨z1,by omega,Kc z2⟩),Aa,show (((0:Nat):Int))=0 from rfl]
   cases ho:oscan text 0 p.Hunks with
   | some f=>rfl
   | none =>
    have hf:=(Zs text p.Hunks 0).1 ho;have hs:=srt_of _ _ hg;simp only [Option.map_none,orL];unfold B6.j1;rw [Dp (by simp only [Ey];omega),Aa,A8,Br (by omega) (by omega),Aa]
    have back:∀ (k:Nat),k≤p.Hunks.length→C7 (fun s=>B6.l1 p s.1 s.2) ((k:Int) - 1,Qq (p.Hunks.drop k) text 0)=some (Qq p.Hunks text 0):=by
     intro k
     induction k with
     | zero =>
      intro _;refine Bm ?_;simp only;unfold B6.l1;rw [Al,Ac (by omega)];rfl
     | succ k ih =>
      intro hk;have hlt:k < p.Hunks.length:=by omega
      have hm:=Ar hlt;obtain ⟨z1,z3,z2,z4,_⟩:=good_at hg (by omega) _ hm
      have lo:=Kc z2;have ln:=Kc z4;have hol:=occ_len (hf _ hm);have hd:=Cq hlt
      have habove:∀ x∈p.Hunks.drop (k+1),p.Hunks[k].At+(p.Hunks[k].Old.length:Int) < x.At:=by
       have:∀ (l:A7) (e:Int) (k:Nat) (h:k < l.length),Srt e l→∀ x∈l.drop (k+1),l[k].At+(l[k].Old.length:Int) < x.At:=by
        intro l
        induction l with
        | nil=>intro e k h;simp at h
        | cons y l ih =>
         intro e k h hs x hx;cases k with
         | zero=>exact srt_all l _ hs.2 x hx
         | succ k=>exact ih _ k (by simpa using h) hs.2 x hx
       exact this p.Hunks (-1) k hlt hs
      have hcut:=rawS_cut (p.Hunks.drop (k+1)) text 0 (p.Hunks[k].At.toNat+p.Hunks[k].Old.length) (fun x hx=>by have:=habove x hx;omega)
      rw [Gc,List.drop_zero] at hcut
      have hV:(Qq (p.Hunks.drop (k+1)) text 0).length≤120+(120+120) * 130:=by
       have:=rawS_len (p.Hunks.drop (k+1)) text 0 (fun x hx=>by
        obtain ⟨_,_,_,b,_⟩:=good_at hg (by omega) x (Eo hx)
        exact Kc b)
       have h2:(text.length+120) * (p.Hunks.drop (k+1)).length≤(120+120) * 130:=Tt (by omega) (by rw [Cd];omega)
       omega
      have htl:(text.take (p.Hunks[k].At.toNat+p.Hunks[k].Old.length)).length=p.Hunks[k].At.toNat+p.Hunks[k].Old.length:=by simp;omega
      have e1:(Qq (p.Hunks.drop (k+1)) text 0).take p.Hunks[k].At.toNat=text.take p.Hunks[k].At.toNat:=by
       rw [hcut,Cm (by omega),List.take_take];congr 1;omega
      have e2:(Qq (p.Hunks.drop (k+1)) text 0).drop (p.Hunks[k].At.toNat+p.Hunks[k].Old.length)=Qq (p.Hunks.drop (k+1)) text (p.Hunks[k].At.toNat+p.Hunks[k].Old.length):=by
       have:=congrArg (List.drop (p.Hunks[k].At.toNat+p.Hunks[k].Old.length)) hcut;rw [this];have h4:=List.drop_left (l₁:=text.take (p.Hunks[k].At.toNat+p.Hunks[k].Old.length)) (l₂:=Qq (p.Hunks.drop (k+1)) text (p.Hunks[k].At.toNat+p.Hunks[k].Old.length));rw [htl] at h4;exact h4
      have hlenV:p.Hunks[k].At.toNat+p.Hunks[k].Old.length≤(Qq (p.Hunks.drop (k+1)) text 0).length:=by
       rw [hcut,Aj,htl];omega
      have e0:B6.l1 p (k:Int) (Qq (p.Hunks.drop (k+1)) text 0)=some (.next ((k:Int) - 1,Qq (p.Hunks.drop k) text 0)):=by
       unfold B6.l1
       rw [Al,Ad (by omega),Bg hlt,Aa,rend_f _ (by omega) (by omega) (by omega),Aa,Tr (by omega) (by omega) (by omega),Aa,Ay,Bw,
        show (p.Hunks[k].At+(p.Hunks[k].Old.length:Int)).toNat=p.Hunks[k].At.toNat+p.Hunks[k].Old.length by omega,e2]
       have hr:(Qq (p.Hunks.drop (k+1)) text (p.Hunks[k].At.toNat+p.Hunks[k].Old.length)).length≤120+(120+120) * 130:=by rw [← e2,Cd];omega
       rw [Dp (by simp only [Ey];omega),Aa,A8,Tr (by omega) (by omega) (by omega),Aa,e1,show ((0:Int)).toNat=0 from rfl,List.drop_zero,
        Dp (by rw [Bl];omega),Aa,Dp (by rw [Aj,Bl];omega),Aa,Br (by omega) (by omega),Aa,hd,Qq,List.drop_zero,Nat.sub_zero,Am]
      rw [show ((k+1:Nat):Int) - 1=(k:Int) by omega,Bz (m:=fun s:Int×Ab=>B6.l1 p s.1 s.2) (s:=((k:Int),Qq (p.Hunks.drop (k+1)) text 0)) e0]
      exact ih (by omega)
    have b0:=back p.Hunks.length (B7 _);rw [List.drop_length,Qq,List.drop_zero] at b0;rw [b0,Aa];unfold B6.j2;rw [Al];by_cases h120:(Qq p.Hunks text 0).length > 120
    ·rw [Ad (by omega),Ad h120];rfl
    ·rw [Ac (by omega),Ac h120]
theorem pos_eq {m:Ai} (h:Mq m) {p:ByteArray} {k:Nat} (hk:k≤m.length) (h1:∀ i (hi:i < m.length),i < k→sLt m[i].Path p=true) (h2:∀ i (hi:i < m.length),k≤i→sLt m[i].Path p=false):H9 m p=k:=by
 have hp:=pos_le m p;rcases Ou (H9 m p) k with h3 | h3 | h3
 ·have:=h1 (H9 m p) (by omega) h3
  rw [pos_lt h] at this;simp at this
 ·exact h3
 ·have:=h2 k (by omega) (B7 _)
  rw [pos_lt h] at this;simp at this;omega
def Od (m:Ai) (j:Nat) (g:File):Ai:=m.take j++[g]++m.drop j
theorem Ub {m:Ai} {j:Nat} (hj:j≤m.length) (g:File):(Od m j g).length=m.length+1:=by unfold Od;simp;omega
theorem hole_get {m:Ai} {i j:Nat} (hj:j≤m.length) (hi:i < j) (g:File):(Od m j g)[i]'(by rw [Ub hj];omega)=m[i]:=by
 unfold Od;rw [Gb (by simp;omega),Gb (by simp;omega),Ew]
theorem hole_set {m:Ai} {j:Nat} (hj:j≤m.length) (g v:File):(Od m j g).set j v=Od m j v:=by
 unfold Od;have hl:(m.take j).length=j:=by simp;omega
 rw [Am,Am,List.set_append_right _ _ (by omega),hl,Mb]
 rfl
theorem hole_shift {m:Ai} {j:Nat} (hj:j+1≤m.length):Od m (j+1) m[j]=Od m j m[j]:=by
 unfold Od;rw [List.take_add_one,A3 (by omega),Option.toList_some,Cq (i:=j) (by omega)]
 simp
theorem ord_inner {L m:Ai} {k:Nat} (hk:k < L.length) (hm:Mq m) (hn:Lb m L[k].Path=false) (hl:m.length≤1000):∀ (n j:Nat) (gb:File),j=H9 m L[k].Path+n→j≤m.length →
  ∃ gb',C7 (fun s=>A4.l2 L (k:Int) s.1 s.2) ((j:Int),Od m j gb)=some (((H9 m L[k].Path:Nat):Int),Od m (H9 m L[k].Path) gb'):=by
 intro n
 induction n with
 | zero =>
  intro j gb hj hjl;have hj:j=H9 m L[k].Path:=by omega
  refine ⟨gb,?_⟩;rw [← hj];refine Bm ?_;show A4.l2 L (k:Int) (j:Int) (Od m j gb)=_;unfold A4.l2;by_cases h0:j=0
  ·rw [Af (by omega),Ac Ae,Aa,Ac Ae]
  ·have hz:ckK .i64 ((j:Int) - 1)=some ((j - 1:Nat):Int):=by rw [Br (by omega) (by omega)];congr 1;omega
   have hlt:sLt m[j - 1].Path L[k].Path=true:=by rw [pos_lt hm];exact Ag (by omega)
   rw [Ag (by omega),Ad rfl,Bg hk,Aa,hz,Aa,Bg (by rw [Ub hjl];omega),Aa,hole_get hjl (by omega),Qj hlt,Aa,Ac Ae]
 | succ n ih =>
  intro j gb hj hjl;obtain ⟨j,rfl⟩:∃ q,j=q+1:=⟨j - 1,by omega⟩
  have hz:ckK .i64 (((j+1:Nat):Int) - 1)=some (j:Int):=by rw [Br (by omega) (by omega)];congr 1;omega
  have hlt:sLt L[k].Path m[j].Path=true:=by
   have h1:=pos_lt hm L[k].Path j (by omega)
   rw [Af (by omega)] at h1
   rcases sLt_tri L[k].Path m[j].Path with h2 | h2 | h2
   ·exact h2
   ·unfold Lb at hn;rw [Kk] at hn;exact absurd (Ag h2.symm) (hn _ (Ar (by omega)))
   ·rw [h1] at h2;cases h2
  have hstep:A4.l2 L (k:Int) ((j+1:Nat):Int) (Od m (j+1) gb)=some (Step.next ((j:Int),Od m j m[j])):=by
   unfold A4.l2
   rw [Ag (by omega),Ad rfl,Bg hk,Aa,hz,Aa,Bg (by rw [Ub hjl];omega),Aa,hole_get hjl (by omega),hlt,Aa,Ad rfl,Aa,
    Bg (by rw [Ub hjl];omega),Aa,hole_get hjl (by omega),Bg (by rw [Ub hjl];omega),Aa,Aa,Aa,Ay,hole_set hjl,hole_shift (by omega)]
  obtain ⟨gb',e⟩:=ih j m[j] (by omega) (by omega)
  exact ⟨gb',by rw [Bz (s':=((j:Int),Od m j m[j])) hstep];exact e⟩
theorem ord_step {L m:Ai} {k:Nat} (hk:k < L.length) (hL:L.length≤1000) (hm:Mq m) (hn:Lb m L[k].Path=false) (hl:m.length≤1000) :
  A4.l1 L (k:Int) m=some (Step.next (((k+1:Nat):Int),Yn m L[k])):=by
 have hp:=pos_le m L[k].Path;unfold A4.l1;rw [Ag (by omega),Ad rfl,Bg hk,Aa,Dp (by simp;omega),Aa]
 have e0:m++[L[k]]=Od m m.length L[k]:=by unfold Od;simp
 obtain ⟨gb',e⟩:=ord_inner hk hm hn hl (m.length - H9 m L[k].Path) m.length L[k] (by omega) (B7 _)
 rw [e0,e,Aa];unfold A4.j3 A4.j2;rw [Bg hk,Aa,Bg (by rw [Ub hp];omega),Aa,Aa,Ay,hole_set hp,Br (by omega) (by omega),Aa]
 rfl
theorem tw_all {α:Type} {p:α→Bool}:∀ {l:List α},(∀ f∈l,p f=true)→l.takeWhile p=l
 | [],_=>rfl
 | f::l,h=>by rw [List.takeWhile_cons,h f Ce,Ad rfl,tw_all fun g hg=>h g (Bk _ hg)]
theorem ins_end {m:Ai} {x:File} (h:∀ f∈m,sLt f.Path x.Path=true):Yn m x=m++[x]:=by
 have:H9 m x.Path=m.length:=by
  unfold H9;rw [tw_all fun f hf=>h f hf]
 unfold Yn;rw [this];simp
theorem Ordered_f {l:Ai} (h:Mq l) (hl:l.length≤900) {x:File} (hn:Lb l x.Path=false):A4 (l++[x])=some ⟨Yn l x⟩:=by
 have hL:(l++[x]).length=l.length+1:=by simp
 have key:∀ (n k:Nat),k+n=l.length→C7 (fun s=>A4.l1 (l++[x]) s.1 s.2) ((k:Int),l.take k)=some (Yn l x):=by
  intro n
  induction n with
  | zero =>
   intro k hk;have e:k=l.length:=by omega
   subst e;rw [Bw];have hx:(l++[x])[l.length]'(by omega)=x:=by simp
   have hs:=ord_step (L:=l++[x]) (k:=l.length) (m:=l) (by omega) (by omega) h (by rw [hx];exact hn) (by omega)
   rw [Bz (s':=(((l.length+1:Nat):Int),Yn l (l++[x])[l.length])) hs,hx];refine Bm ?_;show A4.l1 (l++[x]) _ _=_;unfold A4.l1;rw [Af (by omega),Ac Ae]
  | succ n ih =>
   intro k hk;have hkl:k < l.length:=by omega
   have hx:(l++[x])[k]'(by omega)=l[k]:=Gb hkl
   have hlow:∀ f∈l.take k,sLt f.Path l[k].Path=true:=by
    intro f hf;rw [Hv] at hf;obtain ⟨i,hi,rfl⟩:=hf;exact B0.1 h i k (by omega) hkl (by omega)
   have hno:Lb (l.take k) l[k].Path=false:=by
    unfold Lb;rw [Kk];intro f hf e;exact sLt_ne (hlow f hf) (Lr e)
   have hs:=ord_step (L:=l++[x]) (k:=k) (m:=l.take k) (by omega) (by omega) (h.sublist (List.take_sublist _ _)) (by rw [hx];exact hno) (by rw [Bl];omega)
   rw [Bz (s':=(((k+1:Nat):Int),Yn (l.take k) (l++[x])[k])) hs,hx,ins_end hlow];have:=ih (k+1) (by omega)
   rw [List.take_add_one,A3 hkl] at this;exact this
 unfold A4;have:=key l.length 0 (by omega)
 rw [G6] at this;rw [show ((0:Nat):Int)=0 from rfl] at this;rw [this,Aa]
theorem without_f {l:Ai} {j:Nat} (hj:j < l.length) (hl:l.length≤1000):Kw ⟨l⟩ (j:Int)=some ⟨l.eraseIdx j⟩:=by
 unfold Kw;simp only;rw [Tr (by omega) (by omega) (by omega),Aa,Dp (by simp;omega),Aa,Br (by omega) (by omega),Aa,Tr (by omega) (by omega) (by omega),Aa,Dp (by simp;omega),Aa]
 congr 2;rw [List.eraseIdx_eq_take_drop_succ];simp
theorem with_f {l:Ai} (h:Mq l) (hl:l.length≤900) (x:File):Dw ⟨l⟩ x=some (if G0 l x.Path=true then (⟨l⟩,7) else if 24≤l.length then (⟨l⟩,14) else (⟨Yn l x⟩,0)):=by
 unfold Dw;rw [Xh l (fun _ f=>if Oc f.Path x.Path=true then some ((⟨l⟩:FileTree),(7:Int)) else Option.none) ?_ ?_,Aa]
 ·have:∀ (m:Ai) (j:Nat),K1 (fun _ f=>if Oc f.Path x.Path=true then some ((⟨l⟩:FileTree),(7:Int)) else Option.none) j m=if G0 m x.Path=true then some (⟨l⟩,7) else Option.none:=by
   intro m
   induction m with
   | nil=>intro j;rfl
   | cons f m ih =>
    intro j;rw [K1];unfold G0;rw [Lc];cases hr:Oc f.Path x.Path
    ·simp only [A6,Cg,Ki];exact ih (j+1)
    ·simp
  rw [this];cases hr:G0 l x.Path
  ·rw [Ac Ae,Ac Ae];unfold orL Dw.j1 Dw.j2;simp only;by_cases h24:24≤l.length
   ·rw [Ag (by omega),Ad rfl,Ad h24]
   ·rw [Af (by omega),Ac Ae,Ac h24,Dp (by simp;omega),Aa,A8,Dp (by simp;omega),Aa,Ordered_f h hl (rel_has hr),Aa]
  ·rw [Ad rfl,Ad rfl];rfl
 ·intro k hk _;unfold Dw.l1;simp only;rw [Ag (by omega),Ad rfl,Bg hk,Aa,Z2,Aa]
  cases Oc l[k].Path x.Path
  ·rw [Ac Ae,Ac Ae,Br (by omega) (by omega),Aa];rfl
  ·rw [Ad rfl,Ad rfl]
 ·unfold Dw.l1;rw [Af (by simp),Ac Ae]
theorem FileAt_f {l:Ai} (h:Mq l) (hl:l.length≤900) (p:ByteArray):B4 ⟨l⟩ p=some (if Lb l p=true then ((H9 l p:Nat):Int) else -1):=by
 unfold B4;rw [Xh l (fun k f=>if f.Path=p then some ((k:Nat):Int) else Option.none) ?_ ?_,Aa]
 ·cases hs:K1 (fun k f=>if f.Path=p then some ((k:Nat):Int) else Option.none) 0 l with
  | none =>
   rw [O6] at hs
   have:Lb l p=false:=by
    unfold Lb;rw [Kk];intro f hf e;obtain ⟨j,hj,rfl⟩:=Ci hf;have:=hs j hj;rw [Ad (Lr e)] at this;cases this
   rw [this,Ac Ae];rfl
  | some y =>
   obtain ⟨j,hj,e⟩:=M1 hs;rw [Gc] at e;split at e
   ·rename_i he
    obtain ⟨h1,h2⟩:=pos_of h hj;rw [he] at h1 h2;rw [h2,Ad rfl,h1,← Gg e];rfl
   ·cases e
 ·intro k hk _;unfold B4.l1;simp only;rw [Ag (by omega),Ad rfl,Bg hk,Aa]
  by_cases he:l[k].Path=p
  ·rw [Ag he,Ad rfl,Ad he]
  ·rw [Af he,Ac Ae,Ac he,Br (by omega) (by omega),Aa];rfl
 ·unfold B4.l1;rw [Af (by simp),Ac Ae]
theorem erase_rel {l:Ai} (h:TrOk l) {j:Nat} (hj:j < l.length):G0 (l.eraseIdx j) l[j].Path=false:=by
 unfold G0;rw [Kk];intro f hf;rw [List.mem_eraseIdx_iff_getElem] at hf;obtain ⟨i,hi,hne,rfl⟩:=hf;rcases Nat.lt_or_gt_of_ne hne with h1 | h1
 ·have:=B0.1 h.rel i j hi hj h1;rw [this];decide
 ·have:=B0.1 h.rel j i hj hi h1;rw [relB_comm,this];decide
theorem pos_erase {l:Ai} (h:Mq l) {j:Nat} (hj:j < l.length):H9 (l.eraseIdx j) l[j].Path=j:=by
 have hlen:(l.eraseIdx j).length=l.length - 1:=by rw [Qk,Ad hj]
 refine pos_eq (h.sublist (List.eraseIdx_sublist _ _)) (by omega) ?_ ?_
 ·intro i hi hij;rw [List.getElem_eraseIdx_of_lt _ hij];exact B0.1 h i j (by omega) hj hij
 ·intro i hi hij;rw [List.getElem_eraseIdx_of_ge _ hij];exact Qj (B0.1 h j (i+1) hj (by omega) (by omega))
theorem ins_erase {l:Ai} (h:Mq l) {j:Nat} (hj:j < l.length) {x:File} (hx:x.Path=l[j].Path):Yn (l.eraseIdx j) x=l.set j x:=by
 unfold Yn;rw [hx,pos_erase h hj,List.eraseIdx_eq_take_drop_succ,List.set_eq_take_append_cons_drop,Ad hj];have h1:(l.take j++l.drop (j+1)).take j=l.take j:=by rw [Cm (by simp;omega),List.take_take,Nat.min_self]
 have h2:(l.take j++l.drop (j+1)).drop j=l.drop (j+1):=by
  have hl:(l.take j).length=j:=by simp;omega
  rw [List.drop_append_of_le_length (by omega),D8 (by omega),A8]
 rw [h1,h2];simp
theorem RChange_f {l:Ai} (h:TrOk l) {c:TreeChange} (hc:OkCh c):∃ t',H2 ⟨l⟩ c=some (t',(Qr c l).1)∧((Qr c l).1=0→t'=⟨(Qr c l).2⟩):=by
 have hl:=h.len;unfold H2 Qr;by_cases k1:c.Kind=1
 ·rw [Ag k1,Ad rfl,Ad k1,with_f h.srt (by omega),Aa]
  simp only;cases hr:G0 l c.Path
  ·rw [Ac Ae,Ac Ae];by_cases h24:24≤l.length
   ·rw [Ad h24,Ad h24];exact ⟨_,rfl,fun e=>absurd e (by simp)⟩
   ·rw [Ac h24,Ac h24];exact ⟨_,rfl,fun _=>rfl⟩
  ·rw [Ad rfl,Ad rfl];exact ⟨_,rfl,fun e=>absurd e (by simp)⟩
 rw [Af k1,Ac Ae,Ac k1,FileAt_f h.srt (by omega),Aa]
 cases hh:Lb l c.Path with
 | false =>
  rw [Ac Ae,Ac Ae];exact ⟨_,rfl,fun e=>absurd e (by simp)⟩
 | true =>
  obtain ⟨hp,he⟩:=Ww h.srt hh;have hfm:=Ar hp;have hft:=h.text_len hfm;have hle:(l.eraseIdx (H9 l c.Path)).length=l.length - 1:=by rw [Qk,Ad hp]
  have hes:Mq (l.eraseIdx (H9 l c.Path)):=h.srt.sublist (List.eraseIdx_sublist _ _);simp only [E4];rw [Af (by omega),Ac Ae,A3 hp]
  simp only;by_cases k2:c.Kind=2
  ·rw [Ag k2,Ad rfl,Ad k2,Bg hp,Aa,requal_f _ _ (by omega),Aa]
   by_cases ht:l[H9 l c.Path].Lines=c.Lines
   ·rw [Ag ht,Ac (show ¬ ((!true)=true) by decide),Ac (fun hn=>hn ht),without_f hp (by omega),Aa];exact ⟨_,rfl,fun _=>rfl⟩
   ·rw [Af ht,Ad (by rfl),Ad ht];exact ⟨_,rfl,fun e=>absurd e (by simp)⟩
  rw [Af k2,Ac Ae,Ac k2];by_cases k3:c.Kind=3
  ·rw [Ag k3,Ad rfl,Ad k3,Bg hp,Aa,without_f hp (by omega),Aa,with_f hes (by omega),Aa]
   simp only;cases hr:G0 (l.eraseIdx (H9 l c.Path)) c.To
   ·rw [Ac Ae,Ac Ae,Ac (by omega)]
    exact ⟨_,rfl,fun _=>rfl⟩
   ·rw [Ad rfl,Ad rfl];exact ⟨_,rfl,fun e=>absurd e (by simp)⟩
  ·rw [Af k3,Ac Ae,Ac k3,Bg hp,Aa,rapply_f,Aa];unfold H2.j1;by_cases ha:(Qn c.Patch l[H9 l c.Path].Lines).2.Code=0
   ·rw [Ag ha,Ac (show ¬ ((!true)=true) by decide),Ac (fun hn=>hn ha),without_f hp (by omega),Aa,with_f hes (by omega),Aa]
    have hrel:=erase_rel h hp;rw [he] at hrel;simp only;rw [hrel,Ac Ae,Ac (by omega),ins_erase h.srt hp he.symm,he]
    exact ⟨_,rfl,fun _=>rfl⟩
   ·rw [Af ha,Ad (by rfl),Ad ha];exact ⟨_,rfl,fun e=>absurd e ha⟩
theorem ins_ok {l:Ai} (h:TrOk l) {x:File} (h1:Kq x.Path=true) (h2:G0 l x.Path=false) (h3:Kb x.Lines) (h4:l.length < 24):TrOk (Yn l x):=by
 have hrel:∀ f∈l,Oc f.Path x.Path=false:=by
  intro f hf;unfold G0 at h2;rw [Kk] at h2;simpa using h2 f hf
 refine ⟨by rw [ins_len];omega,ins_srt h.srt (rel_has h2),?_,?_,?_⟩
 ·intro f hf;rcases ins_mem.1 hf with rfl | hf
  ·exact h1
  ·exact h.path f hf
 ·unfold Yn;rw [Gy,Gy];have hr:=h.rel;rw [← Hj (H9 l x.Path) l,Gy] at hr;refine ⟨⟨hr.1,Hs _ _,?_⟩,hr.2.1,?_⟩
  ·intro a ha b hb;rw [A2] at hb;subst hb;exact hrel a (C4 ha)
  ·intro a ha b hb;rcases Az.1 ha with ha | ha
   ·exact hr.2.2 a ha b hb
   ·rw [A2] at ha;subst ha;rw [relB_comm];exact hrel b (Eo hb)
 ·intro f hf;rcases ins_mem.1 hf with rfl | hf
  ·exact h3
  ·exact h.text f hf
theorem erase_ok {l:Ai} (h:TrOk l) (j:Nat):TrOk (l.eraseIdx j):=by
 have hs:=List.eraseIdx_sublist l j;refine ⟨Bx hs.length_le h.len,h.srt.sublist hs,fun f hf=>h.path f (hs.subset hf),h.rel.sublist hs,fun f hf=>h.text f (hs.subset hf)⟩
theorem applyF_text {p:Patch} {t:Ab} (h:(Qn p t).2.Code=0):Kb (Qn p t).1:=by
 obtain ⟨h1,h2,h3,h4,h5,h6⟩:=applyF_ok h;rw [h6];exact ⟨h5,rawS_lines _ _ _ h3.2 fun x hx=>lines_of (good_at h2 (by omega) x hx).2.2.2.1⟩
theorem makeF_ok {l:Ai} (h:TrOk l) {c:TreeChange} (hc:OkCh c) (h0:(Qr c l).1=0):TrOk (Qr c l).2:=by
 unfold Qr at h0 ⊢;by_cases k1:c.Kind=1
 ·rw [Ad k1] at h0 ⊢;cases hr:G0 l c.Path
  ·rw [hr,Ac Ae] at h0;rw [Ac Ae];by_cases h24:24≤l.length
   ·rw [Ad h24] at h0;simp at h0
   ·rw [Ac h24];exact ins_ok h hc.path hr ((Hr _).2 ((Er _).2 hc.lines)) (by omega)
  ·rw [hr,Ad rfl] at h0;simp at h0
 rw [Ac k1] at h0 ⊢;cases hh:Lb l c.Path with
 | false=>rw [hh] at h0;simp at h0
 | true =>
  obtain ⟨hp,he⟩:=Ww h.srt hh;have hfm:=Ar hp;have hle:(l.eraseIdx (H9 l c.Path)).length=l.length - 1:=by rw [Qk,Ad hp]
  have hl:=h.len;rw [hh,Ad rfl,A3 hp] at h0;rw [Ad rfl,A3 hp];simp only at h0 ⊢;by_cases k2:c.Kind=2
  ·rw [Ad k2] at h0 ⊢;by_cases ht:l[H9 l c.Path].Lines≠c.Lines
   ·rw [Ad ht] at h0;simp at h0
   ·rw [Ac ht];exact erase_ok h _
  rw [Ac k2] at h0 ⊢;by_cases k3:c.Kind=3
  ·rw [Ad k3] at h0 ⊢;cases hr:G0 (l.eraseIdx (H9 l c.Path)) c.To
   ·rw [Ac Ae];exact ins_ok (erase_ok h _) (hc.to k3).1 hr (show Kb l[H9 l c.Path].Lines from h.text _ hfm) (by omega)
   ·rw [hr,Ad rfl] at h0;simp at h0
  ·rw [Ac k3] at h0 ⊢;by_cases ha:(Qn c.Patch l[H9 l c.Path].Lines).2.Code=0
   ·rw [Ac (fun hn=>hn ha)];simp only;rw [← ins_erase h.srt hp (x:=⟨l[H9 l c.Path].Path,(Qn c.Patch l[H9 l c.Path].Lines).1⟩) rfl];refine ins_ok (erase_ok h _) (show Kq l[H9 l c.Path].Path=true from h.path _ hfm) (erase_rel h hp) ?_ (by omega)
    exact applyF_text ha
   ·rw [Ad ha] at h0;exact absurd h0 ha
def pcG (k:Nat) (c:TreeChange):Option Fault:=if chF c≠0 then some ⟨chF c,k⟩ else Option.none
def pcF (p:Ap):Fault:=if p.length > 30 then ⟨2,-1⟩ else (K1 pcG 0 p).getD ⟨0,0⟩
theorem VPatch_f (p:TreePatch):En p=some (pcF p.Changes):=by
 obtain ⟨l⟩:=p;unfold En pcF;simp only;by_cases h:l.length > 30
 ·rw [Ag (by omega),Ad rfl,Ad h]
 rw [Af (by omega),Ac Ae,Ac h,Xh l pcG ?_ ?_,Aa]
 ·cases K1 pcG 0 l <;> rfl
 ·intro k hk _;unfold En.l1 pcG;simp only;rw [Ag (by omega),Ad rfl,Bg hk,Aa,check_f,Aa]
  by_cases hc:chF l[k]=0
  ·rw [Ag hc,Ac (show ¬ ((!true)=true) by decide),Ac (fun hn=>hn hc),Br (by omega) (by omega),Aa];rfl
  ·rw [Af hc,Ad (by rfl),Ad hc]
 ·unfold En.l1;rw [Af (by simp),Ac Ae]
theorem RVPatch_f (p:TreePatch):C2 p=some (pcF p.Changes):=by
 obtain ⟨l⟩:=p;unfold C2 pcF;simp only;by_cases h:l.length > 30
 ·rw [Ag (by omega),Ad rfl,Ad h];rfl
 rw [Af (by omega),Ac Ae,Ac h,Xh l pcG ?_ ?_,Aa]
 ·cases K1 pcG 0 l <;> rfl
 ·intro k hk _;unfold C2.l1 pcG;simp only;rw [Ag (by omega),Ad rfl,Bg hk,Aa,ChangeCode_f,Aa]
  by_cases hc:chF l[k]=0
  ·rw [Ag hc,Ac (show ¬ ((!true)=true) by decide),Ac (fun hn=>hn hc),Br (by omega) (by omega),Aa];rfl
  ·rw [Af hc,Ad (by rfl),Ad hc];rfl
 ·unfold C2.l1;rw [Af (by simp),Ac Ae]
theorem pcG_code {k:Nat} {c:TreeChange} {y:Fault} (h:pcG k c=some y):y.Code≠0:=by
 unfold pcG at h;split at h
 ·rename_i hc;cases h;exact hc
 ·cases h
theorem pcF_ok (p:Ap):pcF p=⟨0,0⟩∨(pcF p).Code≠0:=by
 unfold pcF;split
 ·right;simp
 ·cases h:K1 pcG 0 p with
  | none=>left;rfl
  | some y=>right;obtain ⟨j,hj,e⟩:=M1 h;exact pcG_code e
theorem Vu (p:Ap):(pcF p).Code=0↔p.length≤30∧∀ c∈p,OkCh c:=by
 unfold pcF;by_cases h:p.length > 30
 ·rw [Ad h];exact ⟨fun e=>by simp at e,fun e=>by omega⟩
 rw [Ac h]
 have e1:(((K1 pcG 0 p).getD ⟨0,0⟩).Code=0)↔K1 pcG 0 p=Option.none:=by
  cases h:K1 pcG 0 p with
  | none=>simp
  | some y=>obtain ⟨j,hj,e⟩:=M1 h;simp [pcG_code e]
 rw [e1,O6];constructor
 ·intro hh;refine ⟨by omega,fun c hc=>?_⟩
  obtain ⟨j,hj,rfl⟩:=Ci hc;have:=hh j hj;unfold pcG at this;split at this
  ·cases this
  ·rename_i h0;exact chF_ok.1 (by simpa using h0)
 ·rintro ⟨_,hh⟩ j hj;unfold pcG;rw [Ac (by rw [chF_ok.2 (hh _ (Ar hj))];simp)]
def Z1:Nat→Ap→Ai→Ai×Fault
 | _,[],l=>(l,⟨0,0⟩)
 | k,c::r,l=>if (Qr c l).1≠0 then ([],⟨(Qr c l).1,k⟩) else Z1 (k+1) r (Qr c l).2
def Gx (p:Ap) (l:Ai):Ai×Fault :=
 if (pcF p).Code≠0 then ([],pcF p) else if (Ek l).Code≠0 then ([],⟨(Ek l).Code,-2⟩) else Z1 0 p l
theorem copyT_f {l:Ai} (h:∀ f∈l,f.Lines.length≤1000000) (hl:l.length≤1000):Ez ⟨l⟩=some ⟨l⟩:=by
 have key:∀ (n k:Nat),k+n=l.length→C7 (fun s=>Ez.l1 ⟨l⟩ s.1 s.2) ((k:Int),l.take k)=some l:=by
  intro n
  induction n with
  | zero =>
   intro k hk;refine Bm ?_;show Ez.l1 ⟨l⟩ _ _=_;unfold Ez.l1;simp only;rw [Af (by omega),Ac Ae,Cn (by omega)]
  | succ n ih =>
   intro k hk;have hkl:k < l.length:=by omega
   have hs:Ez.l1 ⟨l⟩ (k:Int) (l.take k)=some (Step.next (((k+1:Nat):Int),l.take (k+1))):=by
    unfold Ez.l1;simp only
    rw [Ag (by omega),Ad rfl,Bg hkl,Aa,clone_f _ (h _ (Ar hkl)),Aa,Dp (by simp;omega),Aa,Br (by omega) (by omega),Aa,
     List.take_add_one,A3 hkl];rfl
   rw [Bz (s':=(((k+1:Nat):Int),l.take (k+1))) hs];exact ih (k+1) (by omega)
 unfold Ez;have:=key l.length 0 (by omega)
 rw [G6,show ((0:Nat):Int)=0 from rfl] at this;rw [this,Aa]
theorem run_ok:∀ (r:Ap) (k:Nat) (l:Ai),TrOk l→(∀ c∈r,OkCh c)→(Z1 k r l).2.Code=0→TrOk (Z1 k r l).1∧(Z1 k r l).2=⟨0,0⟩
 | [],k,l,h,_,_=>⟨h,rfl⟩
 | c::r,k,l,h,hc,h0=>by
  rw [Z1] at h0 ⊢;by_cases hm:(Qr c l).1≠0
  ·rw [Ad hm] at h0;exact absurd h0 hm
  ·rw [Ac hm] at h0 ⊢;exact run_ok r (k+1) _ (makeF_ok h (hc c Ce) (by simpa using hm)) (fun d hd=>hc d (Bk _ hd)) h0
theorem run_iter {p:Ap} (hp:∀ c∈p,OkCh c) (hpl:p.length≤30):∀ (r:Ap) (k:Nat) (l:Ai),p.drop k=r→TrOk l →
  C7 (fun s=>Ha.l1 ⟨p⟩ s.1 s.2) ((k:Int),l)=some (if (Z1 k r l).2.Code≠0 then .inl (⟨[]⟩,(Z1 k r l).2) else .inr (Z1 k r l).1):=by
 intro r
 induction r with
 | nil =>
  intro k l hk h;have:=Kt hk;rw [Z1,Ac (by simp)]
  refine Bm ?_;show Ha.l1 ⟨p⟩ _ _=_;unfold Ha.l1;simp only;rw [Af (by omega),Ac Ae]
 | cons c r ih =>
  intro k l hk h;obtain ⟨hlt,hx,hr⟩:=K9 hk;have hc:OkCh c:=hp c (hx ▸ Ar hlt)
  have hs:Ha.l1 ⟨p⟩ (k:Int) l=if (Qr c l).1≠0 then some (Step.done (Sum.inl (⟨[]⟩,⟨(Qr c l).1,k⟩))) else some (Step.next (((k+1:Nat):Int),(Qr c l).2)):=by
   unfold Ha.l1;simp only;rw [Ag (by omega),Ad rfl,Bg hlt,Aa,hx,make1_f h hc,Aa]
   by_cases hm:(Qr c l).1=0
   ·rw [Ag hm,Ac (show ¬ ((!true)=true) by decide),Ac (fun hn=>hn hm),Br (by omega) (by omega),Aa];rfl
   ·rw [Af hm,Ad (by rfl),Ad hm]
  rw [Z1];by_cases hm:(Qr c l).1≠0
  ·rw [Ad hm] at hs ⊢;rw [Ad (by simpa using hm)]
   exact Bm hs
  ·rw [Ac hm] at hs ⊢;rw [Bz (s':=(((k+1:Nat):Int),(Qr c l).2)) hs];exact ih (k+1) _ hr (makeF_ok h hc (by simpa using hm))
theorem rrun_iter {p:Ap} (hp:∀ c∈p,OkCh c) (hpl:p.length≤30):∀ (r:Ap) (k:Nat) (l:Ai),p.drop k=r→TrOk l →
  C7 (fun s=>Df.l1 ⟨p⟩ s.1 s.2) ((k:Int),l)=some (if (Z1 k r l).2.Code≠0 then .inl (⟨[]⟩,(Z1 k r l).2) else .inr (Z1 k r l).1):=by
 intro r
 induction r with
 | nil =>
  intro k l hk h;have:=Kt hk;rw [Z1,Ac (by simp)]
  refine Bm ?_;show Df.l1 ⟨p⟩ _ _=_;unfold Df.l1;simp only;rw [Af (by omega),Ac Ae]
 | cons c r ih =>
  intro k l hk h;obtain ⟨hlt,hx,hr⟩:=K9 hk;have hc:OkCh c:=hp c (hx ▸ Ar hlt);obtain ⟨t',e1,e2⟩:=RChange_f h hc
  have hs:Df.l1 ⟨p⟩ (k:Int) l=if (Qr c l).1≠0 then some (Step.done (Sum.inl (⟨[]⟩,⟨(Qr c l).1,k⟩))) else some (Step.next (((k+1:Nat):Int),(Qr c l).2)):=by
   unfold Df.l1;simp only;rw [Ag (by omega),Ad rfl,Bg hlt,Aa,hx,e1,Aa]
   simp only;by_cases hm:(Qr c l).1=0
   ·rw [Ag hm,Ac (show ¬ ((!true)=true) by decide),Ac (fun hn=>hn hm),Br (by omega) (by omega),Aa,e2 hm];rfl
   ·rw [Af hm,Ad (by rfl),Ad hm];rfl
  rw [Z1];by_cases hm:(Qr c l).1≠0
  ·rw [Ad hm] at hs ⊢;rw [Ad (by simpa using hm)]
   exact Bm hs
  ·rw [Ac hm] at hs ⊢;rw [Bz (s':=(((k+1:Nat):Int),(Qr c l).2)) hs];exact ih (k+1) _ hr (makeF_ok h hc (by simpa using hm))
theorem run_fail:∀ (r:Ap) (k:Nat) (l:Ai),(Z1 k r l).2.Code≠0→(Z1 k r l).1=[]
 | [],k,l,h=>absurd rfl h
 | c::r,k,l,h=>by
  rw [Z1] at h ⊢;by_cases hm:(Qr c l).1≠0
  ·rw [Ad hm]
  ·rw [Ac hm] at h ⊢;exact run_fail r (k+1) _ h
theorem Apply_f (p:TreePatch) (t:FileTree):Ha p t=some (⟨(Gx p.Changes t.Files).1⟩,(Gx p.Changes t.Files).2):=by
 obtain ⟨p⟩:=p;obtain ⟨l⟩:=t;unfold Ha Gx;rw [VPatch_f,Aa];simp only;rcases pcF_ok p with h | h
 ·have h0:(pcF p).Code=0:=by rw [h]
  obtain ⟨hpl,hp⟩:=(Vu p).1 h0;rw [Ac (by rw [h];decide),Ac (fun hn=>hn h0),tsecond_f,Aa]
  simp only;by_cases ht:(Ek l).Code=0
  ·have hT:=(Hz l).1 ht;rw [Ad ht,Ac (by decide),Ac (fun hn=>hn ht),copyT_f (fun f hf=>by have:=hT.text_len hf;omega) (by have:=hT.len;omega),Aa]
   have:=run_iter hp hpl p 0 l rfl hT;rw [show ((0:Nat):Int)=0 from rfl] at this;rw [this,Aa];by_cases hr:(Z1 0 p l).2.Code≠0
   ·rw [Ad hr,run_fail _ _ _ hr]
   ·rw [Ac hr,(run_ok p 0 l hT hp (by simpa using hr)).2]
  ·rw [Ac ht,Ad (by simp [ht]),Ad ht]
 ·rw [Ad (by simp [h]),Ad h]
theorem RApply_f (p:TreePatch) (t:FileTree):Df p t=some (⟨(Gx p.Changes t.Files).1⟩,(Gx p.Changes t.Files).2):=by
 obtain ⟨p⟩:=p;obtain ⟨l⟩:=t;unfold Df Gx;rw [RVPatch_f,Aa];simp only;rcases pcF_ok p with h | h
 ·have h0:(pcF p).Code=0:=by rw [h]
  obtain ⟨hpl,hp⟩:=(Vu p).1 h0;rw [Ac (by rw [h];decide),Ac (fun hn=>hn h0),Aai,Aa]
  simp only;by_cases ht:(Ek l).Code=0
  ·have hT:=(Hz l).1 ht;rw [Ag ht,Ac (by decide),Ac (fun hn=>hn ht)]
   have:=rrun_iter hp hpl p 0 l rfl hT;rw [show ((0:Nat):Int)=0 from rfl] at this;rw [this,Aa];by_cases hr:(Z1 0 p l).2.Code≠0
   ·rw [Ad hr,run_fail _ _ _ hr]
   ·rw [Ac hr,(run_ok p 0 l hT hp (by simpa using hr)).2]
  ·rw [Af ht,Ad (by rfl),Ad ht];rfl
 ·rw [Ad (by simp [h]),Ad h]
theorem tree_refl {l:Ai} (h:∀ f∈l,f.Lines.length≤1000000) (hl:l.length≤1000000):Eh ⟨l⟩ ⟨l⟩=some true:=by
 unfold Eh;simp only;rw [Ac (by simp),Xh l (fun _ _=>(Option.none:Option Bool)) ?_ ?_,Aa]
 ·have:K1 (fun _ _=>(Option.none:Option Bool)) 0 l=Option.none:=by rw [O6];intro j hj;rfl
  rw [this];rfl
 ·intro k hk _;unfold Eh.l1;simp only
  rw [Ag (by omega),Ad rfl,Bg hk,Aa,Aa,Ag rfl,Ac (show ¬ ((!true)=true) by decide),Aa,Aa,strings_eq _ _ (h _ (Ar hk)),Aa,
   Ag rfl,Aa,Ac (by decide),Br (by omega) (by omega),Aa];rfl
 ·unfold Eh.l1;rw [Af (by simp),Ac Ae]
theorem tree_ok {l:Ai} (h:TrOk l):Eh ⟨l⟩ ⟨l⟩=some true:=tree_refl (fun f hf=>by have:=h.text_len hf;omega) (by have:=h.len;omega)
theorem U6 {p:Ap} {l:Ai} (h:(Gx p l).2.Code=0):p.length≤30∧(∀ c∈p,OkCh c)∧TrOk l∧Gx p l=Z1 0 p l∧TrOk (Gx p l).1:=by
 unfold Gx at h ⊢;by_cases hp:(pcF p).Code≠0
 ·rw [Ad hp] at h;exact absurd h hp
 rw [Ac hp] at h ⊢;have hp0:=(Vu p).1 (by simpa using hp)
 by_cases ht:(Ek l).Code≠0
 ·rw [Ad ht] at h;exact absurd h ht
 rw [Ac ht] at h ⊢;have hT:=(Hz l).1 (by simpa using ht)
 exact ⟨hp0.1,hp0.2,hT,rfl,(run_ok p 0 l hT hp0.2 h).1⟩
theorem applyT_of {p:Ap} {l:Ai} (h1:p.length≤30) (h2:∀ c∈p,OkCh c) (h3:TrOk l):Gx p l=Z1 0 p l:=by
 unfold Gx;rw [Ac (by rw [(Vu p).2 ⟨h1,h2⟩];simp),Ac (by rw [(Hz l).2 h3];simp)]
theorem one_ok {p:ByteArray} {L:Ab} (h1:Kq p=true) (h2:Kb L):TrOk [⟨p,L⟩] :=
 ⟨by simp,Hs _ _,by simpa using h1,Hs _ _,by simpa using h2⟩
theorem res_eq:∀ {a b:Ai},Mq a→Mq b→(∀ f,f∈a↔f∈b)→a=b
 | [],[],_,_,_=>rfl
 | [],g::b,_,_,h=>absurd ((h g).2 Ce) (by simp)
 | f::a,[],_,_,h=>absurd ((h f).1 Ce) (by simp)
 | f::a,g::b,ha,hb,h=>by
  have ha':=D9.1 ha;have hb':=D9.1 hb
  have e:f=g:=by
   rcases Bf.1 ((h f).1 Ce) with e | e
   ·exact e
   ·rcases Bf.1 ((h g).2 Ce) with e2 | e2
    ·exact e2.symm
    ·have h1:=hb'.1 f e;have h2:=ha'.1 g e2;rw [Qj h1] at h2;cases h2
  subst e;congr 1;refine res_eq ha'.2 hb'.2 fun x=>?_
  have hne:∀ y∈a,y≠f:=fun y hy e=>by
   subst e;have:=ha'.1 y hy;rw [Qz] at this;cases this
  have hne2:∀ y∈b,y≠f:=fun y hy e=>by
   subst e;have:=hb'.1 y hy;rw [Qz] at this;cases this
  constructor
  ·intro hx;rcases Bf.1 ((h x).1 (Bk _ hx)) with e | e
   ·exact absurd e (hne x hx)
   ·exact e
  ·intro hx;rcases Bf.1 ((h x).2 (Bk _ hx)) with e | e
   ·exact absurd e (hne2 x hx)
   ·exact e
theorem mem_has {l:Ai} (h:Mq l) {P:ByteArray} {L:Ab} (hm:(⟨P,L⟩:File)∈l):∃ hp:H9 l P < l.length,Lb l P=true∧l[H9 l P]=⟨P,L⟩:=by
 obtain ⟨i,hi,e⟩:=Ci hm;have:=pos_of h hi;rw [e] at this;simp only at this;refine ⟨by omega,this.2,?_⟩
 rw [← e];congr 1;exact this.1
theorem sLt_not {a b:ByteArray} (h:sLt a b=false):a=b∨sLt b a=true:=by
 rcases sLt_tri a b with h1 | h1 | h1
 ·rw [h1] at h;cases h
 ·exact .inl h1
 ·exact .inr h1
theorem sLt_not_trans {a b c:ByteArray} (h1:sLt a b=false) (h2:sLt b c=false):sLt a c=false:=by
 rcases sLt_not h1 with rfl | h1
 ·exact h2
 rcases sLt_not h2 with rfl | h2
 ·exact Qj h1
 ·exact Qj (Xx h2 h1)
def SAsc (l:Ab):Prop:=l.Pairwise fun x y=>sLt x y=true
theorem sasc_uniq:∀ {l m:Ab},SAsc l→SAsc m→(∀ z,z∈l↔z∈m)→l=m
 | [],[],_,_,_=>rfl
 | [],y::m,_,_,h=>by have:=(h y).2 (by simp);cases this
 | x::l,[],_,_,h=>by have:=(h x).1 (by simp);cases this
 | x::l,y::m,hl,hm,h=>by
  unfold SAsc at hl hm;rw [D9] at hl hm
  have e:x=y:=by
   rcases Bf.1 ((h x).1 (by simp)) with e | hx
   ·exact e
   ·rcases Bf.1 ((h y).2 (by simp)) with e | hy
    ·exact e.symm
    ·have h1:=hm.1 x hx;have h2:=hl.1 y hy;rw [Qj h2] at h1;cases h1
  subst e;rw [sasc_uniq (l:=l) (m:=m) hl.2 hm.2 (fun z=>?_)];constructor
  ·intro hz;rcases Bf.1 ((h z).1 (by simp [hz])) with rfl | h1
   ·have:=hl.1 z hz;rw [Qz] at this;cases this
   ·exact h1
  ·intro hz;rcases Bf.1 ((h z).2 (by simp [hz])) with rfl | h1
   ·have:=hm.1 z hz;rw [Qz] at this;cases this
   ·exact h1
theorem sortS_pw (l:Ab):(Yv l).Pairwise fun x y=>sLt y x=false:=by
 have h:=List.pairwise_mergeSort (le:=fun x y=>!sLt y x) (l:=l)
  (fun a b c h1 h2=>by simp only [Bool.not_eq_true'] at h1 h2 ⊢;exact sLt_not_trans h2 h1)
  (fun a b=>by
   cases h1:sLt b a with
   | false=>rfl
   | true=>rw [Qj h1];rfl)
 exact h.imp (fun {a b} hab=>by simpa using hab)
theorem sortS_perm (l:Ab):(Yv l).Perm l:=List.mergeSort_perm _ _
def sdq (p:ByteArray):Ab→Ab
 | []=>[]
 | y::r=>if y=p then sdq p r else y::sdq y r
def sdd:Ab→Ab
 | []=>[]
 | x::r=>x::sdq x r
theorem sdq_snoc:∀ (m:Ab) (p y:ByteArray),sdq p (m++[y])=if y=(m.getLast?).getD p then sdq p m else sdq p m++[y]
 | [],p,y=>by
  by_cases h:y=p <;> simp [sdq,h]
 | x::m,p,y=>by
  rw [List.cons_append,sdq,sdq,sdq_snoc m,sdq_snoc m]
  have hl:((x::m).getLast?).getD p=(m.getLast?).getD x:=by
   rw [List.getLast?_cons];cases m.getLast? <;> rfl
  rw [hl];by_cases h:x=p
  ·rw [Ad h,Ad h,h]
  ·rw [Ac h,Ac h];split <;> rfl
theorem sdd_snoc {m:Ab} {x y:ByteArray} (hx:m.getLast? = some x):sdd (m++[y])=if y=x then sdd m else sdd m++[y]:=by
 cases m with
 | nil=>cases hx
 | cons z m =>
  rw [List.cons_append,sdd,sdd,sdq_snoc];rw [List.getLast?_cons] at hx
  have:(m.getLast?).getD z=x:=by
   cases h:m.getLast? with
   | none=>rw [h] at hx;cases hx;rfl
   | some w=>rw [h] at hx;cases hx;rfl
  rw [this];split <;> rfl
theorem slast_at {l:Ab} (h:0 < l.length):l.getLast? = some l[l.length - 1]:=by
 rw [List.getLast?_eq_getElem?,A3 (by omega)]
theorem sdd_take {l:Ab} {k:Nat} (h:k < l.length) (h0:0 < k):sdd (l.take (k+1))=if l[k]=l[k - 1] then sdd (l.take k) else sdd (l.take k)++[l[k]]:=by
 rw [As h];refine sdd_snoc ?_;have hlen:(l.take k).length=k:=by rw [Bl];omega
 rw [slast_at (by omega),Ew]
 congr 2;omega
theorem sdd_none {l:Ab}:∀ k,k≤l.length→(∀ j (h:j < l.length),0 < j→j < k→l[j]≠l[j - 1])→sdd (l.take k)=l.take k
 | 0,_,_=>by rw [G6];rfl
 | 1,h1,_=>by
  cases l with
  | nil=>rfl
  | cons x l=>simp [sdd,sdq]
 | k+2,hk,h=>by
  rw [sdd_take (by omega) (by omega),Ac (h (k+1) (by omega) (by omega) (by omega)),sdd_none (k+1) (by omega) (fun j hj h1 h2=>h j hj h1 (by omega))]
  rw [← As]
def scG (l:Ab) (k:Nat) (v:ByteArray):Option Ab:=if 0 < k∧l[k - 1]? = some v then some (sdd l) else Option.none
theorem sc2_f {l:Ab} (hl:l.length≤100000) {k:Nat} (hk:k < l.length) (h0:0 < k) (hd:sdd (l.take (k+1))=l.take k) :
  ∃ r,C7 (fun s=>Cw.l2 (k:Int) ((l.length:Int) - k) s.1 s.2.1 s.2.2) (1,(k:Int),l)=some r∧∃ p:Nat,r.1=p∧p≤r.2.length∧r.2.length=l.length∧r.2.take p=sdd l:=by
 refine inv_loopE (f:=fun s=>Cw.l2 (k:Int) ((l.length:Int) - k) s.1 s.2.1 s.2.2) 1 (l.length - k) (by omega)
  (fun j t=>t.2.length=l.length∧∃ p:Nat,t.1=p∧p≤k+j - 1∧t.2.take p=sdd (l.take (k+j))∧t.2.drop (k+j - 1)=l.drop (k+j - 1)) _ ?_ ?_ ((k:Int),l) ⟨rfl,k,rfl,by omega,hd.symm,rfl⟩
 ·rintro j ⟨_,t⟩ hj1 hj ⟨ht,p,hp,hpk,htake,hdrop⟩;simp only at ht hp htake hdrop;subst hp;left;have hkj:k+j < l.length:=by omega
  have g1:t[k+j]'(by omega)=l[k+j]:=by
   have h1:=D3 (xs:=t) (i:=k+j - 1) (j:=1) (h:=by rw [Cd];omega)
   have h2:=D3 (xs:=l) (i:=k+j - 1) (j:=1) (h:=by rw [Cd];omega)
   have e:k+j - 1+1=k+j:=by omega
   simp only [hdrop,e] at h1 h2;rw [← h1,← h2]
  have g2:t[k+j - 1]'(by omega)=l[k+j - 1]:=by
   have h1:=D3 (xs:=t) (i:=k+j - 1) (j:=0) (h:=by rw [Cd];omega)
   have h2:=D3 (xs:=l) (i:=k+j - 1) (j:=0) (h:=by rw [Cd];omega)
   simp only [hdrop,Eg] at h1 h2;rw [← h1,← h2]
  have a1:atA? t (k:Int) ((l.length:Int) - k) (j:Int)=some l[k+j]:=by
   unfold atA?;rw [Ad (by omega),show ((k:Int)+(j:Int))=((k+j:Nat):Int) by omega,Bg (by omega),g1]
  have a2:atA? t (k:Int) ((l.length:Int) - k) ((j:Int) - 1)=some l[k+j - 1]:=by
   unfold atA?;rw [Ad (by omega),show ((k:Int)+((j:Int) - 1))=((k+j - 1:Nat):Int) by omega,Bg (by omega),g2]
  unfold Cw.l2;simp only;rw [Al,Ad (by omega),a1,Aa,Br (by omega) (by omega),Aa,a2,Aa,Lm]
  have hdd:=sdd_take (l:=l) (k:=k+j) hkj (by omega)
  unfold Cw.j4;by_cases hc:l[k+j]=l[k+j - 1]
  ·rw [Ad hc,Br (by omega) (by omega),Aa]
   rw [Ad hc] at hdd;refine ⟨_,rfl,ht,p,rfl,by omega,?_,?_⟩
   ·rw [show k+(j+1)=k+j+1 by omega,hdd];exact htake
   ·have e:k+(j+1) - 1=(k+j - 1)+1:=by omega
    rw [e,← Gu,← Gu,hdrop]
  ·rw [Ac hc];rw [Ac hc] at hdd;simp only [Aa];rw [Bg (by omega),Aa,Br (by omega) (by omega),Aa,Br (by omega) (by omega),Aa,Ay]
   refine ⟨_,rfl,by simpa using ht,p+1,by omega,by omega,?_,?_⟩
   ·rw [show k+(j+1)=k+j+1 by omega,hdd,← htake]
    have hpl:p < t.length:=by omega
    rw [As (by simpa using hpl),List.getElem_set_self,List.take_set_of_le (B7 _)]
   ·have e:k+(j+1) - 1=(k+j - 1)+1:=by omega
    rw [e,List.drop_set_of_lt (by omega),← Gu,← Gu,hdrop]
 ·rintro ⟨_,t⟩ ⟨ht,p,hp,hpk,htake,hdrop⟩;simp only at ht hp htake hdrop;subst hp;unfold Cw.l2;simp only;rw [Al,Ac (by omega)]
  refine ⟨_,rfl,p,rfl,?_,ht,?_⟩
  ·simp only;omega
  ·have e:k+(l.length - k)=l.length:=by omega
   rw [e,Bw] at htake;exact htake
theorem scompact_f {l:Ab} (hl:l.length≤100000):Cw l=some (sdd l):=by
 unfold Cw;rw [Al];by_cases h2:l.length < 2
 ·rw [Ad (by omega)]
  congr 1
  match l,h2 with
  | [],_=>rfl
  | [x],_=>rfl
  | _::_::_,h=>simp at h;omega
 rw [Ac (by omega)]
 have hg:∀ k (h:k < l.length),scG l k l[k]=if 0 < k∧l[k - 1]=l[k] then some (sdd l) else Option.none:=by
  intro k h;unfold scG;rw [A3 (by omega)]
  simp only [Option.some.injEq]
 have hi:=scn_iter (f:=fun s=>Cw.l1 l s) (dn:=Sum.inl) (e:=.inr ()) 1 l (scG l) ?_ ?_ (l.drop 1) 1 rfl (by omega) (B7 _) (fun j hj h=>by
  have:j=0:=by omega
  subst this;unfold scG;rw [Ac (by omega)])
 ·rw [show ((1:Nat):Int)=1 from rfl] at hi;rw [hi,Aa];cases hs:scn (scG l) 1 (l.drop 1) with
  | some r =>
   obtain ⟨j,hj,he⟩:=scn_some hs;unfold scG at he;split at he
   ·cases he;rfl
   ·cases he
  | none =>
   show Cw.j1 l=_;unfold Cw.j1
   have:=sdd_none (l:=l) l.length (B7 _) (fun j hj h0 _=>by
    have:=scn_none.1 hs (j - 1) (by rw [Cd];omega)
    rw [D3] at this;have e:1+(j - 1)=j:=by omega
    simp only [e] at this;rw [hg j hj] at this;split at this
    ·cases this
    ·rename_i hn
     exact fun h=>hn ⟨h0,h.symm⟩)
   rw [Bw] at this;rw [this]
 ·intro k h hk0 hp;rw [hg k h]
  ·unfold Cw.l1;rw [Al,Ad (by omega),Bg h,Aa,Br (by omega) (by omega),Aa,show ((k:Int) - 1)=((k - 1:Nat):Int) by omega,Bg (by omega),Aa,Al]
   by_cases hc:l[k]=l[k - 1]
   ·rw [Ad hc,Ad ⟨by omega,hc.symm⟩]
    have hd:sdd (l.take (k+1))=l.take k:=by
     rw [sdd_take h (by omega),Ad hc,sdd_none k (by omega)]
     intro j hj h0 hjk;have:=hp j hj hjk;rw [hg j hj] at this;split at this
     ·cases this
     ·rename_i hn
      exact fun h=>hn ⟨h0,h.symm⟩
    obtain ⟨r,e,p,hr1,hpl,hlen,htk⟩:=sc2_f hl h (by omega) hd
    have e1:als? l (k:Int)=some ((l.length:Int) - k):=by
     unfold als?;rw [Ad (by omega)]
    rw [e1,Aa,e,Aa];unfold Cw.j3
    have e2:als? r.2 r.1=some ((r.2.length:Int) - p):=by
     unfold als?;rw [hr1,Ad (by omega)]
    rw [e2,Aa]
    have e3:clr? r.2 r.1 ((r.2.length:Int) - p) ByteArray.empty=some (r.2.take p++List.replicate ((r.2.length:Int) - p).toNat ByteArray.empty):=by
     unfold clr?;rw [hr1,Ad (by omega),Ay]
    rw [e3,Aa,hr1,Tr (by omega) (by omega) (by simp;omega),Aa]
    simp only [Ay,Int.toNat_zero,List.drop_zero];rw [Cm (by simp;omega),List.take_take,Nat.min_self,htk]
   ·rw [Ac hc,Ac (fun h=>hc h.2.symm)];unfold Cw.j2;rw [Br (by omega) (by omega),Aa];rfl
 ·unfold Cw.l1;rw [Al,Ac (by omega)]
theorem sdq_spec:∀ (l:Ab) (p:ByteArray),(∀ y∈l,sLt y p=false)→l.Pairwise (fun x y=>sLt y x=false) →
  (sdq p l).Pairwise (fun x y=>sLt x y=true)∧(∀ z∈sdq p l,sLt p z=true)∧∀ z,z∈sdq p l↔z∈l∧z≠p
 | [],p,_,_=>by simp [sdq]
 | y::r,p,hge,hs=>by
  rw [D9] at hs;rw [sdq];by_cases h:y=p
  ·rw [Ad h];obtain ⟨h1,h2,h3⟩:=sdq_spec r p (fun z hz=>hge z (by simp [hz])) hs.2
   refine ⟨h1,h2,fun z=>?_⟩;rw [h3,Bf];constructor
   ·rintro ⟨a,b⟩;exact ⟨.inr a,b⟩
   ·rintro ⟨rfl | a,b⟩
    ·exact absurd h b
    ·exact ⟨a,b⟩
  ·rw [Ac h];obtain ⟨h1,h2,h3⟩:=sdq_spec r y (fun z hz=>hs.1 z hz) hs.2
   have hpy:sLt p y=true:=by
    rcases sLt_not (hge y (by simp)) with h4 | h4
    ·exact absurd h4 h
    ·exact h4
   refine ⟨D9.2 ⟨h2,h1⟩,?_,fun z=>?_⟩
   ·intro z hz;rcases Bf.1 hz with rfl | hz
    ·exact hpy
    ·exact Xx hpy (h2 z hz)
   ·rw [Bf,h3,Bf];constructor
    ·rintro (rfl | ⟨a,b⟩)
     ·exact ⟨.inl rfl,h⟩
     ·refine ⟨.inr a,fun e=>?_⟩;have h4:=h2 z ((h3 z).2 ⟨a,b⟩);rw [e,Qj hpy] at h4;cases h4
    ·rintro ⟨rfl | a,b⟩
     ·exact .inl rfl
     ·by_cases e:z=y
      ·exact .inl e
      ·exact .inr ⟨a,e⟩
theorem sdd_spec {l:Ab} (hs:l.Pairwise (fun x y=>sLt y x=false)):SAsc (sdd l)∧∀ z,z∈sdd l↔z∈l:=by
 cases l with
 | nil=>simp [sdd,SAsc]
 | cons x r =>
  rw [D9] at hs;obtain ⟨h1,h2,h3⟩:=sdq_spec r x hs.1 hs.2;rw [sdd];refine ⟨D9.2 ⟨h2,h1⟩,fun z=>?_⟩;rw [Bf,h3,Bf];constructor
  ·rintro (rfl | ⟨a,_⟩)
   ·exact .inl rfl
   ·exact .inr a
  ·rintro (rfl | a)
   ·exact .inl rfl
   ·by_cases e:z=x
    ·exact .inl e
    ·exact .inr ⟨a,e⟩
theorem sdq_len:∀ (l:Ab) (p:ByteArray),(sdq p l).length≤l.length
 | [],_=>B7 _
 | y::r,p=>by
  rw [sdq];split
  ·have:=sdq_len r p;simp only [Eb];omega
  ·have:=sdq_len r y;simp only [Eb];omega
theorem sdd_len (l:Ab):(sdd l).length≤l.length:=by
 cases l with
 | nil=>exact B7 _
 | cons x r=>have:=sdq_len r x;simp only [sdd,Eb];omega
def ksort (l:Ab):Ab:=sdd (Yv l)
theorem ksort_asc (l:Ab):SAsc (ksort l):=(sdd_spec (sortS_pw l)).1
theorem ksort_mem (l:Ab) (z:ByteArray):z∈ksort l↔z∈l:=by
 unfold ksort;rw [(sdd_spec (sortS_pw l)).2,(sortS_perm l).mem_iff]
theorem ksort_len (l:Ab):(ksort l).length≤l.length:=by
 have:=sdd_len (Yv l);rw [(sortS_perm l).length_eq] at this;exact this
end Go.Dc
set_option linter.unusedSimpArgs false
set_option linter.unusedVariables false
set_option maxRecDepth 4000
namespace Go.Dc
open Go
structure Side (t:Ab) (hs:A7):Prop where
 chn:Chn (-1) hs
 ins:∀ h∈hs,0≤h.At∧h.At+h.Old.length≤t.length∧h.New.length≤120∧∀ s∈h.New,Xp s
 len:hs.length≤130
theorem Wm {a b:Ab} (ha:Kb a) (hb:Kb b):Side a (H3 a b):=by
 have h0:ScI a b ([],0,false) 0 0:=⟨rfl,B7 _,by simp [preS,endS],fun h=>by simp at h,fun _=>.inl rfl,trivial,fun h hh=>by cases hh⟩
 have h:=scr_ok _ 0 0 _ rfl (Cs _) (Cs _) h0;rw [List.drop_zero,List.drop_zero] at h;obtain ⟨_,g2⟩:=good_of ha hb (H3 a b) (-1) h.chn h.each;have hlen:=g2 (by omega) (by omega)
 refine ⟨h.chn,fun x hx=>?_,by omega⟩
 obtain ⟨p,q,h1,h2,h3,h4,h5,_⟩:=h.each x hx;have:=hb.1;refine ⟨by omega,by omega,by omega,fun s hs=>?_⟩
 rw [h5] at hs;exact hb.2 s (Eo (C4 hs))
theorem Side.sm {t:Ab} (ht:t.length≤120) {hs:A7} (h:Side t hs):Sm 120 hs:=⟨h.len,fun x hx=>by
 obtain ⟨h1,h2,h3,_⟩:=h.ins x hx;exact ⟨by omega,by omega,by omega,h3⟩⟩
abbrev RX:=RangeX_commute
def rx (h:Hunk):RX:=⟨h.At,h.At+h.Old.length,[]⟩
def L2 (x y:RX):Prop:=x.Low < y.Low∨(x.Low=y.Low∧x.High < y.High)
def RB (n:Nat) (r:RX):Prop:=0≤r.Low∧r.Low≤r.High∧r.High≤n∧r.Growth=[]
theorem s2_f {n:Nat} (hn:n≤120) {x y:RX} (hx:RB n x) (hy:RB n y):∃ r,G7 x y=some r∧(r < 0↔L2 x y):=by
 obtain ⟨x1,x2,x3,_⟩:=hx;obtain ⟨y1,y2,y3,_⟩:=hy;unfold G7 L2;rw [Lm];by_cases h:x.Low=y.Low
 ·rw [Ad h,Br (by omega) (by omega),Aa]
  exact ⟨_,rfl,by omega⟩
 ·rw [Ac h,Br (by omega) (by omega),Aa]
  exact ⟨_,rfl,by omega⟩
theorem s2_lt {n:Nat} (hn:n≤120) {x y:RX} (hx:RB n x) (hy:RB n y):ltM G7 x y=true↔L2 x y:=by
 obtain ⟨r,e,h⟩:=s2_f hn hx hy;unfold ltM;rw [e,Option.getD_some,Bs];exact h
theorem s2_ge {n:Nat} (hn:n≤120) {x y:RX} (hx:RB n x) (hy:RB n y):ltM G7 x y=false↔¬ L2 x y:=by
 rw [← s2_lt hn hx hy];simp
theorem fitX {n:Nat} (hn:n≤120) {l:List RX} (h:∀ x∈l,RB n x):CmpFit G7 l where
 some_:=fun x hx y hy=>by obtain ⟨r,e,_⟩:=s2_f hn (h x hx) (h y hy);exact ⟨r,e⟩
 irrefl:=fun x hx=>(s2_ge hn (h x hx) (h x hx)).2 (by unfold L2;omega)
 trans:=fun x hx y hy z hz h1 h2=>(s2_lt hn (h x hx) (h z hz)).2 (by
  have h1:=(s2_lt hn (h x hx) (h y hy)).1 h1;have h2:=(s2_lt hn (h y hy) (h z hz)).1 h2;unfold L2 at *;omega)
 ntrans:=fun x hx y hy z hz h1 h2=>(s2_ge hn (h x hx) (h z hz)).2 (by
  have h1:=(s2_ge hn (h x hx) (h y hy)).1 h1;have h2:=(s2_ge hn (h y hy) (h z hz)).1 h2;unfold L2 at *;omega)
 anti:=fun x hx y hy h1 h2=>by
  have h1:=(s2_ge hn (h x hx) (h y hy)).1 h1;have h2:=(s2_ge hn (h y hy) (h x hx)).1 h2;have e1:=(h x hx).2.2.2;have e2:=(h y hy).2.2.2;obtain ⟨a,b,c⟩:=x;obtain ⟨a',b',c'⟩:=y;simp only at e1 e2;unfold L2 at h1 h2;simp only at h1 h2;have:a=a'∧b=b':=by omega
  rw [this.1,this.2,e1,e2]
def touchB (a b:RX):Bool:=decide (a.High ≥ b.Low) && decide (b.High ≥ a.Low)
def Vw (out:List RX) (r:RX):List RX:=match out.getLast? with
 | Option.none=>[r]
 | some l=>if touchB l r=true then out.dropLast++[⟨l.Low,max l.High r.High,l.Growth⟩] else out++[r]
theorem touch_x (a b:RX):Tl a b=some (touchB a b):=by
 unfold Tl touchB;by_cases h:a.High ≥ b.Low <;> simp [h]
theorem rstep_len (out:List RX) (r:RX):(Vw out r).length≤out.length+1:=by
 unfold Vw;split
 ·simp
 ·split <;> simp
theorem fold_len:∀ (l out:List RX),(l.foldl Vw out).length≤out.length+l.length
 | [],out=>by simp
 | r::l,out=>by
  have:=fold_len l (Vw out r);have:=rstep_len out r;rw [Hg,Eb];omega
theorem rg_loop {ys:List RX} (hl:ys.length≤1000):C7 (fun s=>Ga.l1 ys s.1 s.2) (0,[])=some (ys.foldl Vw []):=by
 obtain ⟨r,e,rfl⟩:=La (f:=fun s=>Ga.l1 ys s.1 s.2) ys.length (fun k s=>s=(ys.take k).foldl Vw []) (fun r=>r=ys.foldl Vw []) (by
  rintro k s hk hs;have hlen:=fold_len (ys.take k) [];rw [← hs,Bl,Ey] at hlen
  have hj:∀ w,Ga.j2 (k:Int) w=some (.next (((k+1:Nat):Int),w)):=by
   intro w;unfold Ga.j2;rw [Br (by omega) (by omega),Aa];rfl
  refine ⟨Vw s ys[k],?_,by rw [As hk,Km,← hs];rfl⟩
  unfold Ga.l1;simp only;rw [Al,Ad (by omega),Bg hk,Aa]
  unfold Vw;rcases Ld s with rfl | ⟨o,l,rfl⟩
  ·rw [Al,Ac (by simp),Aa,Ac Ae,Dp (by simp),Aa,hj];rfl
  ·rw [Ma] at *;rw [Aj,Ak] at *;have e1:((o.length+1:Nat):Int) - 1=(o.length:Int):=by omega
   have e2:at? (o++[l]) (o.length:Int)=some l:=by rw [Bg (by simp)];simp
   rw [Al,Ad (by omega),Br (by omega) (by omega),Aa,e1,e2,Aa,touch_x,Aa,Aa]
   simp only [Nk,Lp,Tx,Mm];cases ht:touchB l ys[k]
   ·rw [Ac Ae,Ac Ae,Dp (by simp;omega),Aa,hj]
   ·rw [Ad rfl,Ad rfl];simp only [e2,Aa];rw [hj,Ay]
    simp) (by
  rintro s rfl;unfold Ga.l1;simp only;rw [Al,Ac (by omega),Bw]
  exact ⟨_,rfl,rfl⟩) [] rfl
 exact e
noncomputable def regF (P Q:A7):List RX:=((P.map rx++Q.map rx).mergeSort fun x y=>!ltM G7 y x).foldl Vw []
theorem rb_of {t:Ab} {hs:A7} (h:Side t hs):∀ r∈hs.map rx,RB t.length r:=by
 intro r hr;obtain ⟨x,hx,rfl⟩:=G9.1 hr;obtain ⟨h1,h2,_⟩:=h.ins x hx;exact ⟨h1,by unfold rx;simp only;omega,h2,rfl⟩
theorem rb_both {t:Ab} {P Q:A7} (hP:Side t P) (hQ:Side t Q):∀ r∈P.map rx++Q.map rx,RB t.length r:=by
 intro r hr;rcases Az.1 hr with hr | hr
 ·exact rb_of hP r hr
 ·exact rb_of hQ r hr
theorem regions_f {t:Ab} (ht:t.length≤120) {P Q:A7} (hP:Side t P) (hQ:Side t Q):Ga ⟨P⟩ ⟨Q⟩=some (regF P Q):=by
 have h1:=hP.len;have h2:=hQ.len;have hm:∀ l:A7,(l.map rng).map Nl=l.map rx:=fun l=>by rw [List.map_map];rfl
 unfold Ga;rw [oldRanges_f (by omega) ⟨P⟩ (hP.sm ht),Aa,oldRanges_f (by omega) ⟨Q⟩ (hQ.sm ht),Aa]
 simp only;rw [hm,hm,Dp (by simp;omega),Aa,sortM_eq (fitX ht (rb_both hP hQ)) (by simp;omega),Aa,rg_loop (Bx (Nat.le_of_eq (List.mergeSort_perm _ _).length_eq) (by rw [Aj,C1,C1];omega)),Aa]
 rfl
structure Rgs (n:Nat) (all out:List RX):Prop where
 sep:out.Pairwise fun a b=>a.High < b.Low
 bd:∀ r∈out,0≤r.Low∧r.Low≤r.High∧r.High≤n
 cov:∀ a∈all,∃ r∈out,r.Low≤a.Low∧a.High≤r.High
 len:out.length≤all.length
theorem rgs_fold {n:Nat}:∀ (rest pre out:List RX),Rgs n pre out→(∀ b∈rest,RB n b)→(∀ l,out.getLast? = some l→∀ b∈rest,l.Low≤b.Low)→rest.Pairwise (fun x y=>x.Low≤y.Low)→Rgs n (pre++rest) (rest.foldl Vw out)
 | [],pre,out,h,_,_,_=>by simpa using h
 | r::rest,pre,out,h,hb,hL,hp=>by
  rw [D9] at hp;obtain ⟨r1,r2,r3,_⟩:=hb r Ce;have hb':∀ b∈rest,RB n b:=fun b hb2=>hb b (Bk _ hb2);have hlen:=h.len;rw [Hg,show pre++r::rest=(pre++[r])++rest from by simp]
  rcases Ld out with rfl | ⟨o,l,rfl⟩
  ·refine rgs_fold rest _ _ ⟨Hs _ _,?_,?_,by have:(Vw [] r).length=1:=rfl;rw [Aj,Ak];omega⟩ hb' ?_ hp.2
   ·intro x hx;rw [show Vw [] r=[r] from rfl,A2] at hx;subst hx;exact ⟨r1,r2,r3⟩
   ·intro a ha;rcases Az.1 ha with ha | ha
    ·obtain ⟨x,hx,_⟩:=h.cov a ha;cases hx
    ·rw [A2] at ha;subst ha;exact ⟨a,by rw [show Vw [] a=[a] from rfl];simp,Int.le_refl _,Int.le_refl _⟩
   ·intro l hl b hb2;rw [show Vw [] r=[r] from rfl,Lp] at hl;cases hl;exact hp.1 b hb2
  ·rw [Ma] at *;have hgl:(o++[l]).getLast? = some l:=by simp
   have hlr:=hL l hgl r Ce;obtain ⟨l1,l2,l3⟩:=h.bd l (by simp)
   have hsep:=h.sep;rw [Gy] at hsep
   have est:Vw (o++[l]) r=if touchB l r=true then o++[⟨l.Low,max l.High r.High,l.Growth⟩] else o++[l]++[r]:=by
    unfold Vw;rw [hgl];simp only [Mm]
   rw [Aj,Ak] at hlen;rw [est];by_cases ht:touchB l r=true
   ·rw [Ad ht];refine rgs_fold rest _ _ ⟨?_,?_,?_,by simp;omega⟩ hb' ?_ hp.2
    ·rw [Gy];refine ⟨hsep.1,Hs _ _,fun x hx y hy=>?_⟩;rw [A2] at hy;subst hy;exact hsep.2.2 x hx l (by simp)
    ·intro x hx;rcases Az.1 hx with hx | hx
     ·exact h.bd x (D4 _ hx)
     ·rw [A2] at hx;subst hx;simp only;omega
    ·intro a ha;rcases Az.1 ha with ha | ha
     ·obtain ⟨x,hx,c1,c2⟩:=h.cov a ha;rcases Az.1 hx with hx | hx
      ·exact ⟨x,D4 _ hx,c1,c2⟩
      ·rw [A2] at hx;subst hx;exact ⟨_,Es _ (A2.2 rfl),c1,by simp only;omega⟩
     ·rw [A2] at ha;subst ha;exact ⟨_,Es _ (A2.2 rfl),hlr,by simp only;omega⟩
    ·intro q hq b hb2;simp only [Nk,Lp,Tx] at hq;cases hq;have:=hp.1 b hb2;simp only;omega
   ·rw [Ac ht]
    have hgap:l.High < r.Low:=by
     unfold touchB at ht;simp only [Cv,Bs,not_and] at ht;by_cases h1:l.High ≥ r.Low
     ·exact absurd (show r.High ≥ l.Low by omega) (ht h1)
     ·omega
    refine rgs_fold rest _ _ ⟨?_,?_,?_,by simp;omega⟩ hb' ?_ hp.2
    ·rw [Gy];refine ⟨h.sep,Hs _ _,fun x hx y hy=>?_⟩;rw [A2] at hy;subst hy;rcases Az.1 hx with hx | hx
     ·have:=hsep.2.2 x hx l (by simp);omega
     ·rw [A2] at hx;subst hx;exact hgap
    ·intro x hx;rcases Az.1 hx with hx | hx
     ·exact h.bd x hx
     ·rw [A2] at hx;subst hx;exact ⟨r1,r2,r3⟩
    ·intro a ha;rcases Az.1 ha with ha | ha
     ·obtain ⟨x,hx,c⟩:=h.cov a ha;exact ⟨x,D4 _ hx,c⟩
     ·rw [A2] at ha;subst ha;exact ⟨a,Es _ (A2.2 rfl),Int.le_refl _,Int.le_refl _⟩
    ·intro q hq b hb2;simp only [Nk,Lp,Tx] at hq;cases hq;exact hp.1 b hb2
theorem regF_ok {t:Ab} (ht:t.length≤120) {P Q:A7} (hP:Side t P) (hQ:Side t Q):Rgs t.length ((P.map rx++Q.map rx).mergeSort fun x y=>!ltM G7 y x) (regF P Q):=by
 have hperm:=List.mergeSort_perm (P.map rx++Q.map rx) fun x y=>!ltM G7 y x;have hpw:=sortM_pw (fitX ht (rb_both hP hQ));have hrb:=rb_both hP hQ;unfold regF;generalize (P.map rx++Q.map rx).mergeSort (fun x y=>!ltM G7 y x)=ys at hperm hpw;have hb:∀ b∈ys,RB t.length b:=fun b hb=>hrb b (hperm.mem_iff.1 hb)
 have:=rgs_fold (n:=t.length) ys [] [] ⟨O3,by simp,by simp,by simp⟩ hb (by simp) (by
  rw [B0] at hpw ⊢;intro i j hi hj hij;have h:=(s2_ge ht (hb _ (Ar hj)) (hb _ (Ar hi))).1 (hpw i j hi hj hij);unfold L2 at h;omega)
 simpa using this
theorem reg_len {t:Ab} (ht:t.length≤120) {P Q:A7} (hP:Side t P) (hQ:Side t Q):(regF P Q).length≤260:=by
 have h1:=(regF_ok ht hP hQ).len;have h2:=(List.mergeSort_perm (P.map rx++Q.map rx) fun x y=>!ltM G7 y x).length_eq;have:=hP.len;have:=hQ.len;rw [Aj,C1,C1] at h2;omega
theorem reg_cov {t:Ab} (ht:t.length≤120) {P Q:A7} (hP:Side t P) (hQ:Side t Q):(∀ h∈P,∃ r∈regF P Q,r.Low≤h.At∧h.At+h.Old.length≤r.High)∧(∀ h∈Q,∃ r∈regF P Q,r.Low≤h.At∧h.At+h.Old.length≤r.High):=by
 have h1:=(regF_ok ht hP hQ).cov;have hperm:=List.mergeSort_perm (P.map rx++Q.map rx) fun x y=>!ltM G7 y x;exact ⟨fun h hh=>h1 (rx h) (hperm.mem_iff.2 (D4 _ (Kp hh))),fun h hh=>h1 (rx h) (hperm.mem_iff.2 (Es _ (Kp hh)))⟩
def inB (r:RX) (h:Hunk):Bool:=decide (r.Low≤h.At) && decide (h.At+h.Old.length≤r.High)
def wi (P:A7) (r:RX):A7:=P.filter (inB r)
theorem within_f {t:Ab} (ht:t.length≤120) {P:A7} (hP:Side t P) (r:RX):Hk ⟨P⟩ r=some (wi P r):=by
 have hl:=hP.len;unfold Hk
 obtain ⟨q,e,rfl⟩:=La (f:=fun s=>Hk.l1 ⟨P⟩ r s.1 s.2) P.length (fun k s=>s=wi (P.take k) r) (fun q=>q=wi P r) (by
  rintro k s hk rfl;have hlen:(wi (P.take k) r).length≤k:=Bx (Ks _ _) (by rw [Bl];omega)
  have hj:∀ w,Hk.j2 (k:Int) w=some (.next (((k+1:Nat):Int),w)):=by
   intro w;unfold Hk.j2;rw [Br (by omega) (by omega),Aa];rfl
  obtain ⟨h1,h2,_⟩:=hP.ins _ (Ar hk);refine ⟨_,?_,rfl⟩
  have e:wi (P.take (k+1)) r=wi (P.take k) r++if inB r P[k]=true then [P[k]] else []:=by
   unfold wi;rw [As hk,M0];cases h:inB r P[k] <;> simp [h]
  unfold Hk.l1;simp only;rw [Al,Ad (by omega),Bg hk,Aa,end_f _ (by omega) (by omega) (by omega),Aa]
  have ec:(if decide (P[k].At ≥ r.Low)=true then some (decide (P[k].At+(P[k].Old.length:Int)≤r.High)) else some false)=some (inB r P[k]):=by
   unfold inB;by_cases h:r.Low≤P[k].At <;> simp [h]
  rw [ec,Aa,e];cases h:inB r P[k]
  ·rw [Ac Ae,Ac Ae,hj,Bh]
  ·rw [Ad rfl,Ad rfl,Dp (by rw [Ak];omega),Aa,hj]) (by
  rintro s rfl;unfold Hk.l1;simp only;rw [Al,Ac (by omega),Bw]
  exact ⟨_,rfl,rfl⟩) [] rfl
 rw [e,Aa]
def rawIn (t:Ab):A7→Nat→Nat→Ab
 | [],lo,hi=>(t.drop lo).take (hi - lo)
 | h::r,lo,hi=>(t.drop lo).take (h.At.toNat - lo)++(h.New++rawIn t r (h.At.toNat+h.Old.length) hi)
def InR:A7→Nat→Nat→Prop
 | [],lo,hi=>lo≤hi
 | h::r,lo,hi=>(lo:Int)≤h.At∧InR r (h.At.toNat+h.Old.length) hi
theorem InR.le:∀ {hs:A7} {lo hi:Nat},InR hs lo hi→lo≤hi
 | [],_,_,h=>h
 | _::_,_,_,h=>by have:=InR.le h.2;have:=h.1;omega
theorem raw_in {t:Ab} (ht:t.length≤120) {hi:Nat} (hhi:hi≤t.length) (hs:A7) (hn:hs.length≤130) (hnew:∀ h∈hs,h.New.length≤120):∀ (rest:A7) (k lo:Nat) (out:Ab),hs.drop k=rest→InR rest lo hi→out.length≤k * 240→k≤130 →
  ∃ fin:Nat,fin≤hi∧∃ o,C7 (fun s=>E3.l1 hs t s.1 s.2.1 s.2.2) ((k:Int),out,(lo:Int))=some (o,(fin:Int))∧o++(t.drop fin).take (hi - fin)=out++rawIn t rest lo hi∧o.length≤131 * 240
 | [],k,lo,out,hk,hin,hout,hk2=>by
  have:=Kt hk;refine ⟨lo,hin,out,Bm ?_,rfl,by omega⟩
  unfold E3.l1;simp only;rw [Al,Ac (by omega)]
 | h::rest,k,lo,out,hk,hin,hout,hk2=>by
  obtain ⟨hlt,hh,hr⟩:=K9 hk;have hmem:h∈hs:=by rw [← hh];exact Ar hlt
  have h1:=hnew h hmem;obtain ⟨c1,c2⟩:=hin;have c3:=c2.le
  have e0:E3.l1 hs t (k:Int) out (lo:Int)=some (.next (((k+1:Nat):Int),out++(t.drop lo).take (h.At.toNat - lo)++h.New,((h.At.toNat+h.Old.length:Nat):Int))):=by
   unfold E3.l1;have hc:(((t.take h.At.toNat).drop lo):Ab)=(t.drop lo).take (h.At.toNat - lo):=by rw [List.take_drop];congr 2;omega
   rw [Al,Ad (by omega),Bg hlt,Aa,hh,Tr (by omega) (by omega) (by omega),Aa,Ay,hc]
   have l1:((t.drop lo).take (h.At.toNat - lo)).length≤120:=by simp;omega
   rw [Dp (by omega),Aa,Dp (by rw [Aj];omega),Aa,end_f h (by omega) (by omega) (by omega),Aa,Br (by omega) (by omega),Aa]
   have e7:h.At+(h.Old.length:Int)=((h.At.toNat+h.Old.length:Nat):Int):=by omega
   rw [e7];rfl
  obtain ⟨fin,f1,o,f2,f3,f4⟩:=raw_in ht hhi hs hn hnew rest (k+1) (h.At.toNat+h.Old.length) (out++(t.drop lo).take (h.At.toNat - lo)++h.New) hr c2 (by simp only [Aj,Bl,Cd];omega) (by omega)
  refine ⟨fin,f1,o,by rw [Bz (m:=fun s:Int×Ab×Int=>E3.l1 hs t s.1 s.2.1 s.2.2) e0];exact f2,?_,f4⟩
  rw [f3,rawIn];simp only [Am]
theorem RawIn_f {t:Ab} (ht:t.length≤120) {hs:A7} (hn:hs.length≤130) (hnew:∀ h∈hs,h.New.length≤120) {lo hi:Nat} (hhi:hi≤t.length) (hin:InR hs lo hi):E3 hs t (lo:Int) (hi:Int)=some (rawIn t hs lo hi):=by
 obtain ⟨fin,f1,o,f2,f3,f4⟩:=raw_in ht hhi hs hn hnew hs 0 lo [] rfl hin (by simp) (by omega)
 unfold E3;rw [show ((0:Nat):Int)=0 from rfl] at f2;rw [f2,Aa];unfold E3.j1;have hc:(((t.take hi).drop fin):Ab)=(t.drop fin).take (hi - fin):=by rw [List.take_drop];congr 2;omega
 rw [Tr (by omega) (by omega) (by omega),Aa,Ay,Ay,hc,Dp (by simp;omega),Aa,f3]
 rfl
theorem wi_in {r:RX} (h0:0≤r.Low):∀ (P:A7) (e:Int) (lo:Nat),Chn e P→(∀ h∈P,0≤h.At)→((lo:Int)≤e+1∨(lo:Int)≤r.Low)→(lo:Int)≤r.High→InR (wi P r) lo r.High.toNat
 | [],e,lo,_,_,_,hr=>by
  show lo≤_;omega
 | h::P,e,lo,hc,hp,hlo,hr=>by
  obtain ⟨c1,c2⟩:=hc;have hp0:=hp h Ce;have hp':∀ x∈P,0≤x.At:=fun x hx=>hp x (Bk _ hx);unfold wi;rw [Nt];cases hb:inB r h
  ·rw [Ac Ae];exact wi_in h0 P _ lo c2 hp' (by omega) hr
  ·rw [Ad rfl];unfold inB at hb;simp only [Cv,Bs] at hb;exact ⟨by omega,wi_in h0 P _ _ c2 hp' (by omega) (by omega)⟩
theorem rawIn_len (t:Ab):∀ (hs:A7) (lo hi:Nat),(∀ h∈hs,h.New.length≤120)→(rawIn t hs lo hi).length≤(hs.length+1) * (120+t.length)
 | [],lo,hi,_=>by rw [rawIn];simp;omega
 | h::hs,lo,hi,hn=>by
  have:=rawIn_len t hs (h.At.toNat+h.Old.length) hi fun x hx=>hn x (Bk _ hx);have:=hn h Ce;rw [rawIn,Aj,Aj,Eb,B8];have:((t.drop lo).take (h.At.toNat - lo)).length≤t.length:=by simp;omega
  omega
theorem rawIn_line {t:Ab} (ht:∀ s∈t,Xp s):∀ (hs:A7) (lo hi:Nat),(∀ h∈hs,∀ s∈h.New,Xp s)→∀ s∈rawIn t hs lo hi,Xp s
 | [],lo,hi,_,s,hs=>by rw [rawIn] at hs;exact ht s (Eo (C4 hs))
 | h::hs,lo,hi,hn,s,hs2=>by
  rw [rawIn,Az,Az] at hs2;rcases hs2 with h1 | h1 | h1
  ·exact ht s (Eo (C4 h1))
  ·exact hn h Ce s h1
  ·exact rawIn_line ht hs _ _ (fun x hx=>hn x (Bk _ hx)) s h1
end Go.Dc
set_option linter.unusedSimpArgs false
set_option linter.unusedVariables false
set_option maxRecDepth 4000
namespace Go.Dc
open Go
def Qf (l:Ab):Chunk:=⟨false,l,[],[],[]⟩
def Qa (out:Bo) (l:Ab):Bo :=
 if l=[] then out else match out.getLast? with
 | Option.none=>[Qf l]
 | some c=>if c.Conflict=true then out++[Qf l] else out.dropLast++[{ c with Lines:=c.Lines++l }]
structure Csm (k B:Nat) (out:Bo):Prop where
 len:out.length≤k
 lin:∀ c∈out,c.Lines.length≤B
 oth:∀ c∈out,c.Base.length≤40000∧c.Left.length≤40000∧c.Right.length≤40000
theorem Csm.le {k B k' B':Nat} {o:Bo} (h:Csm k B o) (hk:k≤k') (hB:B≤B'):Csm k' B' o :=
 ⟨Bx h.len hk,fun c hc=>Bx (h.lin c hc) hB,h.oth⟩
theorem plain_f {k B:Nat} {out:Bo} (h:Csm k B out) (hk:k≤100000) (hB:B≤100000000) {l:Ab} (hl:l.length≤40000):Gj ⟨out⟩ l=some ⟨Qa out l⟩∧Csm (k+1) (B+l.length) (Qa out l):=by
 have hlen:=h.len;unfold Gj Qa;by_cases h0:l=[]
 ·subst h0;rw [Ad (by simp),Ad rfl]
  exact ⟨rfl,by omega,fun c hc=>by have:=h.lin c hc;omega,h.oth⟩
 rw [Ac (by simpa using h0),Ac h0]
 have hj:∀ (o:Bo) (c:Chunk),o.length≤100000→c.Lines.length≤100000000→Gj.j1 l (o++[c])=some ⟨o++[{ c with Lines:=c.Lines++l }]⟩:=by
  intro o c ho hc;unfold Gj.j1;have e1:(((o++[c]).length:Nat):Int) - 1=(o.length:Int):=by rw [Aj,Ak];omega
  have e2:at? (o++[c]) (o.length:Int)=some c:=by rw [Bg (by simp)];simp
  rw [e1,Br (by omega) (by omega),Aa,e2,Aa,Dp (by omega),Aa,Aa,Ay]
  simp
 rcases Ld out with rfl | ⟨o,c,rfl⟩
 ·rw [Ad (by simp),Aa,Ad rfl,Dp (by simp),Aa,hj [] _ (by simp) (by simp)]
  refine ⟨rfl,by simp,fun c hc=>?_,fun c hc=>?_⟩
  ·rw [show (([]:Bo).getLast?)=Option.none from rfl] at hc;rw [A2] at hc;subst hc;simp only [Qf];omega
  ·rw [show (([]:Bo).getLast?)=Option.none from rfl] at hc;rw [A2] at hc;subst hc;simp [Qf]
 ·rw [Ma] at *;rw [Aj,Ak] at *;have e1:((o.length+1:Nat):Int) - 1=(o.length:Int):=by omega
  have e2:at? (o++[c]) (o.length:Int)=some c:=by rw [Bg (by simp)];simp
  have hc:=h.lin c (by simp)
  have hco:=h.oth c (by simp)
  have hgl:(o++[c]).getLast? = some c:=by simp
  have ho:∀ x∈o,x.Lines.length≤B:=fun x hx=>h.lin x (D4 _ hx);have hoo:∀ x∈o,x.Base.length≤40000∧x.Left.length≤40000∧x.Right.length≤40000:=fun x hx=>h.oth x (D4 _ hx);rw [Al,Ac (by omega),Br (by omega) (by omega),Aa,e1,e2,Aa,Aa,hgl]
  simp only [Mm];cases hcc:c.Conflict
  ·rw [Ac Ae,Ac Ae,hj o c (by omega) (by omega)]
   refine ⟨by rw [hcc],by rw [Aj,Ak];omega,fun x hx=>?_,fun x hx=>?_⟩
   ·rcases Az.1 hx with hx | hx
    ·have:=ho x hx;omega
    ·rw [A2] at hx;subst hx;simp only [Aj];omega
   ·rcases Az.1 hx with hx | hx
    ·exact hoo x hx
    ·rw [A2] at hx;subst hx;exact hco
  ·rw [Ad rfl,Ad rfl,Dp (by rw [Aj,Ak,Ak];omega),Aa,hj (o++[c]) _ (by rw [Aj,Ak];omega) (by simp)]
   refine ⟨rfl,by rw [Aj,Aj,Ak,Ak];omega,fun x hx=>?_,fun x hx=>?_⟩
   ·rcases Az.1 hx with hx | hx
    ·have:=h.lin x hx;omega
    ·rw [A2] at hx;subst hx;simp only [Qf];omega
   ·rcases Az.1 hx with hx | hx
    ·exact h.oth x hx
    ·rw [A2] at hx;subst hx;simp [Qf]
def AA (t:Ab) (P:A7) (r:RX):Ab:=rawIn t (wi P r) r.Low.toNat r.High.toNat
def mchk (t:Ab) (P Q:A7):List RX→Nat→Bo→Bo
 | [],at_,o=>Qa o (t.drop at_)
 | r::R,at_,o =>
  if wi Q r=[]∨AA t P r=AA t Q r then mchk t P Q R r.High.toNat (Qa (Qa o ((t.drop at_).take (r.Low.toNat - at_))) (AA t P r))
  else if wi P r=[] then mchk t P Q R r.High.toNat (Qa (Qa o ((t.drop at_).take (r.Low.toNat - at_))) (AA t Q r))
  else mchk t P Q R r.High.toNat (Qa o ((t.drop at_).take (r.Low.toNat - at_))++[⟨true,[],(t.drop r.Low.toNat).take (r.High.toNat - r.Low.toNat),AA t P r,AA t Q r⟩])
theorem AA_len {t:Ab} (ht:t.length≤120) {P:A7} (hP:Side t P) (r:RX):(AA t P r).length≤40000:=by
 have h1:(wi P r).length≤130:=Bx (Ks _ _) hP.len;have:=rawIn_len t (wi P r) r.Low.toNat r.High.toNat fun h hh=>(hP.ins h (Gt.1 hh).1).2.2.1;have:((wi P r).length+1) * (120+t.length)≤131 * 240:=Tt (by omega) (by omega)
 unfold AA;omega
theorem AA_line {t:Ab} (ht:∀ s∈t,Xp s) {P:A7} (hP:Side t P) (r:RX):∀ s∈AA t P r,Xp s :=
 rawIn_line ht _ _ _ fun h hh=>(hP.ins h (Gt.1 hh).1).2.2.2
theorem AA_f {t:Ab} (ht:t.length≤120) {P:A7} (hP:Side t P) {r:RX} (hr:0≤r.Low∧r.Low≤r.High∧r.High≤t.length):E3 (wi P r) t r.Low r.High=some (AA t P r):=by
 have h1:(wi P r).length≤130:=Bx (Ks _ _) hP.len;have h2:=wi_in (r:=r) hr.1 P (-1) r.Low.toNat hP.chn (fun h hh=>(hP.ins h hh).1) (by omega) (by omega)
 have:=RawIn_f ht h1 (fun h hh=>(hP.ins h (Gt.1 hh).1).2.2.1) (lo:=r.Low.toNat) (hi:=r.High.toNat) (by omega) h2
 rw [show ((r.Low.toNat:Nat):Int)=r.Low from by omega,show ((r.High.toNat:Nat):Int)=r.High from by omega] at this
 exact this
theorem len0 {α:Type} (l:List α):decide ((l.length:Int)=0)=decide (l=[]):=Ch.2 (by cases l <;> simp <;> omega)
theorem b9 (k n:Nat) (hn:n≤40000):k * 90000+120+n≤(k+1) * 90000:=by omega
theorem merge_loop {t:Ab} (ht:t.length≤120) {P Q:A7} (hP:Side t P) (hQ:Side t Q) {f1 f2:Fault} {R:List RX} (hsep:R.Pairwise fun a b=>a.High < b.Low) (hbd:∀ r∈R,0≤r.Low∧r.Low≤r.High∧r.High≤t.length) (hRl:R.length≤260) :
  ∀ (rest:List RX) (k at_:Nat) (o:Bo),R.drop k=rest→(∀ r∈rest,(at_:Int)≤r.Low)→at_≤t.length→Csm (3 * k) (k * 90000) o→k≤260 →
   ∃ (a2:Nat) (o2:Bo),C7 (fun s=>E7.l1 t (⟨P⟩,f1) (⟨Q⟩,f2) R s.1 s.2.1 s.2.2) ((k:Int),(at_:Int),o)=some ((a2:Int),o2)∧a2≤t.length∧Csm 1000 30000000 o2∧Qa o2 (t.drop a2)=mchk t P Q rest at_ o
 | [],k,at_,o,hk,_,hat,hc,hk2=>by
  have:=Kt hk;refine ⟨at_,o,Bm ?_,hat,⟨by have:=hc.len;omega,fun c hh=>by have:=hc.lin c hh;have:k * 90000≤260 * 90000:=Aq _ hk2;omega,hc.oth⟩,rfl⟩
  unfold E7.l1;simp only;rw [Al,Ac (by omega)]
 | r::rest,k,at_,o,hk,hle,hat,hc,hk2=>by
  obtain ⟨hlt,hh,hr⟩:=K9 hk;have hb:=hbd r (by rw [← hh];exact Ar hlt)
  have hlo:=hle r Ce;have hcl:=hc.len;have hkB:k * 90000≤260 * 90000:=Aq _ hk2
  have hnext:∀ x∈rest,((r.High.toNat:Nat):Int)≤x.Low:=by
   intro x hx;have hd:(R.drop k).Pairwise fun a b=>a.High < b.Low:=hsep.sublist (List.drop_sublist _ _);rw [hk,D9] at hd;have:=hd.1 x hx;omega
  have hpre:((t.take r.Low.toNat).drop at_)=(t.drop at_).take (r.Low.toNat - at_):=by rw [List.take_drop];congr 2;omega
  have hbase:((t.take r.High.toNat).drop r.Low.toNat)=(t.drop r.Low.toNat).take (r.High.toNat - r.Low.toNat):=by rw [List.take_drop];congr 2;omega
  have l1:((t.drop at_).take (r.Low.toNat - at_)).length≤120:=by simp;omega
  obtain ⟨p1,p20⟩:=plain_f hc (by omega) (by omega) (l:=(t.drop at_).take (r.Low.toNat - at_)) (by omega)
  have p3:Csm (3 * k+1) (k * 90000+120) (Qa o ((t.drop at_).take (r.Low.toNat - at_))):=Csm.le p20 (B7 _) (Nat.add_le_add_left l1 _);clear p20;have hk9:k * 90000+120≤100000000:=Bx (Nat.add_le_add_right hkB 120) (by decide)
  have h3k:3 * k+1≤100000:=by omega
  generalize hO:Qa o ((t.drop at_).take (r.Low.toNat - at_))=o1 at p1 p3;have lA:=AA_len ht hP r;have lB:=AA_len ht hQ r;have hB9:∀ n,n≤40000→k * 90000+120+n≤(k+1) * 90000:=fun n hn=>b9 k n hn;obtain ⟨q1,q2⟩:=plain_f p3 h3k hk9 lA;obtain ⟨q3,q4⟩:=plain_f p3 h3k hk9 lB
  have hj:∀ w,E7.j2 (k:Int) r.High w=some (.next (((k+1:Nat):Int),((r.High.toNat:Nat):Int),w)):=by
   intro w;unfold E7.j2;rw [Br (by omega) (by omega),Aa,show ((r.High.toNat:Nat):Int)=r.High from by omega];rfl
  have key:∀ w,Csm (3 * (k+1)) ((k+1) * 90000) w→E7.l1 t (⟨P⟩,f1) (⟨Q⟩,f2) R (k:Int) (at_:Int) o=some (.next (((k+1:Nat):Int),((r.High.toNat:Nat):Int),w))→mchk t P Q (r::rest) at_ o=mchk t P Q rest r.High.toNat w →
    ∃ (a2:Nat) (o2:Bo),C7 (fun s=>E7.l1 t (⟨P⟩,f1) (⟨Q⟩,f2) R s.1 s.2.1 s.2.2) ((k:Int),(at_:Int),o)=some ((a2:Int),o2)∧a2≤t.length∧Csm 1000 30000000 o2∧Qa o2 (t.drop a2)=mchk t P Q (r::rest) at_ o:=by
   intro w hw e1 e2;obtain ⟨a2,o2,g1,g2,g3,g4⟩:=merge_loop ht hP hQ hsep hbd hRl rest (k+1) r.High.toNat w hr hnext (by omega) hw (by omega)
   exact ⟨a2,o2,by rw [Bz (m:=fun s:Int×Int×Bo=>E7.l1 t (⟨P⟩,f1) (⟨Q⟩,f2) R s.1 s.2.1 s.2.2) e1];exact g1,g2,g3,by rw [e2];exact g4⟩
  have ho1:=p3.len
  have hstep:E7.l1 t (⟨P⟩,f1) (⟨Q⟩,f2) R (k:Int) (at_:Int) o=if wi Q r=[]∨AA t P r=AA t Q r then some (.next (((k+1:Nat):Int),((r.High.toNat:Nat):Int),Qa o1 (AA t P r)))
    else if wi P r=[] then some (.next (((k+1:Nat):Int),((r.High.toNat:Nat):Int),Qa o1 (AA t Q r)))
    else some (.next (((k+1:Nat):Int),((r.High.toNat:Nat):Int),o1++[⟨true,[],(t.drop r.Low.toNat).take (r.High.toNat - r.Low.toNat),AA t P r,AA t Q r⟩])):=by
   unfold E7.l1;simp only
   rw [Al,Ad (by omega),Bg hlt,Aa,hh,Tr (by omega) (by omega) (by omega),Aa,Ay,hpre,p1,Aa,within_f ht hP,Aa,within_f ht hQ,Aa,AA_f ht hP hb,Aa,AA_f ht hQ hb,Aa,
    sequal_f _ _ (by omega),Aa,len0,len0]
   have ec:(if decide (wi Q r=[])=true then some true else some (decide (AA t P r=AA t Q r)))=some (decide (wi Q r=[]∨AA t P r=AA t Q r)):=by
    by_cases h:wi Q r=[] <;> simp [h]
   rw [ec,Aa,Al,Al,q1,Aa,q3,Aa];simp only;rw [hj,hj,Tr (by omega) (by omega) (by omega),Aa,hbase,clone_f _ (by simp;omega),Aa,Dp (by rw [Ak];omega),Aa,hj]
  by_cases c1:wi Q r=[]∨AA t P r=AA t Q r
  ·exact key (Qa o1 (AA t P r)) (Csm.le q2 (by omega) (hB9 _ lA)) (by rw [hstep,Ad c1]) (by rw [mchk,Ad c1,hO])
  ·by_cases c2:wi P r=[]
   ·exact key (Qa o1 (AA t Q r)) (Csm.le q4 (by omega) (hB9 _ lB)) (by rw [hstep,Ac c1,Ad c2]) (by rw [mchk,Ac c1,Ad c2,hO])
   ·refine key (o1++[⟨true,[],(t.drop r.Low.toNat).take (r.High.toNat - r.Low.toNat),AA t P r,AA t Q r⟩]) ⟨by rw [Aj,Ak];omega,fun c hh=>?_,fun c hh=>?_⟩ (by rw [hstep,Ac c1,Ac c2]) (by rw [mchk,Ac c1,Ac c2,hO])
    ·rcases Az.1 hh with hh | hh
     ·exact Bx (p3.lin c hh) (Bx (Nat.le_add_right _ 0) (hB9 0 (by decide)))
     ·rw [A2] at hh;subst hh;simp
    ·rcases Az.1 hh with hh | hh
     ·exact p3.oth c hh
     ·rw [A2] at hh;subst hh;exact ⟨by simp;omega,lA,lB⟩
noncomputable def chunksF (b l r:Ab):Bo:=mchk b (H3 b l) (H3 b r) (regF (H3 b l) (H3 b r)) 0 []
theorem Merge_f {b l r:Ab} (hb:Kb b) (hl:Kb l) (hr:Kb r):E7 b l r=some (chunksF b l r,⟨0,0⟩)∧Csm 1001 40000000 (chunksF b l r):=by
 have ht:=hb.1;have hP:=Wm hb hl;have hQ:=Wm hb hr;have tb:=(Er b).1 ((Hr b).1 hb);have tl:=(Er l).1 ((Hr l).1 hl);have tr:=(Er r).1 ((Hr r).1 hr);have h1:=regF_ok ht hP hQ;obtain ⟨a2,o2,g1,g2,g3,g4⟩:=merge_loop ht hP hQ (f1:=⟨0,0⟩) (f2:=⟨0,0⟩) h1.sep h1.bd (reg_len ht hP hQ) _ 0 0 [] rfl (fun r hr=>(h1.bd r hr).1) (Cs _) ⟨by simp,by simp,by simp⟩ (by omega)
 obtain ⟨p1,p2⟩:=plain_f g3 (by omega) (by omega) (l:=b.drop a2) (by simp;omega)
 have e1:Wf b l=some ⟨0,0⟩:=by rw [both_f,Ac (fun h=>h tb),Ad tl]
 have e2:M8 r (-3)=some ⟨0,0⟩:=by rw [second_f,Ad tr]
 have e3:Gq b l=some (⟨H3 b l⟩,⟨0,0⟩):=by rw [script_f,Ac (fun h=>h tb),Ac (fun h=>h tl)]
 have e4:Gq b r=some (⟨H3 b r⟩,⟨0,0⟩):=by rw [script_f,Ac (fun h=>h tb),Ac (fun h=>h tr)]
 unfold E7;rw [e1,Aa,Ac (by simp),e2,Aa,Ac (by simp),e3,Aa,e4,Aa]
 simp only;rw [regions_f ht hP hQ,Aa];rw [show ((0:Nat):Int)=0 from rfl] at g1;rw [g1,Aa];unfold E7.j1;simp only;rw [Tr (by omega) (by omega) (by omega),Aa,Ay,Ay,Bw,p1,Aa,g4]
 rw [g4] at p2;have:(b.drop a2).length≤120:=by simp;omega
 exact ⟨rfl,Csm.le p2 (by omega) (by omega)⟩
def nrm (s:Ab):Bo:=if s=[] then [] else [Qf s]
def U0 (o:Bo):Bool:=o.any (·.Conflict)
theorem plain_nrm (x l:Ab):Qa (nrm x) l=nrm (x++l):=by
 unfold Qa nrm;by_cases hl:l=[]
 ·subst hl;rw [Ad rfl,Bh]
 rw [Ac hl];by_cases hx:x=[]
 ·subst hx;show [Qf l]=if l=[] then [] else [Qf l]
  rw [Ac hl]
 ·rw [Ac hx,Ac (by simp [hx])];rfl
theorem X1 {o:Bo} (l:Ab) (h:U0 o=true):U0 (Qa o l)=true:=by
 unfold Qa;by_cases hl:l=[]
 ·rw [Ad hl];exact h
 rw [Ac hl];rcases Ld o with rfl | ⟨q,c,rfl⟩
 ·cases h
 ·rw [Ma] at *;unfold U0 at *;simp only [Nk,Lp,Tx,Mm];rw [Hh] at h;split
  ·rw [Hh,Hh,h];rfl
  ·rw [Hh];simp only [Lc,List.any_nil,N2] at h ⊢;exact h
def cmT (t:Ab) (P Q:A7):List RX→Nat→Option Ab
 | [],at_=>some (t.drop at_)
 | r::R,at_ =>
  if wi Q r=[]∨AA t P r=AA t Q r then (cmT t P Q R r.High.toNat).map fun y=>(t.drop at_).take (r.Low.toNat - at_)++(AA t P r++y)
  else if wi P r=[] then (cmT t P Q R r.High.toNat).map fun y=>(t.drop at_).take (r.Low.toNat - at_)++(AA t Q r++y)
  else Option.none
theorem mchk_hasC {t:Ab} {P Q:A7}:∀ (R:List RX) (at_:Nat) (o:Bo),U0 o=true→U0 (mchk t P Q R at_ o)=true
 | [],at_,o,h=>by rw [mchk];exact X1 _ h
 | r::R,at_,o,h=>by
  rw [mchk];split
  ·exact mchk_hasC R _ _ (X1 _ (X1 _ h))
  ·split
   ·exact mchk_hasC R _ _ (X1 _ (X1 _ h))
   ·refine mchk_hasC R _ _ ?_;have:=X1 ((t.drop at_).take (r.Low.toNat - at_)) h;unfold U0 at *;rw [Hh,this];rfl
theorem mchk_cm {t:Ab} {P Q:A7}:∀ (R:List RX) (at_:Nat) (x:Ab),(∃ y,cmT t P Q R at_=some y∧mchk t P Q R at_ (nrm x)=nrm (x++y))∨(cmT t P Q R at_=Option.none∧U0 (mchk t P Q R at_ (nrm x))=true)
 | [],at_,x=>.inl ⟨_,rfl,by rw [mchk,plain_nrm]⟩
 | r::R,at_,x=>by
  rw [mchk,cmT];by_cases c1:wi Q r=[]∨AA t P r=AA t Q r
  ·rw [Ad c1,Ad c1,plain_nrm,plain_nrm];rcases mchk_cm (t:=t) (P:=P) (Q:=Q) R r.High.toNat (x++(t.drop at_).take (r.Low.toNat - at_)++AA t P r) with ⟨y,h1,h2⟩ | ⟨h1,h2⟩
   ·exact .inl ⟨_,by rw [h1];rfl,by rw [h2];simp⟩
   ·exact .inr ⟨by rw [h1];rfl,h2⟩
  ·rw [Ac c1,Ac c1];by_cases c2:wi P r=[]
   ·rw [Ad c2,Ad c2,plain_nrm,plain_nrm];rcases mchk_cm (t:=t) (P:=P) (Q:=Q) R r.High.toNat (x++(t.drop at_).take (r.Low.toNat - at_)++AA t Q r) with ⟨y,h1,h2⟩ | ⟨h1,h2⟩
    ·exact .inl ⟨_,by rw [h1];rfl,by rw [h2];simp⟩
    ·exact .inr ⟨by rw [h1];rfl,h2⟩
   ·rw [Ac c2,Ac c2];refine .inr ⟨rfl,mchk_hasC _ _ _ ?_⟩;unfold U0;rw [Hh];simp
theorem cmT_line {t:Ab} (ht:∀ s∈t,Xp s) {P Q:A7} (hP:Side t P) (hQ:Side t Q):∀ (R:List RX) (at_:Nat) (y:Ab),cmT t P Q R at_=some y→∀ s∈y,Xp s
 | [],at_,y,h,s,hs=>by rw [cmT] at h;cases h;exact ht s (Eo hs)
 | r::R,at_,y,h,s,hs=>by
  rw [cmT] at h;split at h
  ·cases hc:cmT t P Q R r.High.toNat with
   | none=>rw [hc] at h;cases h
   | some z =>
    rw [hc] at h;cases h;rcases Az.1 hs with h1 | h1
    ·exact ht s (Eo (C4 h1))
    ·rcases Az.1 h1 with h1 | h1
     ·exact AA_line ht hP r s h1
     ·exact cmT_line ht hP hQ R _ _ hc s h1
  ·split at h
   ·cases hc:cmT t P Q R r.High.toNat with
    | none=>rw [hc] at h;cases h
    | some z =>
     rw [hc] at h;cases h;rcases Az.1 hs with h1 | h1
     ·exact ht s (Eo (C4 h1))
     ·rcases Az.1 h1 with h1 | h1
      ·exact AA_line ht hQ r s h1
      ·exact cmT_line ht hP hQ R _ _ hc s h1
   ·cases h
theorem check_l2 (k:Int) (c:Chunk):∃ r,C7 (fun s=>Da.l2 k c s) 0=some r∧((r=.inr ()∧(B5 c.Lines).Code=0)∨(∃ f,r=.inl f∧f.Code≠0))∧((B5 c.Lines).Code=0→(B5 c.Base).Code=0→(B5 c.Left).Code=0→(B5 c.Right).Code=0→r=.inr ()):=by
 have st:∀ (j:Nat) (l:Ab),j < 4→[c.Lines,c.Base,c.Left,c.Right][j]? = some l→Da.l2 k c (j:Int)=if (B5 l).Code=0 then some (.next ((j:Int)+1)) else some (.done (.inl ⟨(B5 l).Code,k⟩)):=by
  intro j l hj hl;unfold Da.l2;rw [Al,Ad (by omega),show at? [c.Lines,c.Base,c.Left,c.Right] (j:Int)=some l from by unfold at?;rw [Ad (by omega)];simpa using hl,Aa,second_f,Aa]
  by_cases h:(B5 l).Code=0
  ·rw [Ad h,Ad h,Ac (by simp),Br (by omega) (by omega),Aa]
  ·rw [Ac h,Ac h,Ad (by simp [h])]
 have s0:=st 0 c.Lines (by omega) rfl
 have s1:=st 1 c.Base (by omega) rfl
 have s2:=st 2 c.Left (by omega) rfl
 have s3:=st 3 c.Right (by omega) rfl
 have s4:Da.l2 k c 4=some (.done (.inr ())):=by unfold Da.l2;rw [Al,Ac (by decide)]
 rw [show ((0:Nat):Int)=0 from rfl,show (0:Int)+1=1 from rfl] at s0;rw [show ((1:Nat):Int)=1 from rfl,show (1:Int)+1=2 from rfl] at s1;rw [show ((2:Nat):Int)=2 from rfl,show (2:Int)+1=3 from rfl] at s2;rw [show ((3:Nat):Int)=3 from rfl,show (3:Int)+1=4 from rfl] at s3;by_cases h0:(B5 c.Lines).Code=0
 case neg=>rw [Ac h0] at s0;exact ⟨_,Bm s0,.inr ⟨_,rfl,h0⟩,fun h=>absurd h h0⟩
 rw [Ad h0] at s0;rw [Bz s0];by_cases h1:(B5 c.Base).Code=0
 case neg=>rw [Ac h1] at s1;exact ⟨_,Bm s1,.inr ⟨_,rfl,h1⟩,fun _ h=>absurd h h1⟩
 rw [Ad h1] at s1;rw [Bz s1];by_cases h2:(B5 c.Left).Code=0
 case neg=>rw [Ac h2] at s2;exact ⟨_,Bm s2,.inr ⟨_,rfl,h2⟩,fun _ _ h=>absurd h h2⟩
 rw [Ad h2] at s2;rw [Bz s2];by_cases h3:(B5 c.Right).Code=0
 case neg=>rw [Ac h3] at s3;exact ⟨_,Bm s3,.inr ⟨_,rfl,h3⟩,fun _ _ _ h=>absurd h h3⟩
 rw [Ad h3] at s3;rw [Bz s3];exact ⟨_,Bm s4,.inl ⟨rfl,h0⟩,fun _ _ _ _=>rfl⟩
theorem check_tot {k B:Nat} {o:Bo} (h:Csm k B o) (hk:k≤100000) (hB:B≤100000000):∃ f,Da o=some f∧(f=⟨0,0⟩∨f.Code≠0)∧(f=⟨0,0⟩→∀ c∈o,(B5 c.Lines).Code=0):=by
 have hl:=h.len;unfold Da;rw [Al];by_cases h1:(o.length:Int) > 240
 ·rw [Ad h1];exact ⟨_,rfl,.inr (by decide),fun h=>by cases h⟩
 rw [Ac h1]
 have key:∀ (d k:Nat),k+d=o.length→(∀ j (hj:j < o.length),j < k→(B5 o[j].Lines).Code=0)→∃ r,C7 (fun s=>Da.l1 o s) (k:Int)=some r∧((r=.inr ()∧∀ c∈o,(B5 c.Lines).Code=0)∨∃ f,r=.inl f∧f.Code≠0):=by
  intro d
  induction d with
  | zero =>
   intro k hk hpre;refine ⟨_,Bm (r:=.inr ()) ?_,.inl ⟨rfl,fun c hc=>?_⟩⟩
   ·unfold Da.l1;rw [Al,Ac (by omega)]
   ·obtain ⟨j,hj,rfl⟩:=Ci hc;exact hpre j hj (by omega)
  | succ d ih =>
   intro k hk hpre;have hlt:k < o.length:=by omega
   obtain ⟨r,e,hr,_⟩:=check_l2 (k:Int) o[k];have hc:=h.lin _ (Ar hlt);have ho:=h.oth _ (Ar hlt);rcases hr with ⟨rfl,h0⟩ | ⟨f,rfl,hf⟩
   ·have hs:Da.l1 o (k:Int)=some (.next (((k+1:Nat):Int)))∨∃ f,Da.l1 o (k:Int)=some (.done (.inl f))∧f.Code≠0:=by
     unfold Da.l1;rw [Al,Ad (by omega),Bg hlt,Aa,e,Aa]
     simp only;unfold Da.j3;rw [Br (by omega) (by omega),Aa,Br (by omega) (by omega),Aa]
     have hb:∃ z:Bool,((if o[k].Conflict=true then some (decide ((o[k].Lines.length:Int) > 0)) else some false).bind fun x3=>(if x3=true then some true else (if (!o[k].Conflict)=true then (if decide ((o[k].Lines.length:Int)=0)=true then some true else some (decide ((o[k].Base.length:Int)+(o[k].Left.length:Int)+(o[k].Right.length:Int) > 0))).bind fun x6=>some x6 else some false).bind fun x5=>some x5))=some z:=by
      generalize decide ((o[k].Lines.length:Int) > 0)=z1;generalize decide ((o[k].Lines.length:Int)=0)=z2;generalize decide ((o[k].Base.length:Int)+(o[k].Left.length:Int)+(o[k].Right.length:Int) > 0)=z3;cases o[k].Conflict <;> cases z1 <;> cases z2 <;> cases z3 <;> exact ⟨_,rfl⟩
     obtain ⟨z,hz⟩:=hb;rw [← Option.bind_assoc,hz,Aa];cases z
     ·rw [Ac Ae];unfold Da.j2;rw [Br (by omega) (by omega),Aa]
      exact .inl rfl
     ·rw [Ad rfl];exact .inr ⟨_,rfl,by simp⟩
    rcases hs with hs | ⟨f,hs,hf⟩
    ·rw [Bz hs];refine ih (k+1) (by omega) fun j hj hjk=>?_
     rcases Hf (Ng hjk) with h2 | h2
     ·exact hpre j hj h2
     ·subst h2;exact h0
    ·exact ⟨_,Bm hs,.inr ⟨f,rfl,hf⟩⟩
   ·refine ⟨_,Bm (r:=.inl f) ?_,.inr ⟨f,rfl,hf⟩⟩;unfold Da.l1;rw [Al,Ad (by omega),Bg hlt,Aa,e,Aa]
 obtain ⟨r,e,hr⟩:=key o.length 0 (by omega) (fun _ _ h=>absurd h (by omega))
 rw [show ((0:Nat):Int)=0 from rfl] at e;rw [e,Aa];rcases hr with ⟨rfl,h2⟩ | ⟨f,rfl,hf⟩
 ·exact ⟨_,rfl,.inl rfl,fun _=>h2⟩
 ·exact ⟨f,rfl,.inr hf,fun hh=>by rw [hh] at hf;exact absurd rfl hf⟩
theorem check_nrm {s:Ab} (h:Kb s):Da (nrm s)=some ⟨0,0⟩:=by
 have h0:=(Er s).1 ((Hr s).1 h);have hl:=h.1;have hn:(B5 []).Code=0:=by decide +kernel
 unfold nrm;by_cases hs:s=[]
 ·rw [Ad hs];unfold Da;have e:Da.l1 [] 0=some (.done (.inr ())):=by unfold Da.l1;rw [Al,Ac (by simp)]
  rw [Al,Ac (by simp),Bm e];rfl
 ·rw [Ac hs];have hlen:s.length≠0:=fun h=>hs (Db h);unfold Da;obtain ⟨r,e,_,hr⟩:=check_l2 0 (Qf s);have hr:=hr h0 hn hn hn;subst hr
  have e1:Da.l1 [Qf s] 0=some (.next 1):=by
   unfold Da.l1;rw [Al,Ad (by simp),show at? [Qf s] 0=some (Qf s) from rfl,Aa,e,Aa]
   simp only;unfold Da.j3 Qf;simp only;rw [Br (by simp) (by simp),Aa,Br (by simp) (by simp),Aa]
   have hd:decide ((s.length:Int)=0)=false:=by simpa using hs
   simp only [A6,Cg,Aa,Bool.not_false,E4,hd,Ey];unfold Da.j2;rfl
  have e2:Da.l1 [Qf s] 1=some (.done (.inr ())):=by unfold Da.l1;rw [Al,Ac (by simp)]
  rw [Al,Ac (by simp),Bz e1,Bm e2];rfl
theorem clean_hit {k B:Nat} {o:Bo} (h:Csm k B o) (hk:k≤1100) (hB:B≤100000000) (hc:U0 o=true):C7 (fun s=>Gz.l1 o s.1 s.2) (0,[])=some (.inl ([],false,⟨0,0⟩)):=by
 have hl:=h.len
 have hex:∃ j,∃ hj:j < o.length,o[j].Conflict=true:=by
  unfold U0 at hc;rw [Ke] at hc;obtain ⟨c,h1,h2⟩:=hc;obtain ⟨j,hj,rfl⟩:=Ci h1;exact ⟨j,hj,h2⟩
 obtain ⟨r,e,hr⟩:=inv_loopE (f:=fun s=>Gz.l1 o s.1 s.2) 0 o.length (Cs _) (fun i s=>s.length≤i * 100000000∧∀ j (hj:j < o.length),j < i→o[j].Conflict=false) (fun r=>r=.inl ([],false,⟨0,0⟩)) (by
  rintro i s _ hi ⟨g1,g2⟩;have hlin:=h.lin _ (Ar hi);unfold Gz.l1;simp only;rw [Al,Ad (by omega),Bg hi,Aa]
  cases hcc:o[i].Conflict
  ·left;have:i * 100000000≤1100 * 100000000:=Aq _ (by omega)
   rw [Ac Ae,Dp (by omega),Aa,Br (by omega) (by omega),Aa]
   refine ⟨_,rfl,by rw [Aj];omega,fun j hj hji=>?_⟩
   rcases Hf (Ng hji) with h2 | h2
   ·exact g2 j hj h2
   ·subst h2;exact hcc
  ·right;rw [Ad rfl];exact ⟨_,rfl,rfl⟩) (by
  rintro s ⟨_,g2⟩;obtain ⟨j,hj,h1⟩:=hex;rw [g2 j hj hj] at h1;cases h1) [] ⟨by simp,fun j _ h=>by omega⟩
 rw [show ((0:Nat):Int)=0 from rfl] at e;rw [e,hr]
noncomputable def clean3 (b l r:Ab):Option Ab :=
 match cmT b (H3 b l) (H3 b r) (regF (H3 b l) (H3 b r)) 0 with
 | Option.none=>Option.none
 | some s=>if s.length≤120 then some s else Option.none
theorem clean_f {b l r:Ab} (hb:Kb b) (hl:Kb l) (hr:Kb r):∃ s ok f,Gz (chunksF b l r)=some (s,ok,f)∧((clean3 b l r=some s∧ok=true∧f=⟨0,0⟩∧Kb s)∨(clean3 b l r=Option.none∧ok=false)):=by
 have hsm:=(Merge_f hb hl hr).2;have hP:=Wm hb hl;have hQ:=Wm hb hr;have hch:=mchk_cm (t:=b) (P:=H3 b l) (Q:=H3 b r) (regF (H3 b l) (H3 b r)) 0 [];rw [show nrm []=[] from rfl] at hch;unfold Gz;unfold clean3;rcases hch with ⟨y,h1,h2⟩ | ⟨h1,h2⟩
 ·rw [A8] at h2;have hy:=cmT_line hb.2 hP hQ _ _ _ h1;rw [h1];simp only;have hcf:chunksF b l r=nrm y:=h2;rw [hcf] at hsm ⊢;by_cases h120:y.length≤120
  ·have hok:Kb y:=⟨h120,hy⟩;rw [Ad h120,check_nrm hok,Aa,Ac (by simp)]
   refine ⟨y,true,⟨0,0⟩,?_,.inl ⟨rfl,rfl,rfl,hok⟩⟩;have hw:Wz y=some (y,⟨0,0⟩):=by unfold Wz;rw [Al,Ac (by omega)]
   unfold nrm;by_cases hy0:y=[]
   ·rw [Ad hy0];have e:Gz.l1 [] 0 []=some (.done (.inr [])):=by unfold Gz.l1;rw [Al,Ac (by simp)]
    rw [Bm (m:=fun s:Int×Ab=>Gz.l1 [] s.1 s.2) e,Aa];unfold Gz.j1;simp only;rw [← hy0,hw];rfl
   ·rw [Ac hy0]
    have e1:Gz.l1 [Qf y] 0 []=some (.next (1,y)):=by
     unfold Gz.l1;rw [Al,Ad (by simp),show at? [Qf y] 0=some (Qf y) from rfl,Aa]
     unfold Qf;simp only;rw [Ac Ae,Dp (by simp;omega),Aa,Br (by omega) (by omega),Aa];rfl
    have e2:Gz.l1 [Qf y] 1 y=some (.done (.inr y)):=by unfold Gz.l1;rw [Al,Ac (by simp)]
    rw [Bz (m:=fun s:Int×Ab=>Gz.l1 [Qf y] s.1 s.2) e1,Bm (m:=fun s:Int×Ab=>Gz.l1 [Qf y] s.1 s.2) e2,Aa];unfold Gz.j1;simp only;rw [hw];rfl
  ·rw [Ac h120];obtain ⟨f,e,hf,hok⟩:=check_tot hsm (by omega) (by omega)
   rw [e,Aa];rcases hf with rfl | hf
   ·have hy0:y≠[]:=fun h=>by subst h;simp at h120
    have:=hok rfl (Qf y) (by unfold nrm;rw [Ac hy0];simp)
    have h3:=((Hr y).2 ((Er y).2 this)).1;exact absurd h3 h120
   ·rw [Ad (by simp [hf])]
    exact ⟨_,_,_,rfl,.inr ⟨rfl,rfl⟩⟩
 ·rw [h1];simp only;have hc:U0 (chunksF b l r)=true:=h2;obtain ⟨f,e,hf,_⟩:=check_tot hsm (by omega) (by omega)
  rw [e,Aa];rcases hf with rfl | hf
  ·rw [Ac (by simp),clean_hit hsm (by omega) (by omega) hc,Aa]
   exact ⟨_,_,_,rfl,.inr ⟨trivial,rfl⟩⟩
  ·rw [Ad (by simp [hf])]
   exact ⟨_,_,_,rfl,.inr ⟨trivial,rfl⟩⟩
end Go.Dc
set_option linter.unusedSimpArgs false
set_option linter.unusedVariables false
set_option maxRecDepth 4000
namespace Go.Dc
open Go
theorem scr_self:∀ (a:Ab) (s:Cst),(scr a a s).1=s.1
 | [],s=>by simp [scr]
 | x::a,s=>by
  rw [scr,Ad rfl,scr_self a];rfl
theorem script_self (a:Ab):H3 a a=[]:=scr_self a _
theorem chn_lt:∀ {P:A7} {e:Int},Chn e P→(∀ h∈P,0≤h.At)→∀ h∈P,e < h.At
 | [],_,_,_,h,hh=>by cases hh
 | x::P,e,hc,hp,h,hh=>by
  obtain ⟨c1,c2⟩:=hc;rcases Bf.1 hh with rfl | hh
  ·exact c1
  ·have:=chn_lt c2 (fun y hy=>hp y (Bk _ hy)) h hh;omega
theorem chn_filter {p:Hunk→Bool}:∀ {P:A7} {e:Int},Chn e P→Chn e (P.filter p)
 | [],_,_=>trivial
 | x::P,e,hc=>by
  obtain ⟨c1,c2⟩:=hc;rw [Nt];have:=chn_filter (p:=p) c2;cases p x
  ·rw [Ac Ae]
   have mono:∀ {Q:A7} {e e':Int},e'≤e→Chn e Q→Chn e' Q:=by
    intro Q e e' hle h;cases Q with
    | nil=>trivial
    | cons y Q=>exact ⟨by have:=h.1;omega,h.2⟩
   exact mono (by omega) this
  ·rw [Ad rfl];exact ⟨c1,this⟩
end Go.Dc
set_option linter.unusedSimpArgs false
set_option linter.unusedVariables false
set_option maxRecDepth 4000
noncomputable section
namespace Go.Dc
open Go
abbrev OT:=Option Ab
def ver:OT→Version_treecommute
 | Option.none=>⟨false,[]⟩
 | some l=>⟨true,l⟩
def OkO (o:OT):Prop:=∀ l,o=some l→Kb l
def lk (l:Ai) (p:ByteArray):OT:=if Lb l p=true then (l[H9 l p]?).map (·.Lines) else Option.none
theorem lk_some {l:Ai} (h:Mq l) {p:ByteArray} {L:Ab}:lk l p=some L↔(⟨p,L⟩:File)∈l:=by
 unfold lk;constructor
 ·intro e;by_cases hh:Lb l p=true
  ·rw [Ad hh] at e;obtain ⟨hp,e2⟩:=Ww h hh;rw [A3 hp,N7] at e;have e3:=Gg e;have hm:=Ar hp
   have:l[H9 l p]=⟨p,L⟩:=by
    generalize l[H9 l p]=f at e2 e3;obtain ⟨a,b⟩:=f;simp only at e2 e3;rw [e2,e3]
   rw [this] at hm;exact hm
  ·rw [Ac hh] at e;cases e
 ·intro hm;obtain ⟨hp,h1,h2⟩:=mem_has h hm;rw [Ad h1,A3 hp,h2];rfl
theorem lk_none {l:Ai} (h:Mq l) {p:ByteArray}:lk l p=Option.none↔Lb l p=false:=by
 unfold lk;cases hh:Lb l p
 ·simp
 ·rw [Ad rfl];obtain ⟨hp,_⟩:=Ww h hh;rw [A3 hp];simp
theorem Tg {l:Ai} {p:ByteArray}:Lb l p=true↔∃ f∈l,f.Path=p:=by
 unfold Lb;rw [Ke];exact ⟨fun ⟨f,h1,h2⟩=>⟨f,h1,by simpa using h2⟩,fun ⟨f,h1,h2⟩=>⟨f,h1,by simpa using h2⟩⟩
theorem lk_ok {l:Ai} (h:TrOk l) (p:ByteArray):OkO (lk l p):=fun L e=>h.text _ ((lk_some h.srt).1 e)
theorem tcfind_f {l:Ai} (h:TrOk l) (p:ByteArray):Mj ⟨l⟩ p=some (ver (lk l p)):=by
 have hl:=h.len;unfold Mj lk;rw [Find_f h.srt (by omega),Aa]
 simp only;cases hh:Lb l p
 ·rfl
 ·obtain ⟨hp,_⟩:=Ww h.srt hh;rw [Ac (by decide),Bg hp,Aa,Ad rfl,A3 hp];rfl
theorem same_f {a b:OT} (ha:OkO a) (hb:OkO b):M2 (ver a) (ver b)=some (decide (a=b)):=by
 unfold M2;cases a with
 | none =>
  cases b with
  | none =>
   have e:=sequal_f [] [] (by simp)
   simp [ver,e]
  | some y=>simp [ver]
 | some x =>
  cases b with
  | none=>simp [ver]
  | some y =>
   have:=(ha x rfl).1;have e:=sequal_f x y (by omega)
   simp [ver,e]
def mgO (b l r:OT):OT×Bool :=
 if r=b∨r=l then (l,true) else if l=b then (r,true) else match b,l,r with
 | some x,some y,some z=>(match clean3 x y z with | some s=>(some s,true) | Option.none=>(some y,false))
 | _,_,_=>(l,false)
theorem merged_f {b l r:OT} (hb:OkO b) (hl:OkO l) (hr:OkO r):K5 (ver b) (ver l) (ver r)=some (ver (mgO b l r).1,(mgO b l r).2)∧OkO (mgO b l r).1:=by
 unfold K5 mgO;rw [same_f hr hb,Aa,same_f hr hl,Aa];have e1:(if decide (r=b)=true then some true else some (decide (r=l)))=some (decide (r=b∨r=l)):=by by_cases h:r=b <;> simp [h]
 rw [e1,Aa,Al];by_cases h1:r=b∨r=l
 ·rw [Ad h1,Ad h1];exact ⟨rfl,hl⟩
 rw [Ac h1,Ac h1,same_f hl hb,Aa,Al];by_cases h2:l=b
 ·rw [Ad h2,Ad h2];exact ⟨rfl,hr⟩
 rw [Ac h2,Ac h2];cases b with
 | none=>exact ⟨rfl,hl⟩
 | some x =>
  cases l with
  | none=>exact ⟨rfl,hl⟩
  | some y =>
   cases r with
   | none=>exact ⟨rfl,hl⟩
   | some z =>
    have ox:=hb x rfl;have oy:=hl y rfl;have oz:=hr z rfl;obtain ⟨s,ok,f,e,hc⟩:=clean_f ox oy oz;simp only [ver,E4,Aa];rw [(Merge_f ox oy oz).1,Aa];simp only [C3,Gk,E4];rw [e,Aa];simp only;rcases hc with ⟨c1,rfl,rfl,c2⟩ | ⟨c1,rfl⟩
    ·rw [c1];exact ⟨rfl,fun L h=>by cases h;exact c2⟩
    ·rw [c1];exact ⟨rfl,fun L h=>by cases h;exact oy⟩
def Yd (p:TreePatch) (path:ByteArray):Int:=(Dk p path).getD (-1)
theorem last_f {p:TreePatch} (hp:∀ c∈p.Changes,OkCh c) (hl:p.Changes.length≤30) {path:ByteArray} (hs:path.size≤1000000) :
  Dk p path=some (Yd p path)∧((Yd p path = -1∧∀ c∈p.Changes,Wr path c=false)∨∃ k,∃ h:k < p.Changes.length,Yd p path=(k:Int)∧Wr path p.Changes[k]=true):=by
 have key:∀ k,k≤p.Changes.length→(∀ j (h:j < p.Changes.length),k≤j→Wr path p.Changes[j]=false) →
   ∃ r,C7 (fun s=>Dk.l1 p path s) ((k:Int) - 1)=some r∧((r=.inr ()∧∀ c∈p.Changes,Wr path c=false)∨∃ j,∃ h:j < p.Changes.length,r=.inl (j:Int)∧Wr path p.Changes[j]=true):=by
  intro k
  induction k with
  | zero =>
   intro _ h;refine ⟨.inr (),Bm ?_,.inl ⟨rfl,fun c hc=>?_⟩⟩
   ·unfold Dk.l1;rw [Al,Ac (by omega)]
   ·obtain ⟨j,hj,rfl⟩:=Ci hc;exact h j hj (Cs _)
  | succ k ih =>
   intro hk h;have hlt:k < p.Changes.length:=by omega
   have e1:((k+1:Nat):Int) - 1=(k:Int):=by omega
   rw [e1]
   have hs1:Dk.l1 p path (k:Int)=if Wr path p.Changes[k]=true then some (.done (.inl (k:Int))) else some (.next ((k:Int) - 1)):=by
    unfold Dk.l1;rw [Al,Ad (by omega),Bg hlt,Aa,touches_f hs (hp _ (Ar hlt)).size,Aa]
    split
    ·rfl
    ·rw [Br (by omega) (by omega),Aa]
   by_cases ht:Wr path p.Changes[k]=true
   ·rw [Ad ht] at hs1;exact ⟨_,Bm hs1,.inr ⟨k,hlt,rfl,ht⟩⟩
   ·rw [Ac ht] at hs1;rw [Bz hs1];refine ih (by omega) fun j hj hkj=>?_
    rcases Hf hkj with h2 | h2
    ·exact h j hj h2
    ·subst h2;simpa using ht
 obtain ⟨r,e,hr⟩:=key p.Changes.length (B7 _) fun j hj h=>by omega
 have e0:∃ x,Dk p path=some x∧((x = -1∧∀ c∈p.Changes,Wr path c=false)∨∃ j,∃ h:j < p.Changes.length,x=(j:Int)∧Wr path p.Changes[j]=true):=by
  unfold Dk;rw [Br (by omega) (by omega),Aa,e,Aa]
  rcases hr with ⟨rfl,h2⟩ | ⟨j,hj,rfl,h2⟩
  ·exact ⟨_,rfl,.inl ⟨rfl,h2⟩⟩
  ·exact ⟨_,rfl,.inr ⟨j,hj,rfl,h2⟩⟩
 obtain ⟨x,e1,h1⟩:=e0;have ex:Yd p path=x:=by unfold Yd;rw [e1];rfl
 rw [ex];exact ⟨e1,h1⟩
def Kv (l:Ai):Ab:=l.map (·.Path)
theorem prow_f (t:FileTree) (hl:t.Files.length≤1000) (acc:Ab) (ha:acc.length≤10000) :
  C7 (fun s=>C9.l2 t s.1 s.2) (0,acc)=some (acc++Kv t.Files):=by
 obtain ⟨r,e,rfl⟩:=La (f:=fun s=>C9.l2 t s.1 s.2) t.Files.length (fun k x=>x=acc++Kv (t.Files.take k)) (fun x=>x=acc++Kv t.Files) (by
  rintro k x hk rfl;unfold C9.l2;simp only;have hlen:(Kv (t.Files.take k)).length=k:=by unfold Kv;rw [C1,Bl];omega
  refine ⟨_,?_,rfl⟩;rw [Al,Ad (by omega),Bg hk,Aa,Dp (by simp only [Aj,hlen,Ak];omega),Aa,Br (by omega) (by omega),Aa]
  unfold Kv;rw [As hk,Hx,Am];rfl) (by
  rintro x rfl;unfold C9.l2;simp only;rw [Al,Ac (by omega),Bw]
  exact ⟨_,rfl,rfl⟩) acc (by simp [Kv])
 exact e
theorem all_f3 {a b c:FileTree} (ha:a.Files.length≤24) (hb:b.Files.length≤24) (hc:c.Files.length≤24):C9 [a,b,c]=some (ksort (Kv a.Files++Kv b.Files++Kv c.Files)):=by
 have la:(Kv a.Files).length≤24:=by unfold Kv;rw [C1];exact ha
 have lb:(Kv b.Files).length≤24:=by unfold Kv;rw [C1];exact hb
 have lc:(Kv c.Files).length≤24:=by unfold Kv;rw [C1];exact hc
 have st:∀ (j:Nat) (t:FileTree) (acc:Ab),j < 3→[a,b,c][j]? = some t→t.Files.length≤24→acc.length≤100→C9.l1 [a,b,c] (j:Int) acc=some (.next ((j:Int)+1,acc++Kv t.Files)):=by
  intro j t acc hj ht hl hacc;unfold C9.l1;rw [Al,Ad (by simp;omega),show at? [a,b,c] (j:Int)=some t from by unfold at?;rw [Ad (by omega)];simpa using ht,Aa,prow_f _ (by omega) _ (by omega),Aa]
  unfold C9.j3 C9.j2;rw [Br (by omega) (by omega),Aa]
 have s0:=st 0 a [] (by omega) rfl ha (by simp)
 have s1:=st 1 b (Kv a.Files) (by omega) rfl hb (by omega)
 have s2:=st 2 c (Kv a.Files++Kv b.Files) (by omega) rfl hc (by rw [Aj];omega)
 rw [show ((0:Nat):Int)=0 from rfl,show (0:Int)+1=1 from rfl,A8] at s0;rw [show ((1:Nat):Int)=1 from rfl,show (1:Int)+1=2 from rfl] at s1;rw [show ((2:Nat):Int)=2 from rfl,show (2:Int)+1=3 from rfl] at s2;have s3:∀ x,C9.l1 [a,b,c] 3 x=some (.done x):=by intro x;unfold C9.l1;rw [Al,Ac (by simp)]
 unfold C9
 rw [Bz (m:=fun s:Int×Ab=>C9.l1 [a,b,c] s.1 s.2) s0,Bz (m:=fun s:Int×Ab=>C9.l1 [a,b,c] s.1 s.2) s1,Bz (m:=fun s:Int×Ab=>C9.l1 [a,b,c] s.1 s.2) s2,
  Bm (m:=fun s:Int×Ab=>C9.l1 [a,b,c] s.1 s.2) (s3 _),Aa]
 unfold C9.j1;have hl3:(Kv a.Files++Kv b.Files++Kv c.Files).length≤72:=by rw [Aj,Aj];omega
 have hs:sortS? (Kv a.Files++Kv b.Files++Kv c.Files)=some (Yv (Kv a.Files++Kv b.Files++Kv c.Files)):=by
  unfold sortS?;rw [Ad (by omega)]
 rw [hs,Aa,scompact_f (by rw [(sortS_perm _).length_eq];omega),Aa];rfl
theorem pathsL_mem {l:Ai} {p:ByteArray}:p∈Kv l↔Lb l p=true:=by
 rw [Tg];unfold Kv;rw [G9]
section
variable (B L R : Ai)
def vF (p:ByteArray):OT×Bool:=mgO (lk B p) (lk L p) (lk R p)
def outO (p:ByteArray):Option File:=match (vF B L R p).1,lk L p with
 | some v,some _=>some ⟨p,v⟩
 | _,_=>Option.none
def Vi (p:ByteArray):Option File:=match (vF B L R p).1,lk L p with
 | some v,Option.none=>some ⟨p,v⟩
 | _,_=>Option.none
def fstO (left right:TreePatch) (p:ByteArray):Option Arr2_Int:=if (vF B L R p).2=true then Option.none else some ⟨Yd left p,Yd right p⟩
end
theorem fm_snoc {α β:Type} (f:α→Option β) (l:List α) (x:α):(l++[x]).filterMap f=l.filterMap f++(f x).toList:=by
 rw [List.filterMap_append];cases h:f x <;> simp [List.filterMap,h]
theorem fm_path {f:ByteArray→Option File} (hf:∀ p x,f p=some x→x.Path=p):∀ {l:Ab},SAsc l→Mq (l.filterMap f)
 | [],_=>O3
 | p::l,h=>by
  have h1:l.Pairwise fun x y=>sLt x y=true:=(D9.1 h).2;have ih:=fm_path hf (l:=l) h1;cases e:f p with
  | none=>rw [List.filterMap_cons_none e];exact ih
  | some x =>
   rw [List.filterMap_cons_some e];refine D9.2 ⟨fun y hy=>?_,ih⟩;obtain ⟨q,hq,hqy⟩:=Hu.1 hy;rw [hf p x e,hf q y hqy];exact (D9.1 h).1 q hq
theorem outO_path (B L R:Ai):∀ p x,outO B L R p=some x→x.Path=p:=by
 intro p x h;unfold outO at h;split at h
 ·cases h;rfl
 ·cases h
theorem lateO_path (B L R:Ai):∀ p x,Vi B L R p=some x→x.Path=p:=by
 intro p x h;unfold Vi at h;split at h
 ·cases h;rfl
 ·cases h
theorem put_end {l:Ai} (h:Mq l) (hl:l.length≤1000) {p:ByteArray} (hp:∀ f∈l,sLt f.Path p=true) {t:Ab} (ht:t.length≤1000000):Kx ⟨l⟩ p t=some ⟨l++[⟨p,t⟩]⟩:=by
 have hn:Lb l p=false:=by
  cases hh:Lb l p
  ·rfl
  ·obtain ⟨f,hf,e⟩:=Tg.1 hh;have:=hp f hf;rw [e,Qz] at this;cases this
 rw [Put_f h hl hn ht,ins_end hp]
theorem walk_f {B L R:Ai} (hB:TrOk B) (hL:TrOk L) (hR:TrOk R) {left right:TreePatch} (hcl:∀ c∈left.Changes,OkCh c) (hll:left.Changes.length≤30) (hcr:∀ c∈right.Changes,OkCh c) (hrl:right.Changes.length≤30) {fl fr:Fault}
  {K:Ab} (hK:SAsc K) (hKl:K.length≤100) (hKs:∀ p∈K,p.size≤60) :
  C7 (fun s=>A9.l3 ⟨B⟩ left right (⟨L⟩,fl) (⟨R⟩,fr) K s.1 s.2.1 s.2.2.1 s.2.2.2) (0,[],[],[])=some (K.filterMap (fstO B L R left right),K.filterMap (Vi B L R),K.filterMap (outO B L R),R):=by
 obtain ⟨r,e,rfl⟩:=La (f:=fun s=>A9.l3 ⟨B⟩ left right (⟨L⟩,fl) (⟨R⟩,fr) K s.1 s.2.1 s.2.2.1 s.2.2.2) K.length
  (fun k s=>s=((K.take k).filterMap (fstO B L R left right),(K.take k).filterMap (Vi B L R),(K.take k).filterMap (outO B L R)))
  (fun r=>r=(K.filterMap (fstO B L R left right),K.filterMap (Vi B L R),K.filterMap (outO B L R),R)) (by
  rintro k s hk rfl;have hsz:=hKs _ (Ar hk);have hKt:SAsc (K.take k):=List.Pairwise.sublist (List.take_sublist _ _) hK
  have hlt:∀ q∈K.take k,sLt q K[k]=true:=by
   intro q hq;obtain ⟨j,hj,rfl⟩:=Ci hq;rw [Bl] at hj;rw [Ew];exact (B0.1 hK) j k (by omega) hk (by omega)
  have so:=fm_path (outO_path B L R) hKt;have sl:=fm_path (lateO_path B L R) hKt;have lo:((K.take k).filterMap (outO B L R)).length≤k:=Bx (Cj _ _) (by rw [Bl];omega)
  have ll:((K.take k).filterMap (Vi B L R)).length≤k:=Bx (Cj _ _) (by rw [Bl];omega)
  have lf:((K.take k).filterMap (fstO B L R left right)).length≤k:=Bx (Cj _ _) (by rw [Bl];omega)
  have po:∀ f∈(K.take k).filterMap (outO B L R),sLt f.Path K[k]=true:=by
   intro f hf;obtain ⟨q,hq,e⟩:=Hu.1 hf;rw [outO_path B L R q f e];exact hlt q hq
  have pl:∀ f∈(K.take k).filterMap (Vi B L R),sLt f.Path K[k]=true:=by
   intro f hf;obtain ⟨q,hq,e⟩:=Hu.1 hf;rw [lateO_path B L R q f e];exact hlt q hq
  refine ⟨_,?_,rfl⟩;rw [As hk,fm_snoc,fm_snoc,fm_snoc];generalize (K.take k).filterMap (outO B L R)=o at so lo po;generalize (K.take k).filterMap (Vi B L R)=lt at sl ll pl;generalize (K.take k).filterMap (fstO B L R left right)=fs at lf;obtain ⟨m1,m2⟩:=merged_f (lk_ok hB K[k]) (lk_ok hL K[k]) (lk_ok hR K[k]);obtain ⟨t1,_⟩:=last_f hcl hll (path:=K[k]) (by omega)
  obtain ⟨t2,_⟩:=last_f hcr hrl (path:=K[k]) (by omega)
  unfold A9.l3;simp only;rw [Al,Ad (by omega),Bg hk,Aa,tcfind_f hL,Aa,tcfind_f hB,Aa,tcfind_f hR,Aa,m1,Aa]
  have hj6:∀ a b c,A9.j6 (k:Int) a b c=some (.next (((k+1:Nat):Int),a,b,c)):=by
   intro a b c;unfold A9.j6;rw [Br (by omega) (by omega),Aa];rfl
  have hv:vF B L R K[k]=mgO (lk B K[k]) (lk L K[k]) (lk R K[k]):=rfl
  have hj8:∀ a,A9.j8 (k:Int) lt o K[k] (ver (lk L K[k])) (ver (mgO (lk B K[k]) (lk L K[k]) (lk R K[k])).1,(mgO (lk B K[k]) (lk L K[k]) (lk R K[k])).2) a=some (.next (((k+1:Nat):Int),a,lt++(Vi B L R K[k]).toList,o++(outO B L R K[k]).toList)):=by
   intro a;unfold A9.j8 Vi outO;rw [hv];cases hm:(mgO (lk B K[k]) (lk L K[k]) (lk R K[k])).1 with
   | none =>
    simp [ver,hj6]
   | some v =>
    have hv2:=(m2 v hm).1;cases hlk:lk L K[k] with
    | none =>
     have e:=put_end sl (by omega) pl (t:=v) (by omega)
     simp [ver,e,hj6]
    | some w =>
     have e:=put_end so (by omega) po (t:=v) (by omega)
     simp [ver,e,hj6]
  unfold A9.j7 fstO;simp only;rw [hv,t1,Aa,t2,Aa];cases hc:(mgO (lk B K[k]) (lk L K[k]) (lk R K[k])).2
  ·rw [hc] at hj8;rw [Ad (show (!false)=true from rfl),Dp (by rw [Ak];omega),Aa,hj8]
   simp
  ·rw [hc] at hj8;rw [Ac (show ¬ (!true)=true by decide),hj8]
   simp) (by
  rintro s rfl;unfold A9.l3;simp only;rw [Al,Ac (by omega),Bw]
  exact ⟨_,rfl,rfl⟩) ([],[],[]) rfl
 exact e
def Xo (R out:Ai):Ai:=out.filter fun x=>!Lb R x.Path
theorem own_f {R out:Ai} (hR:TrOk R) (hl:out.length≤1000):C7 (fun s=>A9.l2 out R s.1 s.2) (0,[])=some (Xo R out):=by
 obtain ⟨r,e,rfl⟩:=La (f:=fun s=>A9.l2 out R s.1 s.2) out.length (fun k s=>s=Xo R (out.take k)) (fun r=>r=Xo R out) (by
  rintro k s hk rfl;have hlen:(Xo R (out.take k)).length≤k:=Bx (Ks _ _) (by rw [Bl];omega)
  have hj:∀ w,A9.j5 (k:Int) w=some (.next (((k+1:Nat):Int),w)):=by
   intro w;unfold A9.j5;rw [Br (by omega) (by omega),Aa];rfl
  refine ⟨_,?_,rfl⟩
  have e:Xo R (out.take (k+1))=Xo R (out.take k)++if Lb R out[k].Path=true then [] else [out[k]]:=by
   unfold Xo;rw [As hk,M0];cases h:Lb R out[k].Path <;> simp [h]
  have hi:(ver (lk R out[k].Path)).is=Lb R out[k].Path:=by
   cases h:Lb R out[k].Path
   ·rw [(lk_none hR.srt).2 h];rfl
   ·cases h2:lk R out[k].Path with
    | none=>rw [(lk_none hR.srt).1 h2] at h;cases h
    | some v=>rfl
  unfold A9.l2;simp only;rw [Al,Ad (by omega),Bg hk,Aa,tcfind_f hR,Aa,hi,e]
  cases h:Lb R out[k].Path
  ·rw [Ad (show (!false)=true from rfl),Dp (by rw [Ak];omega),Aa,hj,Ac Ae]
  ·rw [Ac (show ¬ (!true)=true by decide),hj,Ad rfl,Bh]) (by
  rintro s rfl;unfold A9.l2;simp only;rw [Al,Ac (by omega),Bw]
  exact ⟨_,rfl,rfl⟩) [] rfl
 exact e
theorem clash_any {l:Ai} {p:ByteArray} (hl:∀ f∈l,f.Path.size≤1000000) (hn:l.length≤1000000) (hp:p.size≤1000000):Gr l p (-1)=some (G0 l p):=by
 rw [clash_f hl hn hp];congr 1
 have key:∀ (l:Ai) (k:Nat),(K1 (clG p (-1)) k l).isSome=G0 l p:=by
  intro l
  induction l with
  | nil=>intro k;rfl
  | cons f l ih =>
   intro k
   have hcl:clG p (-1) k f=if Oc f.Path p=true then some true else Option.none:=by
    unfold clG;have hk:(k:Int) ≠ -1:=by omega
    by_cases h:Oc f.Path p=true
    ·rw [Ad ⟨hk,h⟩,Ad h]
    ·rw [Ac (fun hh=>h hh.2),Ac h]
   rw [K1,hcl];have:=ih (k+1);unfold G0 at this ⊢;rw [Lc,← this];cases h:Oc f.Path p
   ·rfl
   ·rfl
 exact key l 0
def V2 (own:Ai) (o:Ai) (x:File):Ai:=if G0 own x.Path=true then o else Yn o x
def secO (left right:TreePatch) (own:Ai) (x:File):Option Arr2_Int:=if G0 own x.Path=true then some ⟨Yd left x.Path,Yd right x.Path⟩ else Option.none
theorem late_mem {own:Ai}:∀ (late o:Ai) (f:File),f∈late.foldl (V2 own) o↔f∈o∨(f∈late∧G0 own f.Path=false)
 | [],o,f=>by simp
 | x::late,o,f=>by
  rw [Hg,late_mem late];unfold V2;cases h:G0 own x.Path
  ·rw [Ac Ae,ins_mem];constructor
   ·rintro ((rfl | h1) | ⟨h1,h2⟩)
    ·exact .inr ⟨Ce,h⟩
    ·exact .inl h1
    ·exact .inr ⟨Bk _ h1,h2⟩
   ·rintro (h1 | ⟨h1,h2⟩)
    ·exact .inl (.inr h1)
    ·rcases Bf.1 h1 with rfl | h1
     ·exact .inl (.inl rfl)
     ·exact .inr ⟨h1,h2⟩
  ·rw [Ad rfl];constructor
   ·rintro (h1 | ⟨h1,h2⟩)
    ·exact .inl h1
    ·exact .inr ⟨Bk _ h1,h2⟩
   ·rintro (h1 | ⟨h1,h2⟩)
    ·exact .inl h1
    ·rcases Bf.1 h1 with rfl | h1
     ·rw [h] at h2;cases h2
     ·exact .inr ⟨h1,h2⟩
theorem late_srt {own:Ai}:∀ (late o:Ai),Mq o→Mq late→(∀ f∈late,Lb o f.Path=false)→Mq (late.foldl (V2 own) o)∧(late.foldl (V2 own) o).length≤o.length+late.length
 | [],o,h,_,_=>⟨h,by simp⟩
 | x::late,o,h,hl,hn=>by
  have hl1:=D9.1 hl;rw [Hg];have hx:=hn x Ce
  have hS:Mq (V2 own o x)∧(V2 own o x).length≤o.length+1:=by
   unfold V2;split
   ·exact ⟨h,by omega⟩
   ·exact ⟨ins_srt h hx,Nat.le_of_eq (ins_len _ _)⟩
  have hn':∀ f∈late,Lb (V2 own o x) f.Path=false:=by
   intro f hf;have h1:=hn f (Bk _ hf);unfold V2;split
   ·exact h1
   ·cases hh:Lb (Yn o x) f.Path
    ·rfl
    ·obtain ⟨g,hg,e⟩:=Tg.1 hh;rcases ins_mem.1 hg with rfl | hg
     ·have:=hl1.1 f hf;rw [e,Qz] at this;cases this
     ·rw [Tg.2 ⟨g,hg,e⟩] at h1;cases h1
  obtain ⟨i1,i2⟩:=late_srt (own:=own) late _ hS.1 hl1.2 hn';exact ⟨i1,by rw [Eb];omega⟩
theorem late_f {left right:TreePatch} (hcl:∀ c∈left.Changes,OkCh c) (hll:left.Changes.length≤30) (hcr:∀ c∈right.Changes,OkCh c) (hrl:right.Changes.length≤30) {own late out:Ai}
  (ho:Mq out) (hol:out.length≤100) (hlt:Mq late) (hll2:late.length≤100) (hn:∀ f∈late,Lb out f.Path=false) (hsz:∀ f∈late,f.Path.size≤60) (htx:∀ f∈late,f.Lines.length≤1000) (hown:∀ f∈own,f.Path.size≤60) (hownl:own.length≤1000) :
  C7 (fun s=>A9.l1 left right late own s.1 s.2.1 s.2.2) (0,[],out)=some (late.filterMap (secO left right own),late.foldl (V2 own) out):=by
 obtain ⟨r,e,rfl⟩:=La (f:=fun s=>A9.l1 left right late own s.1 s.2.1 s.2.2) late.length
  (fun k s=>s=((late.take k).filterMap (secO left right own),(late.take k).foldl (V2 own) out)) (fun r=>r=(late.filterMap (secO left right own),late.foldl (V2 own) out)) (by
  rintro k s hk rfl;have hx:=Ar hk;have hs:=hsz _ hx;obtain ⟨q1,q2⟩:=late_srt (own:=own) (late.take k) out ho (List.Pairwise.sublist (List.take_sublist _ _) hlt) fun f hf=>hn f (C4 hf);rw [Bl] at q2;have q3:((late.take k).foldl (V2 own) out).length≤1000:=by omega
  have hno:Lb ((late.take k).foldl (V2 own) out) late[k].Path=false:=by
   cases hh:Lb ((late.take k).foldl (V2 own) out) late[k].Path
   ·rfl
   ·obtain ⟨g,hg,e⟩:=Tg.1 hh;rcases (late_mem _ _ _).1 hg with h1 | ⟨h1,_⟩
    ·have:=hn _ hx;rw [Tg.2 ⟨g,h1,e⟩] at this;cases this
    ·obtain ⟨j,hj,rfl⟩:=Ci h1;rw [Bl] at hj;rw [Ew] at e;have:=(B0.1 hlt) j k (by omega) hk (by omega)
     rw [e,Qz] at this;cases this
  have ls:((late.take k).filterMap (secO left right own)).length≤k:=Bx (Cj _ _) (by rw [Bl];omega)
  have hj:∀ a b,A9.j4 (k:Int) a b=some (.next (((k+1:Nat):Int),a,b)):=by
   intro a b;unfold A9.j4;rw [Br (by omega) (by omega),Aa];rfl
  obtain ⟨t1,_⟩:=last_f hcl hll (path:=late[k].Path) (by omega)
  obtain ⟨t2,_⟩:=last_f hcr hrl (path:=late[k].Path) (by omega)
  refine ⟨_,?_,rfl⟩;rw [As hk,fm_snoc,Km];unfold A9.l1;simp only [Hg,List.foldl_nil];rw [Al,Ad (by omega),Bg hk,Aa,clash_any (fun f hf=>by have:=hown f hf;omega) (by omega) (by omega),Aa]
  cases h:G0 own late[k].Path
  ·have e1:secO left right own late[k]=Option.none:=by unfold secO;rw [h];rfl
   have e2:∀ o,V2 own o late[k]=Yn o late[k]:=fun o=>by unfold V2;rw [h];rfl
   rw [Ac Ae,Put_f q1 q3 hno (Bx (htx _ hx) (by decide)),Aa,hj,e1,e2]
   simp
  ·have e1:secO left right own late[k]=some ⟨Yd left late[k].Path,Yd right late[k].Path⟩:=by unfold secO;rw [h];rfl
   have e2:∀ o,V2 own o late[k]=o:=fun o=>by unfold V2;rw [h];rfl
   rw [Ad rfl,t1,Aa,t2,Aa,Dp (by rw [Ak];omega),Aa,hj,e1,e2]
   rfl) (by
  rintro s rfl;unfold A9.l1;simp only;rw [Al,Ac (by omega),Bw]
  exact ⟨_,rfl,rfl⟩) ([],out) rfl
 exact e
end Go.Dc
set_option linter.unusedSimpArgs false
set_option linter.unusedVariables false
set_option maxRecDepth 4000
noncomputable section
namespace Go.Dc
open Go
section
variable (B L R : Ai)
def tmK:Ab:=ksort (Kv B++Kv L++Kv R)
def W8:Ai:=(tmK B L R).filterMap (outO B L R)
def O9:Ai:=(tmK B L R).filterMap (Vi B L R)
def tmFst (left right:TreePatch):Bq:=(tmK B L R).filterMap (fstO B L R left right)
def Wu:Ai:=Xo R (W8 B L R)
def tmFin:Ai:=(O9 B L R).foldl (V2 (Wu B L R)) (W8 B L R)
def tmSec (left right:TreePatch):Bq:=(O9 B L R).filterMap (secO left right (Wu B L R))
end
theorem mem_K {B L R:Ai} {p:ByteArray}:p∈tmK B L R↔Lb B p=true∨Lb L p=true∨Lb R p=true:=by
 unfold tmK;rw [ksort_mem,Az,Az,pathsL_mem,pathsL_mem,pathsL_mem];exact or_assoc
theorem not_K {B L R:Ai} (hB:Mq B) (hL:Mq L) (hR:Mq R) {p:ByteArray} (h:p ∉ tmK B L R):vF B L R p=(Option.none,true):=by
 rw [mem_K,not_or,not_or] at h;have e1:=(lk_none hB).2 (by simpa using h.1)
 have e2:=(lk_none hL).2 (by simpa using h.2.1)
 have e3:=(lk_none hR).2 (by simpa using h.2.2)
 unfold vF mgO;rw [e1,e2,e3];simp
theorem mem_out {B L R:Ai} (hB:Mq B) (hL:Mq L) (hR:Mq R) {f:File}:f∈W8 B L R↔(vF B L R f.Path).1=some f.Lines∧lk L f.Path≠Option.none:=by
 unfold W8;rw [Hu];constructor
 ·rintro ⟨p,_,h⟩;have hp:=outO_path B L R p f h;subst hp;unfold outO at h;split at h
  ·rename_i v w h1 h2
   have e:=congrArg File.Lines (Gg h);simp only at e;exact ⟨by rw [h1,e],by rw [h2];simp⟩
  ·cases h
 ·rintro ⟨h1,h2⟩;refine ⟨f.Path,?_,?_⟩
  ·by_cases hk:f.Path∈tmK B L R
   ·exact hk
   ·rw [not_K hB hL hR hk] at h1;cases h1
  ·unfold outO;cases h3:lk L f.Path with
   | none=>exact absurd h3 h2
   | some w=>rw [h1]
theorem mem_late {B L R:Ai} (hB:Mq B) (hL:Mq L) (hR:Mq R) {f:File}:f∈O9 B L R↔(vF B L R f.Path).1=some f.Lines∧lk L f.Path=Option.none:=by
 unfold O9;rw [Hu];constructor
 ·rintro ⟨p,_,h⟩;have hp:=lateO_path B L R p f h;subst hp;unfold Vi at h;split at h
  ·rename_i v h1 h2
   have e:=congrArg File.Lines (Gg h);simp only at e;exact ⟨by rw [h1,e],h2⟩
  ·cases h
 ·rintro ⟨h1,h2⟩;refine ⟨f.Path,?_,?_⟩
  ·by_cases hk:f.Path∈tmK B L R
   ·exact hk
   ·rw [not_K hB hL hR hk] at h1;cases h1
  ·unfold Vi;rw [h1,h2]
theorem K_len {B L R:Ai} (hB:TrOk B) (hL:TrOk L) (hR:TrOk R):(tmK B L R).length≤72:=by
 have:=ksort_len (Kv B++Kv L++Kv R);unfold tmK;have h1:=hB.len;have h2:=hL.len;have h3:=hR.len;unfold Kv at *;rw [Aj,Aj,C1,C1,C1] at this;omega
theorem K_size {B L R:Ai} (hB:TrOk B) (hL:TrOk L) (hR:TrOk R):∀ p∈tmK B L R,p.size≤60:=by
 intro p hp
 have h:∀ l:Ai,TrOk l→Lb l p=true→p.size≤60:=by
  intro l hl hh;obtain ⟨f,hf,rfl⟩:=Tg.1 hh;exact Mu (hl.path f hf)
 rcases mem_K.1 hp with h1 | h1 | h1
 ·exact h B hB h1
 ·exact h L hL h1
 ·exact h R hR h1
theorem out_srt (B L R:Ai):Mq (W8 B L R):=fm_path (outO_path B L R) (ksort_asc _)
theorem late_srtT (B L R:Ai):Mq (O9 B L R):=fm_path (lateO_path B L R) (ksort_asc _)
theorem late_no {B L R:Ai} (hB:Mq B) (hL:Mq L) (hR:Mq R):∀ f∈O9 B L R,Lb (W8 B L R) f.Path=false:=by
 intro f hf;cases hh:Lb (W8 B L R) f.Path
 ·rfl
 ·obtain ⟨g,hg,e⟩:=Tg.1 hh;have h1:=((mem_late hB hL hR).1 hf).2;have h2:=((mem_out hB hL hR).1 hg).2;rw [e] at h2;exact absurd h1 h2
theorem fin_mem {B L R:Ai} {f:File}:f∈tmFin B L R↔f∈W8 B L R∨(f∈O9 B L R∧G0 (Wu B L R) f.Path=false):=late_mem _ _ _
theorem fin_srt {B L R:Ai} (hB:Mq B) (hL:Mq L) (hR:Mq R):Mq (tmFin B L R):=(late_srt (own:=Wu B L R) _ _ (out_srt B L R) (late_srtT B L R) (late_no hB hL hR)).1
theorem vF_ok {B L R:Ai} (hB:TrOk B) (hL:TrOk L) (hR:TrOk R) (p:ByteArray):OkO (vF B L R p).1:=(merged_f (lk_ok hB p) (lk_ok hL p) (lk_ok hR p)).2
theorem tmerge {B:Ai} {left right:TreePatch} (hB:TrOk B) (h1:(Gx left.Changes B).2.Code=0) (h2:(Gx right.Changes B).2.Code=0) :
  A9 ⟨B⟩ left right=some (if (tmFin B (Gx left.Changes B).1 (Gx right.Changes B).1).length > 24 then (⟨[]⟩,[],⟨10,-1⟩)
   else (⟨tmFin B (Gx left.Changes B).1 (Gx right.Changes B).1⟩,tmFst B (Gx left.Changes B).1 (Gx right.Changes B).1 left right++tmSec B (Gx left.Changes B).1 (Gx right.Changes B).1 left right,⟨0,0⟩)):=by
 obtain ⟨a1,a2,_,_,hL⟩:=U6 h1;obtain ⟨b1,b2,_,_,hR⟩:=U6 h2
 have f1:(Gx left.Changes B).2=⟨0,0⟩:=by
  obtain ⟨_,c2,c3,c4,_⟩:=U6 h1;rw [c4] at h1 ⊢;exact (run_ok _ _ _ c3 c2 h1).2
 have f2:(Gx right.Changes B).2=⟨0,0⟩:=by
  obtain ⟨_,c2,c3,c4,_⟩:=U6 h2;rw [c4] at h2 ⊢;exact (run_ok _ _ _ c3 c2 h2).2
 have eB:Ek B=⟨0,0⟩:=by
  rcases Ut B with h | h
  ·exact h
  ·exact absurd ((Hz B).2 hB) h
 unfold A9;rw [Xq,Aa];simp only;rw [eB];simp only [C3,Gk,Ct,A6,Cg];rw [Apply_f,Aa];simp only;rw [f1];simp only [C3,Gk,Ct,A6,Cg];rw [Apply_f,Aa];simp only;rw [f2];simp only [C3,Gk,Ct,A6,Cg];generalize (Gx left.Changes B).1=L at hL ⊢;generalize (Gx right.Changes B).1=R at hR ⊢;have lK:=K_len hB hL hR;have sK:=K_size hB hL hR;have lo:(W8 B L R).length≤72:=Bx (Cj _ _) lK;have ll:(O9 B L R).length≤72:=Bx (Cj _ _) lK;have lf:(tmFst B L R left right).length≤72:=Bx (Cj _ _) lK
 have hsz:∀ f,(f∈W8 B L R∨f∈O9 B L R)→f.Path.size≤60∧f.Lines.length≤120:=by
  intro f hf
  have hv:(vF B L R f.Path).1=some f.Lines:=by
   rcases hf with hf | hf
   ·exact ((mem_out hB.srt hL.srt hR.srt).1 hf).1
   ·exact ((mem_late hB.srt hL.srt hR.srt).1 hf).1
  refine ⟨?_,(vF_ok hB hL hR f.Path f.Lines hv).1⟩;by_cases hk:f.Path∈tmK B L R
  ·exact sK _ hk
  ·rw [not_K hB.srt hL.srt hR.srt hk] at hv;cases hv
 have lown:(Wu B L R).length≤72:=Bx (Ks _ _) lo
 have hlf:=late_f a2 a1 b2 b1 (own:=Wu B L R) (out_srt B L R) (by omega) (late_srtT B L R) (by omega) (late_no hB.srt hL.srt hR.srt) (fun f hf=>(hsz f (.inr hf)).1) (fun f hf=>by have:=(hsz f (.inr hf)).2;omega)
  (fun f hf=>(hsz f (.inl (Gt.1 hf).1)).1) (by omega)
 have ls:(tmSec B L R left right).length≤72:=Bx (Cj _ _) ll;rw [all_f3 hB.len hL.len hR.len,Aa];rw [show ksort (Kv B++Kv L++Kv R)=tmK B L R from rfl,walk_f hB hL hR a2 a1 b2 b1 (K:=tmK B L R) (ksort_asc _) (by omega) sK,Aa]
 simp only;rw [show (tmK B L R).filterMap (fstO B L R left right)=tmFst B L R left right from rfl,show (tmK B L R).filterMap (Vi B L R)=O9 B L R from rfl,show (tmK B L R).filterMap (outO B L R)=W8 B L R from rfl];unfold A9.j1;rw [own_f hR (by omega),Aa]
 unfold A9.j2;rw [show Xo R (W8 B L R)=Wu B L R from rfl,hlf,Aa];simp only;rw [show (O9 B L R).filterMap (secO left right (Wu B L R))=tmSec B L R left right from rfl,show (O9 B L R).foldl (V2 (Wu B L R)) (W8 B L R)=tmFin B L R from rfl];unfold A9.j3;rw [Al];by_cases h24:(tmFin B L R).length > 24
 ·rw [Ad (by omega),Ad h24]
 ·rw [Ac (by omega),Ac h24,Dp (by omega),Aa]
theorem fst_nil {B L R:Ai} (hB:Mq B) (hL:Mq L) (hR:Mq R) {left right:TreePatch}:tmFst B L R left right=[]↔∀ p,(vF B L R p).2=true:=by
 unfold tmFst;rw [List.filterMap_eq_nil_iff];constructor
 ·intro h p;by_cases hk:p∈tmK B L R
  ·have:=h p hk;unfold fstO at this;split at this
   ·assumption
   ·cases this
  ·rw [not_K hB hL hR hk]
 ·intro h p _;unfold fstO;rw [Ad (h p)]
theorem sec_nil {B L R:Ai} {left right:TreePatch}:tmSec B L R left right=[]↔∀ x∈O9 B L R,G0 (Wu B L R) x.Path=false:=by
 unfold tmSec;rw [List.filterMap_eq_nil_iff];constructor
 ·intro h x hx;have:=h x hx;unfold secO at this;cases hr:G0 (Wu B L R) x.Path
  ·rfl
  ·rw [Ad hr] at this;cases this
 ·intro h x hx;unfold secO;rw [h x hx,Ac Ae]
theorem tm_left {B L R:Ai} (hB:TrOk B) (hL:TrOk L) (hR:TrOk R) (h:∀ p,vF B L R p=(lk R p,true)) (left right:TreePatch):tmFin B L R=R∧tmFst B L R left right=[]∧tmSec B L R left right=[]:=by
 have hown:Wu B L R=[]:=by
  unfold Wu Xo;rw [List.filter_eq_nil_iff];intro f hf;have h1:=((mem_out hB.srt hL.srt hR.srt).1 hf).1;rw [h] at h1
  have:Lb R f.Path=true:=by
   cases hh:Lb R f.Path
   ·rw [(lk_none hR.srt).2 hh] at h1;cases h1
   ·rfl
  rw [this];simp
 have hrel:∀ p,G0 (Wu B L R) p=false:=fun p=>by rw [hown];rfl
 refine ⟨res_eq (fin_srt hB.srt hL.srt hR.srt) hR.srt fun f=>?_,(fst_nil hB.srt hL.srt hR.srt).2 fun p=>by rw [h],sec_nil.2 fun x hx=>hrel _⟩
 rw [fin_mem,mem_out hB.srt hL.srt hR.srt,mem_late hB.srt hL.srt hR.srt,h,hrel];constructor
 ·rintro (⟨h1,_⟩ | ⟨⟨h1,_⟩,_⟩)
  ·exact (lk_some hR.srt).1 h1
  ·exact (lk_some hR.srt).1 h1
 ·intro hf;have:=(lk_some hR.srt (p:=f.Path) (L:=f.Lines)).2 hf;by_cases hn:lk L f.Path=Option.none
  ·exact .inr ⟨⟨this,hn⟩,rfl⟩
  ·exact .inl ⟨this,hn⟩
end Go.Dc
