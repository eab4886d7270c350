import Derived.Test.YtkcnbopeghkdlaaGreatDoorDcF0
set_option linter.unusedSimpArgs false
set_option linter.unusedVariables false
set_option maxRecDepth 4000
namespace Go.Dc
open Go
theorem end_f (h:Hunk) (h0 : -1000000≤h.At) (h1:h.At≤1000000) (h2:h.Old.length≤1000000):My h=some (h.At+h.Old.length):=by
 unfold My;rw [C9 (by omega) (by omega)];rfl
def hcode (h:Hunk) (e:Int):Int :=
 if h.At < 0∨h.At > 120 then 3 else if (Cl h.Old).Code≠0 then (Cl h.Old).Code else if (Cl h.New).Code≠0 then (Cl h.New).Code else
 if h.Old.length+h.New.length=0∨h.At≤e then 5 else if h.At+h.Old.length > 120 then 3 else 0
theorem Mz {l:Ag} (h:(Cl l).Code=0):l.length≤120:=((Ko l).2 ((Gq l).2 h)).1
theorem hunk_f (h:Hunk) (e:Int):G4 h e=some (hcode h e):=by
 unfold G4 hcode;by_cases ha:h.At < 0∨h.At > 120
 ·rw [Af ha]
  have:(if decide (h.At < 0)=true then some true else some (decide (h.At > 120)))=some true:=by
   rw [A2];by_cases h0:h.At < 0
   ·rw [Af h0]
   ·rw [Ae h0,Aw (by omega)]
  rw [this,Aa,Af rfl]
 ·rw [Ae ha]
  have:(if decide (h.At < 0)=true then some true else some (decide (h.At > 120)))=some false:=by
   rw [A2,Ae (by omega),Az (by omega)]
  rw [this,Aa,Ae (by decide)]
  have l0:G4.l1 h 0=if (Cl h.Old).Code≠0 then some (.done (.inl (Cl h.Old).Code)) else some (.next 1):=by
   unfold G4.l1;rw [A2,Af (by decide),show at? ([h.Old,h.New]:List Ag) 0=some h.Old from rfl,Aa,V8,Aa]
   rcases Qr h.Old with h1 | h1
   ·rw [h1,Ae (by decide),Ae (by decide),C9 (by omega) (by omega)];rfl
   ·rw [Af h1,Af (Qd.2 fun h2=>h1 h2.1)]
  have l1:G4.l1 h 1=if (Cl h.New).Code≠0 then some (.done (.inl (Cl h.New).Code)) else some (.next 2):=by
   unfold G4.l1;rw [A2,Af (by decide),show at? ([h.Old,h.New]:List Ag) 1=some h.New from rfl,Aa,V8,Aa]
   rcases Qr h.New with h1 | h1
   ·rw [h1,Ae (by decide),Ae (by decide),C9 (by omega) (by omega)];rfl
   ·rw [Af h1,Af (Qd.2 fun h2=>h1 h2.1)]
  have l2:G4.l1 h 2=some (.done (.inr ())):=by
   unfold G4.l1;rw [A2,Ae (by decide)]
  by_cases ho:(Cl h.Old).Code≠0
  ·rw [Af ho] at l0 ⊢;rw [C4 l0,Aa]
  ·rw [Ae ho] at l0 ⊢;by_cases hw:(Cl h.New).Code≠0
   ·rw [Af hw] at l1 ⊢;rw [C7 l0,C4 l1,Aa]
   ·rw [Ae hw] at l1 ⊢;rw [C7 l0,C7 l1,C4 l2,Aa];have s1:=Mz (l:=h.Old) (by omega)
    have s2:=Mz (l:=h.New) (by omega)
    simp only;unfold G4.j1;rw [C9 (by omega) (by omega),Aa]
    by_cases hm:h.Old.length+h.New.length=0∨h.At≤e
    ·rw [Af hm]
     have:(if decide ((h.Old.length:Int)+(h.New.length:Int)=0)=true then some true else some (decide (h.At≤e)))=some true:=by
      rw [A2];by_cases h0:(h.Old.length:Int)+(h.New.length:Int)=0
      ·rw [Af h0]
      ·rw [Ae h0,Aw (by omega)]
     rw [this,Aa,Af rfl]
    ·rw [Ae hm]
     have:(if decide ((h.Old.length:Int)+(h.New.length:Int)=0)=true then some true else some (decide (h.At≤e)))=some false:=by
      rw [A2,Ae (by omega),Az (by omega)]
     rw [this,Aa,Ae (by decide),end_f h (by omega) (by omega) (by omega),Aa,A2]
     split <;> rfl
theorem hcode_zero {h:Hunk} {e:Int} (hc:hcode h e=0):0≤h.At∧(Cl h.Old).Code=0∧(Cl h.New).Code=0∧0 < h.Old.length+h.New.length∧e < h.At∧h.At+h.Old.length≤120:=by
 unfold hcode at hc;split at hc
 ·cases hc
 ·split at hc
  ·rename_i h1 h2;exact absurd hc h2
  ·split at hc
   ·rename_i h1 h2 h3;exact absurd hc h3
   ·split at hc
    ·cases hc
    ·split at hc
     ·cases hc
     ·omega
def pscan:Int→Int→Bx→Option Fault
 | _,_,[]=>Option.none
 | i,e,h::r=>if hcode h e=0 then pscan (i+1) (h.At+h.Old.length) r else some ⟨hcode h e,i⟩
def Kp (p:Patch):Fault:=if p.Hunks.length > 130 then ⟨2,-1⟩ else (pscan 0 (-1) p.Hunks).getD ⟨0,0⟩
theorem pscan_code:∀ (l:Bx) (i e:Int) (f:Fault),pscan i e l=some f→f.Code≠0
 | [],_,_,_,h=>by cases h
 | x::r,i,e,f,h=>by
  rw [pscan] at h;split at h
  ·exact pscan_code r _ _ f h
  ·rename_i h0;cases h;exact h0
theorem patchFault_ok (p:Patch):Kp p=⟨0,0⟩∨(Kp p).Code≠0:=by
 unfold Kp;split
 ·right;show (2:Int)≠0;decide
 ·cases h:pscan 0 (-1) p.Hunks with
  | none=>left;rfl
  | some f=>right;exact pscan_code _ _ _ f h
theorem patchFault_zero (p:Patch):Kp p=⟨0,0⟩↔(Kp p).Code=0:=by
 rcases patchFault_ok p with h | h
 ·rw [h];exact ⟨fun _=>rfl,fun _=>rfl⟩
 ·exact ⟨fun h2=>by rw [h2],fun h2=>absurd h2 h⟩
theorem pvalidate_f (p:Patch):Em p=some (Kp p):=by
 unfold Em Kp;rw [A2];by_cases h130:p.Hunks.length > 130
 ·rw [Af (by omega),Af h130]
 ·rw [Ae (by omega),Ae h130]
  have key:∀ (rest:Bx) (k:Nat) (e:Int),p.Hunks.drop k=rest→Gk (fun s=>Em.l1 p s.1 s.2) ((k:Int),e)=some (orL (pscan k e rest)):=by
   intro rest
   induction rest with
   | nil =>
    intro k e hk;have:=Ni hk;refine C4 ?_;unfold Em.l1;rw [A2,Ae (by omega)];rfl
   | cons h r ih =>
    intro k e hk;obtain ⟨hlt,hh,hr⟩:=N7 hk;rw [pscan];by_cases hc:hcode h e=0
    ·obtain ⟨z1,z2,z3,z4,z5,z6⟩:=hcode_zero hc
     have e0:Em.l1 p (k:Int) e=some (.next (((k+1:Nat):Int),h.At+h.Old.length)):=by
      unfold Em.l1;rw [A2,Af (by omega),Ds hlt,Aa,hh,hunk_f,Aa,hc,Q8,Af rfl,end_f h (by omega) (by omega) (by omega),Aa,C9 (by omega) (by omega),Aa];rfl
     rw [Af hc,C7 e0];exact ih (k+1) _ hr
    ·rw [Ae hc];refine C4 ?_;unfold Em.l1;rw [A2,Af (by omega),Ds hlt,Aa,hh,hunk_f,Aa,Q8,Ae hc];rfl
  rw [show (0:Int)=((0:Nat):Int) from rfl,key p.Hunks 0 _ rfl,Aa];cases pscan ((0:Nat):Int) (-1) p.Hunks <;> rfl
def Good:Int→Bx→Prop
 | _,[]=>True
 | e,h::r=>hcode h e=0∧Good (h.At+h.Old.length) r
theorem pscan_good:∀ (l:Bx) (i e:Int),pscan i e l=Option.none↔Good e l
 | [],_,_=>by simp [pscan,Good]
 | h::r,i,e=>by
  rw [pscan,Good];by_cases hc:hcode h e=0
  ·rw [Af hc,pscan_good r];simp [hc]
  ·rw [Ae hc];simp [hc]
theorem Td (p:Patch):(Kp p).Code=0↔p.Hunks.length≤130∧Good (-1) p.Hunks:=by
 rw [← patchFault_zero,← pscan_good p.Hunks 0 (-1)];unfold Kp;by_cases h:p.Hunks.length > 130
 ·rw [Af h];constructor
  ·intro h2;cases h2
  ·intro h2;omega
 ·rw [Ae h];cases hs:pscan 0 (-1) p.Hunks with
  | none=>simp;omega
  | some f =>
   have:=pscan_code _ _ _ f hs;constructor
   ·intro h2;simp at h2;rw [h2] at this;exact absurd rfl this
   ·intro h2;cases h2.2
def occ (text part:Ag) (k:Nat):Prop:=k≤text.length∧(text.drop k).take part.length=part
instance (text part:Ag) (k:Nat):Decidable (occ text part k):=by unfold occ;infer_instance
theorem occ_len {text part:Ag} {k:Nat} (h:occ text part k):k+part.length≤text.length:=by
 have h1:=congrArg List.length h.2;simp at h1;have:=h.1;omega
theorem Yy (a b:Ag) (hb:a.length≤1000000):Ho a b=some (decide (a=b)):=by
 unfold Ho;rw [Q8];by_cases hl:a.length=b.length
 ·rw [Af (by omega)]
  have key:∀ (rest:Ag) (k:Nat),a.drop k=rest→a.take k=b.take k→Gk (fun s=>Ho.l1 a b s) (k:Int)=some (if a=b then .inr () else .inl false):=by
   intro rest
   induction rest with
   | nil =>
    intro k hk ht;have:=Ni hk;rw [C5 (by omega),C5 (by omega)] at ht
    rw [Af ht];refine C4 ?_;unfold Ho.l1;rw [A2,Ae (by omega)]
   | cons x r ih =>
    intro k hk ht;obtain ⟨hlt,hx,hr⟩:=N7 hk;have hlt2:k < b.length:=by omega
    by_cases he:x=b[k]
    ·have e0:Ho.l1 a b (k:Int)=some (.next ((k+1:Nat):Int)):=by
      unfold Ho.l1;rw [A2,Af (by omega),Ds hlt,Aa,hx,Ds hlt2,Aa,Q8,Af he,C9 (by omega) (by omega),Aa];rfl
     rw [C7 e0];exact ih (k+1) hr (by rw [Bi hlt,Bi hlt2,ht,hx,he])
    ·rw [Ae (fun e=>he (by rw [← hx];simp only [e]))]
     refine C4 ?_;unfold Ho.l1;rw [A2,Af (by omega),Ds hlt,Aa,hx,Ds hlt2,Aa,Q8,Ae he]
  rw [show (0:Int)=((0:Nat):Int) from rfl,key a 0 rfl rfl,Aa];by_cases h:a=b
  ·rw [Af h,Aw h];rfl
  ·rw [Ae h,Az h]
 ·rw [Ae (by omega),Az (fun e=>hl (by rw [e]))]
theorem occurs_f (text part:Ag) (i:Int) (h1:text.length≤1000000) (h2:part.length≤1000000):T0 text part i=some (decide (0≤i∧occ text part i.toNat)):=by
 unfold T0;by_cases hi:0≤i∧i≤text.length
 ·have e1:(if decide (i ≥ 0)=true then some (decide (i≤(text.length:Int))) else some false)=some true:=by
   rw [A2,Af hi.1,Aw hi.2]
  rw [e1,Aa,Af rfl,C9 (by omega) (by omega),Aa,Aa,A2]
  by_cases hp:(part.length:Int)≤text.length - i
  ·rw [Af hp,C9 (by omega) (by omega),Aa,Vd (by omega) (by omega) (by omega),Aa,Yy _ _ (by simp;omega),Aa,Aa]
   congr 1
   have:(text.take (i+(part.length:Int)).toNat).drop i.toNat=(text.drop i.toNat).take part.length:=by
    rw [List.take_drop];congr 2;omega
   rw [this];rw [C1];unfold occ;constructor
   ·intro h;exact ⟨by omega,by omega,h⟩
   ·intro h;exact h.2.2
  ·rw [Ae hp,Aa];congr 1;rw [eq_comm,G6];rintro ⟨_,h⟩;have:=occ_len h;omega
 ·have e1:(if decide (i ≥ 0)=true then some (decide (i≤(text.length:Int))) else some false)=some false:=by
   rw [A2];by_cases h0:i ≥ 0
   ·rw [Af h0,Az (by omega)]
   ·rw [Ae h0]
  rw [e1];simp only [Aa,Bc,Cg];congr 1;rw [eq_comm,G6];rintro ⟨h0,h⟩;exact hi ⟨h0,by have:=h.1;omega⟩
def rawS:Bx→Ag→Nat→Ag
 | [],text,low=>text.drop low
 | h::r,text,low=>(text.drop low).take (h.At.toNat - low)++(h.New++rawS r text (h.At.toNat+h.Old.length))
def Fits (text:Ag) (l:Bx):Prop:=∀ h∈l,occ text h.Old h.At.toNat
theorem raw_f (text:Ag) (ht:text.length≤120) (hs:Bx) (hn:hs.length≤130):∀ (rest:Bx) (k low:Nat) (out:Ag) (e:Int),hs.drop k=rest→Good e rest→Fits text rest→(low:Int)≤e+1→low≤text.length→out.length≤k * 240→k≤130 →
  ∃ fin:Nat,fin≤text.length∧∃ o,Gk (fun s=>Ei.l1 hs text s.1 s.2.1 s.2.2) ((k:Int),out,(low:Int))=some (o,(fin:Int))∧o++text.drop fin=out++rawS rest text low∧o.length≤131 * 240:=by
 intro rest
 induction rest with
 | nil =>
  intro k low out e hk _ _ _ hlow hout hk130;have:=Ni hk;refine ⟨low,hlow,out,C4 ?_,rfl,?_⟩
  ·unfold Ei.l1;rw [A2,Ae (by omega)]
  ·have:k * 240≤130 * 240:=A3 _ hk130;omega
 | cons h r ih =>
  intro k low out e hk hg hf hle hlow hout hk130;obtain ⟨hlt,hh,hr⟩:=N7 hk;obtain ⟨hc,hg'⟩:=hg;obtain ⟨z1,z2,z3,z4,z5,z6⟩:=hcode_zero hc;have ho:=occ_len (hf h (by simp))
  have l2:=Mz z3;have hka:k < 130:=by omega
  have hlo:low≤h.At.toNat:=by omega
  have e0:Ei.l1 hs text (k:Int) out (low:Int)=some (.next (((k+1:Nat):Int),out++(text.drop low).take (h.At.toNat - low)++h.New,((h.At.toNat+h.Old.length:Nat):Int))):=by
   unfold Ei.l1
   have hcut:(text.take h.At.toNat).drop (low:Int).toNat=(text.drop low).take (h.At.toNat - low):=by
    rw [Bn,List.drop_take]
   rw [A2,Af (by omega),Ds hlt,Aa,hh,Vd (by omega) (by omega) (by omega),Aa,hcut,
    H6 (by simp;omega),Aa,H6 (by simp;omega),Aa,end_f h (by omega) (by omega) (by omega),Aa,C9 (by omega) (by omega),Aa,
    show h.At+(h.Old.length:Int)=((h.At.toNat+h.Old.length:Nat):Int) by omega]
   rfl
  rw [C7 e0];obtain ⟨fin,f1,o,f2,f3,f4⟩:=ih (k+1) (h.At.toNat+h.Old.length) (out++(text.drop low).take (h.At.toNat - low)++h.New) (h.At+h.Old.length) hr hg' (fun q hq=>hf q (Be _ hq)) (by omega) (by omega) (by simp;omega) (by omega)
  refine ⟨fin,f1,o,f2,?_,f4⟩;rw [f3,rawS];simp only [A6]
theorem Raw_f {text:Ag} (ht:text.length≤120) {hs:Bx} (hn:hs.length≤130) (hg:Good (-1) hs) (hf:Fits text hs):Ei hs text 0 (text.length:Int)=some (rawS hs text 0):=by
 obtain ⟨fin,f1,o,f2,f3,f4⟩:=raw_f text ht hs hn hs 0 0 [] (-1) rfl hg hf (by omega) (Dh _) (by simp) (by omega)
 unfold Ei;rw [show ((0:Nat):Int)=0 from rfl] at f2;rw [f2,Aa];unfold Ei.j1;rw [Vd (by omega) (by omega) (by omega),Aa,Bn,Bn,C2,H6 (by simp;omega),Aa,f3]
 rfl
def oscan (text:Ag):Int→Bx→Option Fault
 | _,[]=>Option.none
 | i,h::r=>if occ text h.Old h.At.toNat then oscan text (i+1) r else some ⟨19,i⟩
theorem Zl (text:Ag):∀ (l:Bx) (i:Int),oscan text i l=Option.none↔Fits text l
 | [],_=>by simp [oscan,Fits]
 | h::r,i=>by
  rw [oscan];by_cases hc:occ text h.Old h.At.toNat
  ·rw [Af hc,Zl text r];simp [Fits,hc]
  ·rw [Ae hc];simp [Fits,hc]
theorem oscan_code (text:Ag):∀ (l:Bx) (i:Int) (f:Fault),oscan text i l=some f→f.Code=19
 | [],_,_,h=>by cases h
 | x::r,i,f,h=>by
  rw [oscan] at h;split at h
  ·exact oscan_code text r _ f h
  ·cases h;rfl
def Qj (p:Patch) (text:Ag):Ag×Fault :=
 if (Kp p).Code≠0 then ([],Kp p) else if (Cl text).Code≠0 then ([],⟨(Cl text).Code,-2⟩) else
 match oscan text 0 p.Hunks with
 | some f=>([],f)
 | Option.none=>if (rawS p.Hunks text 0).length > 120 then ([],⟨10,-1⟩) else (rawS p.Hunks text 0,⟨0,0⟩)
theorem good_at:∀ {l:Bx} {e:Int},Good e l → -1≤e→∀ h∈l,0≤h.At∧h.At+h.Old.length≤120∧(Cl h.Old).Code=0∧(Cl h.New).Code=0∧0 < h.Old.length+h.New.length
 | x::r,e,hg,he,h,hm=>by
  obtain ⟨hc,hg'⟩:=hg;obtain ⟨z1,z2,z3,z4,z5,z6⟩:=hcode_zero hc;rcases Bt.1 hm with rfl | hm
  ·exact ⟨z1,z6,z2,z3,z4⟩
  ·exact good_at hg' (by omega) h hm
theorem apply_f (p:Patch) (text:Ag):G1 p text=some (Qj p text):=by
 unfold G1 Qj;rw [pvalidate_f,Aa];rcases patchFault_ok p with hp | hp
 ·rw [hp];simp only [ne_eq,not_true,Cg];rw [Ae (by simp),second_f,Aa]
  rcases Qr text with ht | ht
  ·rw [ht];simp only [ne_eq,not_true,Cg,G0];rw [Ae (by simp)]
   obtain ⟨hn,hg⟩:=(Td p).1 ((patchFault_zero p).1 hp);have hl:=Mz ((Gq text).1 ht)
   have key:∀ (rest:Bx) (k:Nat),p.Hunks.drop k=rest→(∀ h∈rest,0≤h.At∧h.Old.length≤120)→Gk (fun s=>G1.l1 p text s) (k:Int)=some (orL ((oscan text k rest).map fun f=>(([]:Ag),f))):=by
    intro rest
    induction rest with
    | nil =>
     intro k hk _;have:=Ni hk;refine C4 ?_;unfold G1.l1;rw [A2,Ae (by omega)];rfl
    | cons h r ih =>
     intro k hk hall;obtain ⟨hlt,hh,hr⟩:=N7 hk;obtain ⟨h0,h1⟩:=hall h (by simp)
     rw [oscan]
     have eo:T0 text h.Old h.At=some (decide (occ text h.Old h.At.toNat)):=by
      rw [occurs_f _ _ _ (by omega) (by omega)];simp [h0]
     by_cases hc:occ text h.Old h.At.toNat
     ·have e0:G1.l1 p text (k:Int)=some (.next ((k+1:Nat):Int)):=by
       unfold G1.l1;rw [A2,Af (by omega),Ds hlt,Aa,hh,eo,Aa,Aw hc,Ae (by decide),C9 (by omega) (by omega),Aa];rfl
      rw [Af hc,C7 e0];exact ih (k+1) hr (fun q hq=>hall q (Be _ hq))
     ·rw [Ae hc];refine C4 ?_;unfold G1.l1;rw [A2,Af (by omega),Ds hlt,Aa,hh,eo,Aa,Az hc,Af (by decide)];rfl
   rw [show (0:Int)=((0:Nat):Int) from rfl,key p.Hunks 0 rfl (fun h hm=>by
    obtain ⟨z1,_,z2,_⟩:=good_at hg (by omega) h hm
    exact ⟨z1,Mz z2⟩),Aa,show (((0:Nat):Int))=0 from rfl]
   cases ho:oscan text 0 p.Hunks with
   | some f=>rfl
   | none =>
    have hf:=(Zl text p.Hunks 0).1 ho;simp only [Option.map_none,orL];unfold G1.j1;rw [Raw_f hl hn hg hf,Aa,A2];by_cases h120:(rawS p.Hunks text 0).length > 120
    ·rw [Af (by omega),Af h120]
    ·rw [Ae (by omega),Ae h120]
  ·simp only [ne_eq,ht,not_false_iff,G0,Cg];rw [Af (by simp)]
 ·simp only [ne_eq,hp,not_false_iff,G0];rw [Af (by simp [hp])]
theorem applyF_ok {p:Patch} {text:Ag} (h:(Qj p text).2.Code=0):p.Hunks.length≤130∧Good (-1) p.Hunks∧Lr text∧Fits text p.Hunks∧(rawS p.Hunks text 0).length≤120∧Qj p text=(rawS p.Hunks text 0,⟨0,0⟩):=by
 unfold Qj at h ⊢;by_cases hp:(Kp p).Code≠0
 ·rw [Af hp] at h;exact absurd h hp
 ·rw [Ae hp] at h ⊢;by_cases ht:(Cl text).Code≠0
  ·rw [Af ht] at h;exact absurd h ht
  ·rw [Ae ht] at h ⊢;cases ho:oscan text 0 p.Hunks with
   | some f =>
    rw [ho] at h;have:=oscan_code text _ _ _ ho;simp only at h;rw [this] at h;cases h
   | none =>
    rw [ho] at h;simp only at h ⊢;by_cases h120:(rawS p.Hunks text 0).length > 120
    ·rw [Af h120] at h;cases h
    ·rw [Ae h120];obtain ⟨a1,a2⟩:=(Td p).1 (by omega)
     exact ⟨a1,a2,(Ko _).2 ((Gq _).2 (by omega)),(Zl _ _ _).1 ho,by omega,rfl⟩
def gr (h:Hunk):Int:=(h.New.length:Int) - h.Old.length
def rng (h:Hunk):Range_commute:=⟨h.At,h.At+h.Old.length,gr h⟩
def newR:Int→Bx→Ht
 | _,[]=>[]
 | s,h::r=>⟨h.At+s,h.At+s+h.New.length,gr h⟩::newR (s+gr h) r
def tch (a b:Range_commute):Bool:=decide (a.High ≥ b.Low) && decide (b.High ≥ a.Low)
def SmH (B:Int) (h:Hunk):Prop:=-B≤h.At∧h.At≤B∧h.Old.length≤120∧h.New.length≤120
def Sm (B:Int) (l:Bx):Prop:=l.length≤130∧∀ h∈l,SmH B h
theorem sm_of {p:Patch} (h:(Kp p).Code=0):Sm 120 p.Hunks:=by
 obtain ⟨h1,h2⟩:=(Td p).1 h;refine ⟨h1,fun x hx=>?_⟩;obtain ⟨a1,a2,a3,a4,_⟩:=good_at h2 (by omega) x hx
 exact ⟨by omega,by omega,Mz a3,Mz a4⟩
theorem growth_f (h:Hunk) (h1:h.Old.length≤120) (h2:h.New.length≤120):Qh h=some (gr h):=by
 unfold Qh;rw [C9 (by omega) (by omega)];rfl
theorem oldRanges_f {B:Int} (hB:B≤20000) (p:Patch) (hp:Sm B p.Hunks):Gj p=some (p.Hunks.map rng):=by
 obtain ⟨hl,hs⟩:=hp
 have key:∀ (rest:Bx) (k:Nat) (out:Ht),p.Hunks.drop k=rest→out.length=k→Gk (fun s=>Gj.l1 p s.1 s.2) ((k:Int),out)=some (out++rest.map rng):=by
  intro rest
  induction rest with
  | nil =>
   intro k out hk _;have:=Ni hk;refine C4 ?_;simp only;unfold Gj.l1;rw [A2,Ae (by omega),List.map_nil,Ba]
  | cons h r ih =>
   intro k out hk h3;obtain ⟨hlt,hh,hr⟩:=N7 hk;obtain ⟨b1,b2,b3,b4⟩:=hs h (hh ▸ A5 hlt)
   have e0:Gj.l1 p (k:Int) out=some (.next (((k+1:Nat):Int),out++[rng h])):=by
    unfold Gj.l1
    rw [A2,Af (by omega),Ds hlt,Aa,hh,end_f h (by omega) (by omega) (by omega),Aa,growth_f h b3 b4,Aa,
     H6 (by simp only [Ar];omega),Aa,C9 (by omega) (by omega),Aa]
    rfl
   rw [C7 e0,ih (k+1) _ hr (by simp;omega),Eb,A6]
   rfl
 unfold Gj;rw [show (0:Int)=((0:Nat):Int) from rfl,key p.Hunks 0 [] rfl rfl,Aa];rfl
theorem clone_f (l:Ag) (h:l.length≤1000000):Nm l=some l:=by
 unfold Nm
 have e:((app? 16 ([]:Ag) l).bind fun y1=>some y1)=some l:=by
  rw [H6 (by simp only [Kt];omega)];rfl
 rw [e,nilIf_same (fun h=>by rw [h])]
theorem fless {f:Fault} (h:f=⟨0,0⟩∨f.Code≠0):(!(decide (f.Code=0) && decide (f.Index=0)))=decide (f.Code≠0):=by
 rcases h with h | h
 ·rw [h];rfl
 ·simp [h]
theorem patch_refl {B:Int} (p:Patch) (hp:Sm B p.Hunks):D7 p p=some true:=by
 obtain ⟨hl,hs⟩:=hp;unfold D7;rw [Q8,Af rfl]
 have key:∀ (rest:Bx) (k:Nat),p.Hunks.drop k=rest→Gk (fun s=>D7.l1 p p s) (k:Int)=some (.inr ()):=by
  intro rest
  induction rest with
  | nil =>
   intro k hk;have:=Ni hk;refine C4 ?_;unfold D7.l1;rw [A2,Ae (by omega)]
  | cons h r ih =>
   intro k hk;obtain ⟨hlt,hh,hr⟩:=N7 hk;obtain ⟨b1,b2,b3,b4⟩:=hs h (hh ▸ A5 hlt)
   have e0:D7.l1 p p (k:Int)=some (.next ((k+1:Nat):Int)):=by
    unfold D7.l1;rw [A2,Af (by omega)]
    simp only [Ds hlt,Aa,hh,Zm h.Old h.Old (by omega),Zm h.New h.New (by omega),Dd,C6,Bc,Cg]
    rw [C9 (by omega) (by omega)];rfl
   rw [C7 e0,ih (k+1) hr]
 rw [show (0:Int)=((0:Nat):Int) from rfl,key p.Hunks 0 rfl];rfl
structure Pc where
 k:Bool
 g:Int
 o:Ag
 n:Ag
def sel (t u:Bool):Int→List Pc→Bx
 | _,[]=>[]
 | e,c::r=>if c.k=t then ⟨e+c.g,c.o,c.n⟩::sel t u (e+c.g+c.o.length) r else sel t u (e+c.g+(if u=true then (c.n.length:Int) else c.o.length)) r
theorem sel_s {t u:Bool} {c:Pc} {r:List Pc} {e:Int} (h:c.k=t):sel t u e (c::r)=⟨e+c.g,c.o,c.n⟩::sel t u (e+c.g+c.o.length) r:=by rw [sel,Af h]
theorem sel_o {t:Bool} {c:Pc} {r:List Pc} {e:Int} (h:¬ c.k=t):sel t false e (c::r)=sel t false (e+c.g+c.o.length) r:=by rw [sel,Ae h,Ae (by decide)]
theorem sel_n {t:Bool} {c:Pc} {r:List Pc} {e:Int} (h:¬ c.k=t):sel t true e (c::r)=sel t true (e+c.g+c.n.length) r:=by rw [sel,Ae h,Af rfl]
def Val (m:List Pc):Prop:=∀ c∈m,1≤c.g
theorem val_nil:Val []:=fun _ hc=>by cases hc
def Srt:Int→Bx→Prop
 | _,[]=>True
 | e,h::r=>e < h.At∧Srt (h.At+h.Old.length) r
def NoT (a b:Ht):Prop:=∀ x∈a,∀ y∈b,tch x y=false
theorem lt_of_tch {a b:Range_commute} (h:tch a b=false):a.High < b.Low∨b.High < a.Low:=by
 unfold tch at h;by_cases h1:a.High ≥ b.Low
 ·by_cases h2:b.High ≥ a.Low
  ·rw [Aw h1,Aw h2] at h;cases h
  ·right;omega
 ·left;omega
theorem pieces:∀ (N:Nat) (pl ql:Bx) (e s:Int),pl.length+ql.length≤N→Srt e pl→Srt (e+s) ql→NoT (newR s pl) (ql.map rng)→∃ m,Val m∧pl=sel true false e m∧ql=sel false true (e+s) m:=by
 intro N
 induction N with
 | zero =>
  intro pl ql e s hN _ _ _;have h1:pl=[]:=Ec (by omega)
  have h2:ql=[]:=Ec (by omega)
  exact ⟨[],val_nil,h1,h2⟩
 | succ N ih =>
  intro pl ql e s hN hp hq hno
  have takeP:∀ (h:Hunk) (pr:Bx),pl=h::pr→Srt (h.At+h.Old.length+(s+gr h)) ql→∃ m,Val m∧pl=sel true false e m∧ql=sel false true (e+s) m:=by
   intro h pr hpl hq';subst hpl;obtain ⟨m,m1,m2,m3⟩:=ih pr ql (h.At+h.Old.length) (s+gr h) (by simp at hN;omega) hp.2 hq' (fun x hx y hy=>hno x (by rw [newR];exact Be _ hx) y hy)
   refine ⟨⟨true,h.At - e,h.Old,h.New⟩::m,?_,?_,?_⟩
   ·intro c hc;rcases Bt.1 hc with rfl | hc
    ·have:=hp.1;simp only;omega
    ·exact m1 c hc
   ·rw [sel_s (c:=⟨true,h.At - e,h.Old,h.New⟩) rfl];simp only;rw [show e+(h.At - e)=h.At by omega,← m2]
   ·rw [sel_n (by simp)]
    simp only;rw [show e+s+(h.At - e)+(h.New.length:Int)=h.At+h.Old.length+(s+gr h) by unfold gr;omega]
    exact m3
  have takeQ:∀ (h:Hunk) (qr:Bx),ql=h::qr→Srt (h.At+h.Old.length - s) pl→∃ m,Val m∧pl=sel true false e m∧ql=sel false true (e+s) m:=by
   intro h qr hql hp';subst hql;have hq2:=hq.2;rw [show h.At+(h.Old.length:Int)=h.At+h.Old.length - s+s by omega] at hq2
   obtain ⟨m,m1,m2,m3⟩:=ih pl qr (h.At+h.Old.length - s) s (by simp at hN;omega) hp' hq2 (fun x hx y hy=>hno x hx y (by rw [Eb];exact Be _ hy))
   refine ⟨⟨false,h.At - s - e,h.Old,h.New⟩::m,?_,?_,?_⟩
   ·intro c hc;rcases Bt.1 hc with rfl | hc
    ·have:=hq.1;simp only;omega
    ·exact m1 c hc
   ·rw [sel_o (by simp)]
    simp only;rw [show e+(h.At - s - e)+(h.Old.length:Int)=h.At+h.Old.length - s by omega]
    exact m2
   ·rw [sel_s (c:=⟨false,h.At - s - e,h.Old,h.New⟩) rfl];simp only;rw [show e+s+(h.At - s - e)=h.At by omega,show h.At+(h.Old.length:Int)=h.At+h.Old.length - s+s by omega,← m3]
  match hpl:pl,hql:ql with
  | [],[]=>exact ⟨[],val_nil,rfl,rfl⟩
  | h::pr,[]=>exact takeP h pr rfl trivial
  | [],h::qr=>exact takeQ h qr rfl trivial
  | h::pr,y::qr =>
   have ht:=hno ⟨h.At+s,h.At+s+h.New.length,gr h⟩ (by rw [newR];simp) (rng y) (by simp)
   rcases lt_of_tch ht with h1 | h1
   ·refine takeP h pr rfl ⟨?_,hq.2⟩;have h1':h.At+s+h.New.length < y.At:=h1;unfold gr;omega
   ·refine takeQ y qr rfl ⟨?_,hp.2⟩;have h1':y.At+y.Old.length < h.At+s:=h1;omega
def chF (c:TreeChange):Int :=
 if c.Kind < 1∨c.Kind > 4 then 4
 else if K3 c.Path=false∨(c.Kind=3∧K3 c.To=false) then 12
 else if (c.Kind≠3∧c.To≠⟨#[]⟩)∨(c.Kind=3∧T8 c.Path c.To=true)∨(c.Lines≠[]∧(c.Kind=4∨c.Kind=3))∨(c.Kind=4∧c.Patch.Hunks=[])∨(c.Kind≠4∧c.Patch.Hunks≠[]) then 5
 else if (Cl c.Lines).Code≠0 then (Cl c.Lines).Code else (Kp c.Patch).Code
theorem len_pos_dec {α:Type} (l:List α):decide ((l.length:Int) > 0)=decide (l≠[]):=C1.2 (by cases l <;> simp <;> omega)
theorem len_zero_dec {α:Type} (l:List α):decide ((l.length:Int)=0)=decide (l=[]):=C1.2 (by cases l <;> simp <;> omega)
theorem rel_ok {c:TreeChange} (h:¬ (K3 c.Path=false∨(c.Kind=3∧K3 c.To=false))) (h3:c.Kind=3):c.Path.size≤1000000∧c.To.size≤1000000:=by
 have h1:K3 c.Path=true:=by cases hh:K3 c.Path with | true=>rfl | false=>exact absurd (Or.inl hh) h
 have h2:K3 c.To=true:=by cases hh:K3 c.To with | true=>rfl | false=>exact absurd (Or.inr ⟨h3,hh⟩) h
 have:=N1 h1;have:=N1 h2;omega
theorem check_f (c:TreeChange):Tb c=some (chF c):=by
 unfold Tb chF;simp only [ValidPath_f,orB,andB,Aa,len_pos_dec];by_cases h1:c.Kind < 1∨c.Kind > 4
 ·rw [Af h1,Af (by simpa using h1)]
 ·rw [Ae h1,Ae (by simpa using h1)]
  have e2:(!K3 c.Path || if decide (c.Kind=3)=true then !K3 c.To else false)=decide (K3 c.Path=false∨(c.Kind=3∧K3 c.To=false)):=by
   by_cases h3:c.Kind=3 <;> cases K3 c.Path <;> cases K3 c.To <;> simp [h3]
  have e2':(if !K3 c.Path=true then some true else (if decide (c.Kind=3)=true then some (!K3 c.To) else some false).bind fun x3=>some x3)=some (decide (K3 c.Path=false∨(c.Kind=3∧K3 c.To=false))):=by
   rw [← e2];by_cases h3:c.Kind=3 <;> cases K3 c.Path <;> cases K3 c.To <;> simp [h3]
  by_cases h2:K3 c.Path=false∨(c.Kind=3∧K3 c.To=false)
  ·rw [Af h2];rw [Aw h2] at e2';simp only [Aa,andB,orB] at e2' ⊢;rw [show (!K3 c.Path || (decide (c.Kind=3) && !K3 c.To))=true from by simpa using e2']
   rfl
  ·rw [Ae h2];rw [Az h2] at e2';simp only [Aa,andB,orB] at e2' ⊢;rw [show (!K3 c.Path || (decide (c.Kind=3) && !K3 c.To))=false from by simpa using e2']
   rw [Ae (by decide)]
   have e3:(if decide (c.Kind=3)=true then (Ln c.Path c.To).bind fun y3=>some y3 else some false)=some (decide (c.Kind=3) && T8 c.Path c.To):=by
    by_cases h3:c.Kind=3
    ·obtain ⟨a,b⟩:=rel_ok h2 h3;rw [Related_f a b,Aw h3];rfl
    ·rw [Az h3];rfl
   rw [e3];simp only [Aa,orB];by_cases h5:(c.Kind≠3∧c.To≠⟨#[]⟩)∨(c.Kind=3∧T8 c.Path c.To=true)∨(c.Lines≠[]∧(c.Kind=4∨c.Kind=3))∨(c.Kind=4∧c.Patch.Hunks=[])∨(c.Kind≠4∧c.Patch.Hunks≠[])
   ·rw [Af h5];by_cases g1:((!decide (c.Kind=3) && !decide (c.To=⟨#[]⟩)) || (decide (c.Kind=3) && T8 c.Path c.To))=true
    ·rw [Af g1]
    ·rw [Ae g1];by_cases g2:(decide (c.Lines≠[]) && (decide (c.Kind=4) || decide (c.Kind=3)))=true
     ·rw [Af g2]
     ·rw [Ae g2,Af];simp only [Hw,Gb,Bool.not_eq_true',Cs,G6,ne_eq] at g1 g2 h5 ⊢;by_cases k4:c.Kind=4 <;> by_cases kh:c.Patch.Hunks=[] <;> simp [k4,kh] at h5 g1 g2 ⊢
      all_goals first
       | omega
       | (rcases h5 with ⟨a,b⟩ | ⟨a,b⟩ | ⟨a,b⟩ <;> simp_all)
       | simp_all
   ·rw [Ae h5]
    rw [Ae (by
     simp only [Hw,Gb,Bool.not_eq_true',Cs,G6,ne_eq];intro h;rcases h with h | h
     ·exact h5 (Or.inl h)
     ·exact h5 (Or.inr (Or.inl h)))]
    rw [Ae (by
     simp only [Hw,Gb,Cs];intro h;exact h5 (Or.inr (Or.inr (Or.inl h))))]
    rw [Ae (by
     simp only [Bool.not_eq_true',G6];intro h;by_cases k4:c.Kind=4 <;> by_cases kh:c.Patch.Hunks=[] <;> simp [k4,kh] at h5 h)]
    rw [V8,Aa,fless (Qr c.Lines),A2,pvalidate_f];split <;> rfl
structure OkCh (c:TreeChange):Prop where
 kind:1≤c.Kind∧c.Kind≤4
 path:K3 c.Path=true
 to:c.Kind=3→K3 c.To=true∧T8 c.Path c.To=false
 noTo:c.Kind≠3→c.To=⟨#[]⟩
 noLines:c.Kind=4∨c.Kind=3→c.Lines=[]
 hunks:c.Kind=4→c.Patch.Hunks≠[]
 noHunks:c.Kind≠4→c.Patch.Hunks=[]
 lines:(Cl c.Lines).Code=0
 patch:(Kp c.Patch).Code=0
theorem chF_ok {c:TreeChange}:chF c=0↔OkCh c:=by
 unfold chF;constructor
 ·intro h;split at h
  ·cases h
  ·rename_i h1
   split at h
   ·cases h
   ·rename_i h2
    split at h
    ·cases h
    ·rename_i h3
     split at h
     ·rename_i h4;exact absurd h h4
     ·rename_i h4
      refine ⟨by omega,?_,fun k=>⟨?_,?_⟩,fun k=>?_,fun k=>?_,fun k e=>?_,fun k=>?_,by omega,h⟩
      ·cases hh:K3 c.Path with | true=>rfl | false=>exact absurd (Or.inl hh) h2
      ·cases hh:K3 c.To with | true=>rfl | false=>exact absurd (Or.inr ⟨k,hh⟩) h2
      ·cases hh:T8 c.Path c.To with | false=>rfl | true=>exact absurd (Or.inr (Or.inl ⟨k,hh⟩)) h3
      ·exact Decidable.by_contra fun e=>h3 (Or.inl ⟨k,e⟩)
      ·exact Decidable.by_contra fun e=>h3 (Or.inr (Or.inr (Or.inl ⟨e,k⟩)))
      ·exact h3 (Or.inr (Or.inr (Or.inr (Or.inl ⟨k,e⟩))))
      ·exact Decidable.by_contra fun e=>h3 (Or.inr (Or.inr (Or.inr (Or.inr ⟨k,e⟩))))
 ·rintro ⟨a1,a2,a3,a4,a5,a6,a7,a8,a9⟩;rw [Ae (by omega),Ae,Ae,Ae (by omega),a9]
  ·rintro (⟨h,e⟩ | ⟨h,e⟩ | ⟨e,h⟩ | ⟨h,e⟩ | ⟨h,e⟩)
   ·exact e (a4 h)
   ·rw [(a3 h).2] at e;cases e
   ·exact e (a5 h)
   ·exact a6 h e
   ·exact e (a7 h)
  ·rintro (h | ⟨h,e⟩)
   ·rw [a2] at h;cases h
   ·rw [(a3 h).1] at e;cases e
def Tg (c:TreeChange):Ag:=if c.Kind=3 then [c.Path,c.To] else [c.Path]
def touB (p:ByteArray) (c:TreeChange):Bool:=(Tg c).any fun q=>T8 q p
theorem paths_f (c:TreeChange):On c=some (Tg c):=by
 unfold On Tg;rw [A2];split <;> rfl
theorem OkCh.size {c:TreeChange} (h:OkCh c):∀ p∈Tg c,p.size≤60:=by
 intro p hp;unfold Tg at hp;split at hp
 ·rename_i k
  simp only [Bt,List.not_mem_nil,or_false] at hp;rcases hp with rfl | rfl
  ·exact N1 h.path
  ·exact N1 (h.to k).1
 ·simp only [Bd] at hp;subst hp;exact N1 h.path
theorem any_drop {α:Type} (p:α→Bool) {l:List α} {k:Nat} (h:k < l.length):(l.drop k).any p=(p l[k] || (l.drop (k+1)).any p):=by
 rw [E3 h,O8]
theorem paths_len (c:TreeChange):(Tg c).length≤2:=by unfold Tg;split <;> simp
theorem touches_f {p:ByteArray} {c:TreeChange} (hp:p.size≤1000000) (hc:∀ q∈Tg c,q.size≤60):B0 p [c]=some (touB p c):=by
 have hlen:=paths_len c
 have key:∀ (n k:Nat),k+n=(Tg c).length→(Gk (fun s=>B0.l2 p (Tg c) s) (k:Int)=some (.inr ())∧((Tg c).drop k).any (fun q=>T8 q p)=false) ∨
   ∃ j:Nat,Gk (fun s=>B0.l2 p (Tg c) s) (k:Int)=some (.inl (j:Int))∧((Tg c).drop k).any (fun q=>T8 q p)=true:=by
  intro n
  induction n with
  | zero =>
   intro k hk;left;refine ⟨C4 ?_,by rw [D4 (by omega)];rfl⟩
   unfold B0.l2;rw [A2,Ae (by omega)]
  | succ n ih =>
   intro k hk;have hlt:k < (Tg c).length:=by omega
   have hq:=hc _ (A5 hlt);rw [any_drop _ hlt]
   have e:B0.l2 p (Tg c) (k:Int)=if T8 (Tg c)[k] p=true then some (Step.done (Sum.inl (k:Int))) else some (Step.next ((k+1:Nat):Int)):=by
    unfold B0.l2;rw [A2,Af (by omega),Ds hlt,Aa,Related_f (by omega) hp,Aa]
    split
    ·rfl
    ·rw [C9 (by omega) (by omega)];rfl
   cases hb:T8 (Tg c)[k] p with
   | true =>
    rw [hb,Af rfl] at e;exact Or.inr ⟨k,C4 e,by rw [Bool.true_or]⟩
   | false =>
    rw [hb,Ae (by decide)] at e
    rw [C7 e,Qb];exact ih (k+1) (by omega)
 unfold B0
 have e1:B0.l1 p [c] 0=if touB p c=true then some (Step.done (Sum.inl true)) else some (Step.next 1):=by
  unfold B0.l1;rw [Af (by simp),show at? [c] 0=some c from rfl,Aa,paths_f,Aa]
  rcases key (Tg c).length 0 (by omega) with ⟨h1,h2⟩ | ⟨j,h1,h2⟩
  ·rw [show (0:Int)=((0:Nat):Int) from rfl,h1,Aa];rw [List.drop_zero] at h2;unfold touB;rw [h2,Ae (by decide)]
   rfl
  ·rw [show (0:Int)=((0:Nat):Int) from rfl,h1,Aa];rw [List.drop_zero] at h2;unfold touB;rw [h2,Af rfl];simp only [B0.j2];rw [A2,Af (by omega)]
 cases h:touB p c with
 | true =>
  rw [h,Af rfl] at e1;rw [C4 e1];rfl
 | false =>
  rw [h,Ae (by decide)] at e1
  have e2:B0.l1 p [c] 1=some (Step.done (Sum.inr ())):=by
   unfold B0.l1;rw [Ae (by simp)]
  rw [C7 e1,C4 e2];rfl
def edF (path:ByteArray) (p:Patch):TreeChange:=⟨4,path,ByteArray.empty,[],p⟩
theorem OkCh.sm {c:TreeChange} (h:OkCh c):Sm 120 c.Patch.Hunks:=sm_of h.patch
theorem OkCh.len {c:TreeChange} (h:OkCh c):c.Lines.length≤120:=Mz h.lines
theorem change_refl {c:TreeChange} {B:Int} (h1:c.Lines.length≤1000000) (h2:Sm B c.Patch.Hunks):K4 c c=some true:=by
 unfold K4;rw [Zm _ _ h1,patch_refl _ h2];simp
theorem refl_ok {c:TreeChange} (h:OkCh c):K4 c c=some true:=change_refl (by have:=h.len;omega) h.sm
theorem okCh_ed {path:ByteArray} {p:Patch} (h1:K3 path=true) (h2:p.Hunks≠[]) (h3:(Kp p).Code=0):OkCh (edF path p) :=
 ⟨⟨(by show (1:Int)≤4;decide),(by show (4:Int)≤4;decide)⟩,h1,(fun h=>by cases h),fun _=>rfl,fun _=>rfl,fun _=>h2,fun h=>absurd rfl h,(by show (Cl []).Code=0;rfl),h3⟩
def Lines (t:Ag):Prop:=∀ s∈t,OkLine s
theorem lines_of {t:Ag} (h:(Cl t).Code=0):Lines t:=((Ko t).2 ((Gq t).2 h)).2
theorem textFault_of {t:Ag} (h1:Lines t) (h2:t.length≤120):(Cl t).Code=0:=(Gq t).1 ((Ko t).1 ⟨h2,h1⟩)
theorem rawS_lines:∀ (hs:Bx) (t:Ag) (b:Nat),Lines t→(∀ h∈hs,Lines h.New)→Lines (rawS hs t b)
 | [],t,b,ht,_=>fun s hs=>ht s (Et hs)
 | h::r,t,b,ht,hn=>by
  intro s hs;rw [rawS] at hs;rcases Bl.1 hs with hs | hs
  ·exact ht s (Et (C3 hs))
  ·rcases Bl.1 hs with hs | hs
   ·exact hn h (by simp) s hs
   ·exact rawS_lines r t _ ht (fun x hx=>hn x (Be _ hx)) s hs
theorem applyF_of {p:Patch} (hp:(Kp p).Code=0) {t:Ag} (h1:Lines t) (h2:t.length≤120) (hf:Fits t p.Hunks):Qj p t=if (rawS p.Hunks t 0).length > 120 then ([],⟨10,-1⟩) else (rawS p.Hunks t 0,⟨0,0⟩):=by
 unfold Qj;rw [Ae (by omega),Ae (by rw [textFault_of h1 h2];simp),(Zl t p.Hunks 0).2 hf]
theorem both_f (a b:Ag):Uz a b=some (if (Cl a).Code≠0 then Cl a else if (Cl b).Code=0 then ⟨0,0⟩ else ⟨(Cl b).Code,-2⟩):=by
 unfold Uz;rw [V8,Aa];rcases Qr a with h | h
 ·rw [h,second_f];rfl
 ·rw [Af (Qd.2 fun h2=>h h2.1),Af h]
abbrev Cst:=Bx×Int×Bool
def Va (hs:Bx) (f:Hunk→Hunk):Bx:=match hs.getLast? with
 | some h=>hs.dropLast++[f h]
 | Option.none=>hs
def Ub (s:Cst):Cst:=(s.1,s.2.1+1,false)
def N6 (s:Cst):Bx:=if s.2.2 then s.1 else s.1++[⟨s.2.1,[],[]⟩]
def Vp (x:ByteArray) (s:Cst):Cst:=(Va (N6 s) fun h=>{ h with Old:=h.Old++[x] },s.2.1+1,true)
def Vx (y:ByteArray) (s:Cst):Cst:=(Va (N6 s) fun h=>{ h with New:=h.New++[y] },s.2.1,true)
def scr:Ag→Ag→Cst→Cst
 | [],[],s=>s
 | [],y::b,s=>scr [] b (Vx y s)
 | x::a,[],s=>scr a [] (Vp x s)
 | x::a,y::b,s=>if x=y then scr a b (Ub s) else if lcs a (y::b) ≥ lcs (x::a) b then scr a (y::b) (Vp x s) else scr (x::a) b (Vx y s)
 termination_by a b=>a.length+b.length
theorem set_last_eq {hs:Bx} {h:Hunk} (hl:hs.getLast? = some h) (f:Hunk→Hunk):∃ hlt:hs.length - 1 < hs.length,hs[hs.length - 1]=h∧hs.set (hs.length - 1) (f h)=Va hs f:=by
 have hne:hs≠[]:=by intro e;subst e;cases hl
 have hlt:hs.length - 1 < hs.length:=by have:=Nl.2 hne;omega
 have hgl:hs[hs.length - 1]=h:=by
  rw [List.getLast?_eq_some_getLast hne] at hl;simp only [Option.some.injEq] at hl;rw [← hl,List.getLast_eq_getElem]
 refine ⟨hlt,hgl,?_⟩;unfold Va;rw [hl];simp only;rw [List.set_eq_take_append_cons_drop,Af hlt,List.dropLast_eq_take];have:hs.drop (hs.length - 1+1)=[]:=Oe (by omega)
 rw [this]
theorem cOpen_last (s:Cst) (h:s.2.2=true→s.1≠[]):∃ q,(N6 s).getLast? = some q:=by
 unfold N6;cases hb:s.2.2 with
 | true=>rw [Af rfl];exact ⟨_,List.getLast?_eq_some_getLast (h hb)⟩
 | false=>rw [Ae (by decide)];exact ⟨⟨s.2.1,[],[]⟩,by simp⟩
theorem setLast_len (hs:Bx) (f:Hunk→Hunk):(Va hs f).length=hs.length:=by
 unfold Va;cases h:hs.getLast? with
 | none=>rfl
 | some q =>
  have hne:hs≠[]:=by intro e;subst e;cases h
  have:=Nl.2 hne
  simp;omega
theorem setLast_ne {hs:Bx} {f:Hunk→Hunk} (h:hs≠[]):Va hs f≠[]:=by
 intro e;have:=setLast_len hs f;rw [e] at this;exact h (Ec this.symm)
theorem cOpen_ne (s:Cst) (h:s.2.2=true→s.1≠[]):N6 s≠[]:=by
 obtain ⟨q,hq⟩:=cOpen_last s h;intro e;rw [e] at hq;cases hq
structure CInv (s:Cst) (k:Nat):Prop where
 open_:s.2.2=true→s.1≠[]
 len:s.1.length≤k
 at0:0≤s.2.1
 at1:s.2.1≤k
 each:∀ h∈s.1,h.Old.length≤k∧h.New.length≤k
theorem mem_setLast {hs:Bx} {f:Hunk→Hunk} {h:Hunk} (hm:h∈Va hs f):h∈hs∨∃ q∈hs,h=f q:=by
 unfold Va at hm;cases hl:hs.getLast? with
 | none=>rw [hl] at hm;exact .inl hm
 | some q =>
  rw [hl] at hm;simp only [Bl,Bd] at hm;rcases hm with hm | hm
  ·exact .inl ((List.dropLast_sublist hs).subset hm)
  ·exact .inr ⟨q,List.mem_of_getLast? hl,hm⟩
theorem Xo {s:Cst} {h:Hunk} (hm:h∈N6 s):h∈s.1∨(h.Old=[]∧h.New=[]):=by
 unfold N6 at hm;split at hm
 ·exact .inl hm
 ·rcases Bl.1 hm with hm | hm
  ·exact .inl hm
  ·simp at hm;subst hm;exact .inr ⟨rfl,rfl⟩
theorem cOpen_len (s:Cst):(N6 s).length≤s.1.length+1:=by unfold N6;split <;> simp
theorem CInv.keep {s:Cst} {k:Nat} (h:CInv s k):CInv (Ub s) (k+1):=⟨fun e=>by simp [Ub] at e,by have:=h.len;simp only [Ub];omega,by have:=h.at0;simp only [Ub];omega,by have:=h.at1;simp only [Ub];omega,fun q hq=>by have:=h.each q hq;omega⟩
theorem CInv.del {s:Cst} {k:Nat} (h:CInv s k) (x:ByteArray):CInv (Vp x s) (k+1):=by
 refine ⟨fun _=>setLast_ne (cOpen_ne s h.open_),?_,by have:=h.at0;simp only [Vp];omega,by have:=h.at1;simp only [Vp];omega,fun q hq=>?_⟩
 ·have:=h.len;have:=cOpen_len s;simp only [Vp,setLast_len];omega
 ·simp only [Vp] at hq;rcases mem_setLast hq with hq | ⟨p,hp,rfl⟩
  ·rcases Xo hq with hq | ⟨h1,h2⟩
   ·have:=h.each q hq;omega
   ·simp [h1,h2]
  ·rcases Xo hp with hq | ⟨h1,h2⟩
   ·have:=h.each p hq;simp;omega
   ·simp [h1,h2]
theorem CInv.ins {s:Cst} {k:Nat} (h:CInv s k) (x:ByteArray):CInv (Vx x s) (k+1):=by
 refine ⟨fun _=>setLast_ne (cOpen_ne s h.open_),?_,h.at0,by have:=h.at1;simp only [Vx];omega,fun q hq=>?_⟩
 ·have:=h.len;have:=cOpen_len s;simp only [Vx,setLast_len];omega
 ·simp only [Vx] at hq;rcases mem_setLast hq with hq | ⟨p,hp,rfl⟩
  ·rcases Xo hq with hq | ⟨h1,h2⟩
   ·have:=h.each q hq;omega
   ·simp [h1,h2]
  ·rcases Xo hp with hq | ⟨h1,h2⟩
   ·have:=h.each p hq;simp;omega
   ·simp [h1,h2]
theorem coll_keep {s:Cst} {k:Nat} (h:CInv s k) (hk:k≤1000000):M7 ⟨s.1,s.2.1,s.2.2⟩ 1=some ⟨(Ub s).1,(Ub s).2.1,(Ub s).2.2⟩:=by
 have hat0:=h.at0;have hat1:=h.at1;unfold M7;rw [Af (by decide),C9 (x:=s.2.1+1) (by omega) (by omega),Aa];rfl
theorem coll_del {s:Cst} {k:Nat} (h:CInv s k) (hk:k≤1000000) (x:ByteArray):G3 ⟨s.1,s.2.1,s.2.2⟩ x=some ⟨(Vp x s).1,(Vp x s).2.1,(Vp x s).2.2⟩:=by
 obtain ⟨q,hq⟩:=cOpen_last s h.open_;have hlen:=h.len;have hat0:=h.at0;have hat1:=h.at1
 have j4e:G3.j1 ⟨s.1,s.2.1,s.2.2⟩ x (N6 s) true=some ⟨(Vp x s).1,(Vp x s).2.1,(Vp x s).2.2⟩:=by
  obtain ⟨h1,h2,h3⟩:=set_last_eq hq fun h=>{ h with Old:=h.Old++[x] };have hol:=cOpen_len s
  have hqm:q.Old.length≤k:=by
   rcases Xo (List.mem_of_getLast? hq) with hq | ⟨h1,_⟩
   ·exact (h.each q hq).1
   ·simp [h1]
  unfold G3.j1;have ez:((N6 s).length:Int) - 1=(((N6 s).length - 1:Nat):Int):=by omega
  rw [C9 (by omega) (by omega),Aa,ez,Ds h1,Aa,h2,H6 (by simp only [Ar];omega),Aa,C9 (by show -9223372036854775808≤s.2.1+1;omega) (by show s.2.1+1≤9223372036854775807;omega),Aa,Aa]
  rw [Bn];have:(N6 s).set ((N6 s).length - 1) ({ At:=q.At,Old:=q.Old++[x],New:=q.New }:Hunk)=(Vp x s).1:=h3;rw [this];rfl
 unfold G3;simp only;cases hb:s.2.2 with
 | true =>
  have:N6 s=s.1:=by unfold N6;rw [hb,Af rfl]
  rw [hb,this] at j4e;rw [Ae (by decide)];exact j4e
 | false =>
  have:N6 s=s.1++[⟨s.2.1,[],[]⟩]:=by unfold N6;rw [hb,Ae (by decide)]
  rw [hb] at j4e;rw [Af (by decide),H6 (by simp only [Ar];omega),Aa,← this];exact j4e
theorem coll_ins {s:Cst} {k:Nat} (h:CInv s k) (hk:k≤1000000) (x:ByteArray):G2 ⟨s.1,s.2.1,s.2.2⟩ x=some ⟨(Vx x s).1,(Vx x s).2.1,(Vx x s).2.2⟩:=by
 obtain ⟨q,hq⟩:=cOpen_last s h.open_;have hlen:=h.len;have hat0:=h.at0;have hat1:=h.at1
 have j4e:G2.j1 ⟨s.1,s.2.1,s.2.2⟩ x (N6 s) true=some ⟨(Vx x s).1,(Vx x s).2.1,(Vx x s).2.2⟩:=by
  obtain ⟨h1,h2,h3⟩:=set_last_eq hq fun h=>{ h with New:=h.New++[x] };have hol:=cOpen_len s
  have hqm:q.New.length≤k:=by
   rcases Xo (List.mem_of_getLast? hq) with hq | ⟨_,h1⟩
   ·exact (h.each q hq).2
   ·simp [h1]
  unfold G2.j1;have ez:((N6 s).length:Int) - 1=(((N6 s).length - 1:Nat):Int):=by omega
  rw [C9 (by omega) (by omega),Aa,ez,Ds h1,Aa,h2,H6 (by simp only [Ar];omega),Aa,Aa]
  rw [Bn];have:(N6 s).set ((N6 s).length - 1) ({ At:=q.At,Old:=q.Old,New:=q.New++[x] }:Hunk)=(Vx x s).1:=h3;rw [this];rfl
 unfold G2;simp only;cases hb:s.2.2 with
 | true =>
  have:N6 s=s.1:=by unfold N6;rw [hb,Af rfl]
  rw [hb,this] at j4e;rw [Ae (by decide)];exact j4e
 | false =>
  have:N6 s=s.1++[⟨s.2.1,[],[]⟩]:=by unfold N6;rw [hb,Ae (by decide)]
  rw [hb] at j4e;rw [Af (by decide),H6 (by simp only [Ar];omega),Aa,← this];exact j4e
section
variable {a b : Ag}
theorem scr_loop (hab:a.length+b.length≤1000):∀ (n i j k:Nat) (s:Cst),i≤a.length→j≤b.length→(a.length - i)+(b.length - j)=n→k≤i+j→(Of a b).drop k=Of (a.drop i) (b.drop j)→CInv s (i+j) →
  Gk (fun s=>E1.l1 a b (Of a b) s.1 s.2.1 s.2.2.1 s.2.2.2.1 s.2.2.2.2.1 s.2.2.2.2.2) ((k:Int),(j:Int),(i:Int),s.1,s.2.1,s.2.2)=some (scr (a.drop i) (b.drop j) s):=by
 intro n
 induction n using Nat.strongRecOn with
 | _ n ih =>
 intro i j k s hi hj hn hk hal hs
 have j2e:∀ (p q:Int) (t:Cst),E1.j2 (k:Int) q p t.1 t.2.1 t.2.2=some (.next (((k+1:Nat):Int),q,p,t.1,t.2.1,t.2.2)):=by
  intro p q t;unfold E1.j2;rw [C9 (by omega) (by omega),Aa];rfl
 have ed:∀ (x:ByteArray) (r:List Int),(Of a b).drop k=1::r→(hx:∃ h:i < a.length,a[i]=x) →
   E1.l1 a b (Of a b) (k:Int) (j:Int) (i:Int) s.1 s.2.1 s.2.2=some (.next (((k+1:Nat):Int),(j:Int),((i+1:Nat):Int),(Vp x s).1,(Vp x s).2.1,(Vp x s).2.2))∧(Of a b).drop (k+1)=r:=by
  intro x r hr ⟨hx,hxe⟩;obtain ⟨hlt,hk1,hr1⟩:=N7 hr;refine ⟨?_,hr1⟩;unfold E1.l1;rw [A2,Af (by omega),Ds hlt,Aa,hk1,A2,Ae (by decide),A2,Af rfl,Ds hx,Aa,hxe,coll_del hs (by omega) x,Aa,C9 (by omega) (by omega),Aa,j2e]
  rfl
 have ei:∀ (x:ByteArray) (r:List Int),(Of a b).drop k=2::r→(hx:∃ h:j < b.length,b[j]=x) →
   E1.l1 a b (Of a b) (k:Int) (j:Int) (i:Int) s.1 s.2.1 s.2.2=some (.next (((k+1:Nat):Int),((j+1:Nat):Int),(i:Int),(Vx x s).1,(Vx x s).2.1,(Vx x s).2.2))∧(Of a b).drop (k+1)=r:=by
  intro x r hr ⟨hx,hxe⟩;obtain ⟨hlt,hk1,hr1⟩:=N7 hr;refine ⟨?_,hr1⟩;unfold E1.l1;rw [A2,Af (by omega),Ds hlt,Aa,hk1,A2,Ae (by decide),A2,Ae (by decide),Ds hx,Aa,hxe,coll_ins hs (by omega) x,Aa,C9 (by omega) (by omega),Aa,j2e]
  rfl
 have ek:∀ (r:List Int),(Of a b).drop k=0::r →
   E1.l1 a b (Of a b) (k:Int) (j:Int) (i:Int) s.1 s.2.1 s.2.2=some (.next (((k+1:Nat):Int),((j+1:Nat):Int),((i+1:Nat):Int),(Ub s).1,(Ub s).2.1,(Ub s).2.2))∧(Of a b).drop (k+1)=r:=by
  intro r hr;obtain ⟨hlt,hk1,hr1⟩:=N7 hr;refine ⟨?_,hr1⟩;have h0:=hs.at0;have h1:=hs.at1;unfold E1.l1;rw [A2,Af (by omega),Ds hlt,Aa,hk1,A2,Af rfl,coll_keep hs (by omega),Aa,C9 (by omega) (by omega),Aa,C9 (by omega) (by omega),Aa]
  exact j2e _ _ (Ub s)
 by_cases hia:i < a.length
 ·have hda:=Qg hia;by_cases hjb:j < b.length
  ·have hdb:=Qg hjb;have hal':=hal;rw [hda,hdb,Of,← hda,← hdb] at hal'
   have hsc:scr (a.drop i) (b.drop j) s=if a[i]=b[j] then scr (a.drop (i+1)) (b.drop (j+1)) (Ub s) else if lcs (a.drop (i+1)) (b.drop j) ≥ lcs (a.drop i) (b.drop (j+1)) then scr (a.drop (i+1)) (b.drop j) (Vp a[i] s) else scr (a.drop i) (b.drop (j+1)) (Vx b[j] s):=by
    conv=>lhs;rw [hda,hdb,scr]
    rw [← hda,← hdb]
   rw [hsc];by_cases heq:a[i]=b[j]
   ·rw [Af heq] at hal' ⊢;obtain ⟨e1,e2⟩:=ek _ hal';rw [C7 e1];exact ih _ (by omega) (i+1) (j+1) (k+1) (Ub s) (by omega) (by omega) rfl (by omega) e2 ⟨hs.keep.open_,by have:=hs.keep.len;omega,hs.keep.at0,by have:=hs.keep.at1;omega,fun q hq=>by have:=hs.keep.each q hq;omega⟩
   ·rw [Ae heq] at hal' ⊢;by_cases hge:lcs (a.drop (i+1)) (b.drop j) ≥ lcs (a.drop i) (b.drop (j+1))
    ·rw [Af hge] at hal' ⊢;obtain ⟨e1,e2⟩:=ed _ _ hal' ⟨hia,rfl⟩;rw [C7 e1];exact ih _ (by omega) (i+1) j (k+1) (Vp a[i] s) (by omega) (by omega) rfl (by omega) e2 (by have:=hs.del a[i];rwa [show i+j+1=i+1+j by omega] at this)
    ·rw [Ae hge] at hal' ⊢;obtain ⟨e1,e2⟩:=ei _ _ hal' ⟨hjb,rfl⟩;rw [C7 e1];exact ih _ (by omega) i (j+1) (k+1) (Vx b[j] s) (by omega) (by omega) rfl (by omega) e2 (hs.ins b[j])
  ·have hj':j=b.length:=by omega
   subst hj';have hal':=hal;rw [hda,List.drop_length,Of] at hal';obtain ⟨e1,e2⟩:=ed _ _ hal' ⟨hia,rfl⟩
   have hsc:scr (a.drop i) (b.drop b.length) s=scr (a.drop (i+1)) (b.drop b.length) (Vp a[i] s):=by
    rw [hda,List.drop_length,scr]
   rw [C7 e1,hsc];exact ih _ (by omega) (i+1) b.length (k+1) (Vp a[i] s) (by omega) (by omega) rfl (by omega) (by rw [e2,List.drop_length]) (by have:=hs.del a[i];rwa [show i+b.length+1=i+1+b.length by omega] at this)
 ·have hi':i=a.length:=by omega
  subst hi';by_cases hjb:j < b.length
  ·have hdb:=Qg hjb;have hal':=hal;rw [hdb,List.drop_length,Of] at hal';obtain ⟨e1,e2⟩:=ei _ _ hal' ⟨hjb,rfl⟩
   have hsc:scr (a.drop a.length) (b.drop j) s=scr (a.drop a.length) (b.drop (j+1)) (Vx b[j] s):=by
    rw [hdb,List.drop_length,scr]
   rw [C7 e1,hsc];exact ih _ (by omega) a.length (j+1) (k+1) (Vx b[j] s) (by omega) (by omega) rfl (by omega) (by rw [e2,List.drop_length]) (hs.ins b[j])
  ·have hj':j=b.length:=by omega
   subst hj';rw [List.drop_length,List.drop_length,Of] at hal;have:=Ni hal;rw [List.drop_length,List.drop_length,scr];refine C4 ?_;unfold E1.l1;rw [A2,Ae (by omega)]
end
def Mi (a b:Ag):Bx:=(scr a b ([],0,false)).1
theorem script_f (a b:Ag):E1 a b=some (if (Cl a).Code≠0 then (⟨[]⟩,Cl a) else if (Cl b).Code≠0 then (⟨[]⟩,⟨(Cl b).Code,-2⟩) else (⟨Mi a b⟩,⟨0,0⟩)):=by
 unfold E1;rw [both_f,Aa];by_cases ha:(Cl a).Code=0
 ·by_cases hb:(Cl b).Code=0
  ·simp only [ha,hb,ne_eq,not_true,Cg,G0];have oa:=(Ko a).2 ((Gq a).2 ha);have ob:=(Ko b).2 ((Gq b).2 hb);have h1:=oa.1;have h2:=ob.1;rw [Ae (by simp),align_eq (okText_small oa ob),Aa]
   have:=scr_loop (a:=a) (b:=b) (by omega) _ 0 0 0 ([],0,false) (Dh _) (Dh _) rfl (Dh _) (by simp) ⟨fun h=>(by cases h),by simp,by simp,by simp,fun q hq=>(by cases hq)⟩
   simp only [List.drop_zero] at this;rw [show (0:Int)=((0:Nat):Int) from rfl,show ((([]:Bx),((0:Nat):Int),false):Cst)=([],0,false) from rfl,this,Aa];rfl
  ·simp only [ha,hb,ne_eq,not_true,not_false_iff,Cg,G0];rw [Af (by simp)]
 ·simp only [ha,ne_eq,not_false_iff,G0];rw [Af (by simp)]
def endS:Bx→Nat→Nat
 | [],low=>low
 | h::r,_=>endS r (h.At.toNat+h.Old.length)
def preS:Bx→Ag→Nat→Ag
 | [],_,_=>[]
 | h::r,t,low=>(t.drop low).take (h.At.toNat - low)++(h.New++preS r t (h.At.toNat+h.Old.length))
theorem rawS_pre:∀ (hs:Bx) (t:Ag) (low:Nat),rawS hs t low=preS hs t low++t.drop (endS hs low)
 | [],t,low=>rfl
 | h::r,t,low=>by rw [rawS,preS,endS,rawS_pre r t _];simp
theorem Nw:∀ (hs:Bx) (h:Hunk) (low:Nat),endS (hs++[h]) low=h.At.toNat+h.Old.length
 | [],h,low=>rfl
 | x::r,h,low=>by rw [List.cons_append,endS,Nw r h _]
theorem V7:∀ (hs:Bx) (h:Hunk) (t:Ag) (low:Nat),preS (hs++[h]) t low=preS hs t low++((t.drop (endS hs low)).take (h.At.toNat - endS hs low)++h.New)
 | [],h,t,low=>by simp [preS,endS]
 | x::r,h,t,low=>by rw [List.cons_append,preS,preS,endS,V7 r h t _];simp
def Chn:Int→Bx→Prop
 | _,[]=>True
 | e,h::r=>e < h.At∧Chn (h.At+h.Old.length) r
theorem X3:∀ (l:Bx) (h:Hunk) (e:Int),Chn e (l++[h])↔Chn e l∧(l=[]→e < h.At)∧(∀ p q,l=p++[q]→q.At+q.Old.length < h.At)
 | [],h,e=>by simp [Chn]
 | x::r,h,e=>by
  rw [List.cons_append,Chn,Chn,X3 r h _];constructor
  ·rintro ⟨h1,h2,h3,h4⟩;refine ⟨⟨h1,h2⟩,by simp,fun p q e=>?_⟩
   cases p with
   | nil=>simp at e;obtain ⟨rfl,rfl⟩:=e;exact h3 rfl
   | cons y p=>simp at e;exact h4 p q e.2
  ·rintro ⟨⟨h1,h2⟩,h3,h4⟩;refine ⟨h1,h2,fun e=>?_,fun p q e=>h4 (x::p) q (by rw [e];rfl)⟩
   subst e;exact h4 [] x rfl
def HkOk (a b:Ag) (h:Hunk):Prop:=∃ p q:Nat,h.At=p∧p+h.Old.length≤a.length∧h.Old=(a.drop p).take h.Old.length∧q+h.New.length≤b.length∧h.New=(b.drop q).take h.New.length∧0 < h.Old.length+h.New.length
structure ScI (a b:Ag) (s:Cst) (i j:Nat):Prop where
 pos:s.2.1=i
 low:endS s.1 0≤i
 txt:preS s.1 a 0++(a.drop (endS s.1 0)).take (i - endS s.1 0)=b.take j
 opn:s.2.2=true→∃ hs h q,s.1=hs++[h]∧h.At.toNat+h.Old.length=i∧q+h.New.length=j∧h.New=(b.drop q).take h.New.length
 cls:s.2.2=false→s.1=[]∨endS s.1 0 < i
 chn:Chn (-1) s.1
 each:∀ h∈s.1,HkOk a b h
theorem Xp {α:Type} {l:List α} {k:Nat} (h:k < l.length):l.take (k+1)=l.take k++[l[k]]:=by
 rw [List.take_add_one,Bb h];rfl
theorem Xl (hs:Bx) (h:Hunk) (f:Hunk→Hunk):Va (hs++[h]) f=hs++[f h]:=by
 unfold Va;simp
theorem ScI.keep {a b:Ag} {s:Cst} {i j:Nat} (h:ScI a b s i j) (hi:i < a.length) (hj:j < b.length) (e:a[i]=b[j]):ScI a b (Ub s) (i+1) (j+1):=by
 have hl:=h.low;refine ⟨by simp only [Ub,h.pos];omega,by simp only [Ub];omega,?_,fun h=>by simp [Ub] at h,fun _=>.inr (by simp only [Ub];omega),h.chn,h.each⟩
 simp only [Ub];rw [Xp hj,← h.txt,show i+1 - endS s.1 0=(i - endS s.1 0)+1 by omega,Xp (by simp;omega),← e,A6]
 congr 3;rw [D6];congr 1;omega
theorem HkOk.old {a b:Ag} {h:Hunk} (hh:HkOk a b h) (hi:h.At.toNat+h.Old.length < a.length):HkOk a b { h with Old:=h.Old++[a[h.At.toNat+h.Old.length]] }:=by
 obtain ⟨p,q,h1,h2,h3,h4,h5,h6⟩:=hh;have hp:h.At.toNat=p:=by omega
 refine ⟨p,q,h1,by simp;omega,?_,h4,h5,by simp;omega⟩
 simp only [Au,Ar];rw [Xp (by simp;omega),← h3]
 congr 2;rw [D6];simp only [hp]
theorem HkOk.new {a b:Ag} {h:Hunk} (hh:HkOk a b h) {q:Nat} (hq:h.New=(b.drop q).take h.New.length) (hi:q+h.New.length < b.length):HkOk a b { h with New:=h.New++[b[q+h.New.length]] }∧h.New++[b[q+h.New.length]]=(b.drop q).take (h.New.length+1):=by
 obtain ⟨p,_,h1,h2,h3,h4,h5,h6⟩:=hh
 have e:h.New++[b[q+h.New.length]]=(b.drop q).take (h.New.length+1):=by
  rw [Xp (by simp;omega),← hq]
  congr 2;rw [D6]
 refine ⟨⟨p,q,h1,h2,h3,by simp;omega,?_,by simp;omega⟩,e⟩
 simp only [Au,Ar];exact e
theorem ScI.del {a b:Ag} {s:Cst} {i j:Nat} (h:ScI a b s i j) (hi:i < a.length) (hj:j≤b.length):ScI a b (Vp a[i] s) (i+1) j:=by
 have hl:=h.low;have ht:=h.txt;have hc:=h.chn;have he:=h.each;have hp:=h.pos;obtain ⟨hs0,at0,op⟩:=s;simp only at hl ht hc he hp;cases op with
 | true =>
  obtain ⟨hs,k,q,e1,e2,e3,e4⟩:=h.opn rfl;simp only at e1;subst e1
  have hcd:Vp a[i] (hs++[k],at0,true)=(hs++[{ k with Old:=k.Old++[a[i]] }],at0+1,true):=by
   unfold Vp N6;simp only [G0,Xl]
  rw [hcd];rw [Nw,e2,Nd,Kf,Ba,V7] at ht;have hk:=HkOk.old (he k (by simp)) (by omega)
  have hx:a[k.At.toNat+k.Old.length]'(by omega)=a[i]:=by congr 1
  rw [hx] at hk;rw [X3] at hc;refine ⟨by simp only;omega,by simp only [Nw,Au,Ar];omega,?_,fun _=>⟨hs,_,q,rfl,by simp only [Au,Ar];omega,e3,e4⟩,fun h=>by simp at h,(X3 _ _ _).2 hc,?_⟩
  ·simp only [Nw,Au,Ar,V7];rw [show i+1 - (k.At.toNat+(k.Old.length+1))=0 by omega,Kf,Ba]
   exact ht
  ·intro m hm;rcases Bl.1 hm with hm | hm
   ·exact he m (Gz _ hm)
   ·rw [Bd] at hm;subst hm;exact hk
 | false =>
  have hcl:=h.cls rfl;simp only at hcl
  have hcd:Vp a[i] (hs0,at0,false)=(hs0++[⟨at0,[a[i]],[]⟩],at0+1,true):=by
   unfold Vp N6;simp only [Bc,Cg,Xl,Cw]
  rw [hcd];have hat:at0.toNat=i:=by omega
  refine ⟨by simp only;omega,by simp only [Nw,Ar];omega,?_,fun _=>⟨hs0,_,j,rfl,by simp only [Ar];omega,by simp,by simp⟩,fun h=>by simp at h,(X3 _ _ _).2 ⟨hc,fun _=>by simp only;omega,fun p q e=>?_⟩,?_⟩
  ·simp only [Nw,Ar,V7,hat,Nd,Kf,Ba];exact ht
  ·subst e;rcases hcl with hcl | hcl
   ·simp at hcl
   ·rw [Nw] at hcl;obtain ⟨p',_,h1,_⟩:=he q (by simp)
    simp only;omega
  ·intro m hm;rcases Bl.1 hm with hm | hm
   ·exact he m hm
   ·rw [Bd] at hm;subst hm;refine ⟨i,j,hp,by simp;omega,?_,by simp;omega,by simp,by simp⟩
    simp only [Ar];rw [E3 hi];rfl
theorem ScI.ins {a b:Ag} {s:Cst} {i j:Nat} (h:ScI a b s i j) (hi:i≤a.length) (hj:j < b.length):ScI a b (Vx b[j] s) i (j+1):=by
 have hl:=h.low;have ht:=h.txt;have hc:=h.chn;have he:=h.each;have hp:=h.pos;obtain ⟨hs0,at0,op⟩:=s;simp only at hl ht hc he hp;cases op with
 | true =>
  obtain ⟨hs,k,q,e1,e2,e3,e4⟩:=h.opn rfl;simp only at e1;subst e1
  have hcd:Vx b[j] (hs++[k],at0,true)=(hs++[{ k with New:=k.New++[b[j]] }],at0,true):=by
   unfold Vx N6;simp only [G0,Xl]
  rw [hcd];rw [Nw,e2,Nd,Kf,Ba,V7] at ht;obtain ⟨hk,hk2⟩:=HkOk.new (he k (by simp)) e4 (by omega)
  have hx:b[q+k.New.length]'(by omega)=b[j]:=by congr 1
  rw [hx] at hk hk2;rw [X3] at hc;refine ⟨hp,by simp only [Nw];omega,?_,fun _=>⟨hs,_,q,rfl,e2,by simp only [Au,Ar];omega,by simp only [Au,Ar];exact hk2⟩,fun h=>by simp at h,(X3 _ _ _).2 hc,?_⟩
  ·simp only [Nw,V7];rw [show i - (k.At.toNat+k.Old.length)=0 by omega,Kf,Ba,Xp hj,← ht]
   simp only [A6]
  ·intro m hm;rcases Bl.1 hm with hm | hm
   ·exact he m (Gz _ hm)
   ·rw [Bd] at hm;subst hm;exact hk
 | false =>
  have hcl:=h.cls rfl;simp only at hcl
  have hcd:Vx b[j] (hs0,at0,false)=(hs0++[⟨at0,[],[b[j]]⟩],at0,true):=by
   unfold Vx N6;simp only [Bc,Cg,Xl,Cw]
  rw [hcd];have hat:at0.toNat=i:=by omega
  have hn:[b[j]]=(b.drop j).take 1:=by rw [E3 hj];rfl
  refine ⟨hp,by simp only [Nw,Kt];omega,?_,fun _=>⟨hs0,_,j,rfl,by simp only [Kt];omega,by simp,by simp only [Ar];exact hn⟩,fun h=>by simp at h,(X3 _ _ _).2 ⟨hc,fun _=>by simp only;omega,fun p q e=>?_⟩,?_⟩
  ·simp only [Nw,Kt,V7,hat,E8,Nd,Kf,Ba];rw [Xp hj,← ht,A6]
  ·subst e;rcases hcl with hcl | hcl
   ·simp at hcl
   ·rw [Nw] at hcl;obtain ⟨p',_,h1,_⟩:=he q (by simp)
    simp only;omega
  ·intro m hm;rcases Bl.1 hm with hm | hm
   ·exact he m hm
   ·rw [Bd] at hm;subst hm;exact ⟨i,j,hp,by simp;omega,by simp,by simp;omega,by simp only [Ar];exact hn,by simp⟩
theorem scr_ok {a b:Ag}:∀ (n i j:Nat) (s:Cst),(a.length - i)+(b.length - j)=n→i≤a.length→j≤b.length→ScI a b s i j→ScI a b (scr (a.drop i) (b.drop j) s) a.length b.length:=by
 intro n
 induction n using Nat.strongRecOn with
 | _ n ih =>
 intro i j s hn hi hj h;by_cases hia:i < a.length
 ·have hda:=E3 hia;by_cases hjb:j < b.length
  ·have hdb:=E3 hjb
   have hsc:scr (a.drop i) (b.drop j) s=if a[i]=b[j] then scr (a.drop (i+1)) (b.drop (j+1)) (Ub s) else if lcs (a.drop (i+1)) (b.drop j) ≥ lcs (a.drop i) (b.drop (j+1)) then scr (a.drop (i+1)) (b.drop j) (Vp a[i] s) else scr (a.drop i) (b.drop (j+1)) (Vx b[j] s):=by
    conv=>lhs;rw [hda,hdb,scr]
    rw [← hda,← hdb]
   rw [hsc];split
   ·rename_i e
    exact ih _ (by omega) (i+1) (j+1) _ rfl (by omega) (by omega) (h.keep hia hjb e)
   ·split
    ·exact ih _ (by omega) (i+1) j _ rfl (by omega) (by omega) (h.del hia hj)
    ·exact ih _ (by omega) i (j+1) _ rfl (by omega) (by omega) (h.ins hi hjb)
  ·have hj':j=b.length:=by omega
   subst hj'
   have hsc:scr (a.drop i) (b.drop b.length) s=scr (a.drop (i+1)) (b.drop b.length) (Vp a[i] s):=by
    rw [hda,List.drop_length,scr]
   rw [hsc];exact ih _ (by omega) (i+1) b.length _ rfl (by omega) (by omega) (h.del hia hj)
 ·have hi':i=a.length:=by omega
  subst hi';by_cases hjb:j < b.length
  ·have hdb:=E3 hjb
   have hsc:scr (a.drop a.length) (b.drop j) s=scr (a.drop a.length) (b.drop (j+1)) (Vx b[j] s):=by
    rw [hdb,List.drop_length,scr]
   rw [hsc];exact ih _ (by omega) a.length (j+1) _ rfl (by omega) (by omega) (h.ins hi hjb)
  ·have hj':j=b.length:=by omega
   subst hj';rw [List.drop_length,List.drop_length,scr];exact h
theorem ok_part {l:Ag} (h:Lr l) (p k:Nat):(Cl ((l.drop p).take k)).Code=0:=by
 refine (Gq _).1 ((Ko _).1 ⟨?_,fun s hs=>h.2 s (Et (C3 hs))⟩);have:=h.1
 simp;omega
theorem good_of {a b:Ag} (ha:Lr a) (hb:Lr b):∀ (l:Bx) (e:Int),Chn e l→(∀ h∈l,HkOk a b h)→Good e l∧(-1≤e→e≤120→(l.length:Int)≤120 - e)
 | [],e,_,_=>⟨trivial,fun _ _=>by simp;omega⟩
 | h::r,e,hc,he=>by
  obtain ⟨p,q,h1,h2,h3,h4,h5,h6⟩:=he h B9;obtain ⟨c1,c2⟩:=hc;have hl:=ha.1;obtain ⟨g1,g2⟩:=good_of ha hb r _ c2 fun x hx=>he x (Be _ hx);refine ⟨⟨?_,g1⟩,fun _ _=>?_⟩
  ·unfold hcode;have t1:(Cl h.Old).Code=0:=by rw [h3];exact ok_part ha _ _
   have t2:(Cl h.New).Code=0:=by rw [h5];exact ok_part hb _ _
   rw [Ae (by omega),Ae (fun hn=>hn t1),Ae (fun hn=>hn t2),Ae (by omega),Ae (by omega)]
  ·have:=g2 (by omega) (by omega)
   rw [Dl];omega
theorem script_ok {a b:Ag} (ha:Lr a) (hb:Lr b):(Kp ⟨Mi a b⟩).Code=0∧Qj ⟨Mi a b⟩ a=(b,⟨0,0⟩)∧(Mi a b=[]→a=b):=by
 have h0:ScI a b ([],0,false) 0 0:=⟨rfl,C8 _,by simp [preS,endS],fun h=>by simp at h,fun _=>.inl rfl,trivial,fun h hh=>by cases hh⟩
 have h:=scr_ok _ 0 0 _ rfl (Dh _) (Dh _) h0;rw [List.drop_zero,List.drop_zero] at h
 have hraw:rawS (Mi a b) a 0=b:=by
  rw [rawS_pre];have ht:=h.txt;have hl:=h.low;rw [C2,C5 (by simp)] at ht
  exact ht
 obtain ⟨g1,g2⟩:=good_of ha hb (Mi a b) (-1) h.chn h.each;have hlen:=g2 (by omega) (by omega)
 have hp:(Kp ⟨Mi a b⟩).Code=0:=(Td _).2 ⟨by simp only;omega,g1⟩
 have hf:Fits a (Mi a b):=fun x hx=>by
  obtain ⟨p,q,h1,h2,h3,_⟩:=h.each x hx;rw [h1,Bn];exact ⟨by omega,h3.symm⟩
 refine ⟨hp,?_,fun e=>?_⟩
 ·rw [applyF_of hp ha.2 ha.1 hf];simp only;rw [hraw,Ae (by have:=hb.1;omega)]
 ·rw [e] at hraw;exact hraw
def Zf (l:Ao) (x:File):Ao:=l.take (Ks l x.Path)++[x]++l.drop (Ks l x.Path)
theorem X9 {l:Ao} (h:M3 l) {p:ByteArray} (hh:K1 l p=true):∃ hp:Ks l p < l.length,l[Ks l p].Path=p:=by
 rw [has_at h] at hh;split at hh
 ·rename_i hp;exact ⟨hp,L5 hh⟩
 ·cases hh
theorem pos_of {l:Ao} (h:M3 l) {j:Nat} (hj:j < l.length):Ks l l[j].Path=j∧K1 l l[j].Path=true:=by
 have hh:K1 l l[j].Path=true:=by
  unfold K1;rw [Li];exact ⟨_,A5 hj,Aw rfl⟩
 refine ⟨?_,hh⟩;obtain ⟨hp,he⟩:=X9 h hh;rcases Oo (Ks l l[j].Path) j with h1 | h1 | h1
 ·have:=Cp.1 h _ _ hp hj h1;rw [he,Us] at this;cases this
 ·exact h1
 ·have:=Cp.1 h _ _ hj hp h1;rw [he,Us] at this;cases this
theorem rel_has {l:Ao} {p:ByteArray} (h:Ku l p=false):K1 l p=false:=by
 unfold Ku at h;unfold K1;rw [K8] at h ⊢;intro f hf e;have:=h f hf;rw [L5 e,relB_self] at this;exact this rfl
theorem ins_len (l:Ao) (x:File):(Zf l x).length=l.length+1:=by
 have:=pos_le l x.Path;unfold Zf;simp;omega
theorem ins_srt {l:Ao} (h:M3 l) {x:File} (hn:K1 l x.Path=false):M3 (Zf l x):=by
 unfold M3 Zf
 have hlow:∀ f∈l.take (Ks l x.Path),sLt f.Path x.Path=true:=by
  intro f hf;rw [Nh] at hf;obtain ⟨i,hi,rfl⟩:=hf;rw [pos_lt h x.Path i (by omega)]
  exact Aw (by omega)
 have hhigh:∀ f∈l.drop (Ks l x.Path),sLt x.Path f.Path=true:=by
  intro f hf;obtain ⟨i,hi,rfl⟩:=Cd hf;rw [Bz] at hi;rw [D6];have h1:=pos_lt h x.Path (Ks l x.Path+i) (by omega)
  rw [Az (by omega)] at h1
  rcases sLt_tri x.Path l[Ks l x.Path+i].Path with h2 | h2 | h2
  ·exact h2
  ·unfold K1 at hn;rw [K8] at hn;exact absurd (Aw h2.symm) (hn _ (A5 (by omega)))
  ·rw [h1] at h2;cases h2
 rw [Kb,Kb];refine ⟨⟨h.sublist (List.take_sublist _ _),H9 _ _,?_⟩,h.sublist (List.drop_sublist _ _),?_⟩
 ·intro a ha b hb;rw [Bd] at hb;subst hb;exact hlow a ha
 ·intro a ha b hb;rcases Bl.1 ha with ha | ha
  ·exact Xn (hlow a ha) (hhigh b hb)
  ·rw [Bd] at ha;subst ha;exact hhigh b hb
theorem Yf {l:Ao} {x f:File}:f∈Zf l x↔f=x∨f∈l:=by
 unfold Zf;rw [Bl,Bl,Bd]
 conv=>rhs;rw [← H3 (Ks l x.Path) l,Bl]
 constructor
 ·rintro ((h | h) | h)
  ·exact .inr (.inl h)
  ·exact .inl h
  ·exact .inr (.inr h)
 ·rintro (h | h | h)
  ·exact .inl (.inr h)
  ·exact .inl (.inl h)
  ·exact .inr h
theorem Put_f {l:Ao} (h:M3 l) (hl:l.length≤1000) {p:ByteArray} (hn:K1 l p=false) {L:Ag} (hL:L.length≤1000000):Kh ⟨l⟩ p L=some ⟨Zf l ⟨p,L⟩⟩:=by
 have hp:=pos_le l p;unfold Kh;simp only;rw [Find_f h (by omega),Aa,hn,Af (by rfl)]
 have e:ins? 40 l ((Ks l p:Nat):Int) [⟨p,[]⟩]=some (l.take (Ks l p)++[⟨p,[]⟩]++l.drop (Ks l p)):=by
  unfold ins?;simp only;rw [Af (by omega),H6 (by simp;omega),Aa,Bn]
 rw [e,Aa];unfold Kh.j1;rw [clone_f _ hL,Aa];simp only;have hlen:(l.take (Ks l p)).length=Ks l p:=by simp;omega
 rw [Ds (by simp;omega),Aa,Aa,Bn]
 have e2:(l.take (Ks l p)++[(⟨p,[]⟩:File)]++l.drop (Ks l p))[Ks l p]'(by simp;omega)=⟨p,[]⟩:=by
  rw [Hh (by simp;omega),Hc (by omega)]
  simp [hlen]
 rw [e2];unfold Zf;congr 2;rw [A6,A6,List.set_append_right _ _ (by omega),hlen,Nd]
 rfl
theorem del_f (l:Ao) {j:Nat} (hj:j < l.length):del? l (j:Int) ((j+1:Nat):Int)=some (l.eraseIdx j):=by
 unfold del?;rw [Af (by omega),Bn,Bn,List.eraseIdx_eq_take_drop_succ]
def Qq (c:TreeChange) (l:Ao):Int×Ao :=
 if c.Kind=1 then if Ku l c.Path=true then (7,l) else if 24≤l.length then (14,l) else (0,Zf l ⟨c.Path,c.Lines⟩)
 else match (if K1 l c.Path=true then l[Ks l c.Path]? else Option.none) with
 | Option.none=>(6,l)
 | some f =>
  if c.Kind=2 then if f.Lines≠c.Lines then (19,l) else (0,l.eraseIdx (Ks l c.Path))
  else if c.Kind=3 then if Ku (l.eraseIdx (Ks l c.Path)) c.To=true then (7,l) else (0,Zf (l.eraseIdx (Ks l c.Path)) ⟨c.To,f.Lines⟩)
  else if (Qj c.Patch f.Lines).2.Code≠0 then ((Qj c.Patch f.Lines).2.Code,l) else (0,l.set (Ks l c.Path) ⟨f.Path,(Qj c.Patch f.Lines).1⟩)
theorem TrOk.text_len {l:Ao} (h:TrOk l) {f:File} (hf:f∈l):f.Lines.length≤120:=(h.text f hf).1
theorem make1_f {l:Ao} (h:TrOk l) {c:TreeChange} (hc:OkCh c):Lb c ⟨l⟩=some ((Qq c l).1,⟨(Qq c l).2⟩):=by
 have hl:=h.len;have hps:∀ f∈l,f.Path.size≤1000000:=fun f hf=>by have:=N1 (h.path f hf);omega
 have hcp:=N1 hc.path;have hcl:c.Lines.length≤120:=Mz hc.lines;unfold Lb Qq;simp only;rw [Find_f h.srt (by omega),Aa]
 by_cases k1:c.Kind=1
 ·rw [Aw k1,Af rfl,Af k1,clash_f hps (by omega) (by omega),Aa,clO_all]
  cases hr:Ku l c.Path
  ·rw [Ae Ay,Ae Ay];by_cases h24:24≤l.length
   ·rw [Aw (by omega),Af rfl,Af h24]
   ·rw [Az (by omega),Ae Ay,Ae h24,Put_f h.srt (by omega) (rel_has hr) (by omega),Aa]
  ·rw [Af rfl,Af rfl]
 rw [Az k1,Ae Ay,Ae k1];cases hh:K1 l c.Path with
 | false =>
  rw [Af (by rfl)]
  simp only [Bc,Cg]
 | true =>
  obtain ⟨hp,he⟩:=X9 h.srt hh;have hfm:=A5 hp;have hft:=h.text_len hfm;rw [Ae (show ¬ ((!true)=true) by decide),Ds hp,Aa,Af rfl,Bb hp]
  simp only
  have ez:ckK .i64 (((Ks l c.Path:Nat):Int)+1)=some ((Ks l c.Path+1:Nat):Int):=by
   rw [C9 (by omega) (by omega)];rfl
  by_cases k2:c.Kind=2
  ·rw [Aw k2,Af rfl,Af k2,Yy _ _ (by omega),Aa]
   by_cases ht:l[Ks l c.Path].Lines=c.Lines
   ·rw [Aw ht,Ae (show ¬ ((!true)=true) by decide),Ae (fun hn=>hn ht),ez,Aa,del_f l hp,Aa];rfl
   ·rw [Az ht,Af (by rfl),Af ht]
  rw [Az k2,Ae Ay,Ae k2];by_cases k3:c.Kind=3
  ·have hto:=N1 (hc.to k3).1;have hcl3:=clO_ne (p:=c.To) l 0 (Ks l c.Path);rw [Hm] at hcl3;rw [Aw k3,Af rfl,Af k3,clash_f hps (by omega) (by omega),Aa,hcl3]
   cases hr:Ku (l.eraseIdx (Ks l c.Path)) c.To
   ·rw [Ae Ay,Ae Ay,ez,Aa,del_f l hp,Aa,
     Put_f (h.srt.sublist (List.eraseIdx_sublist _ _)) (by have:=List.length_eraseIdx_le l (Ks l c.Path);omega) (rel_has hr) (by omega),Aa];rfl
   ·rw [Af rfl,Af rfl]
  ·rw [Az k3,Ae Ay,Ae k3,apply_f,Aa];by_cases ha:(Qj c.Patch l[Ks l c.Path].Lines).2.Code=0
   ·have hi:(Qj c.Patch l[Ks l c.Path].Lines).2.Index=0:=by rw [(applyF_ok ha).2.2.2.2.2]
    rw [Aw ha,Aw hi,Ae (by decide),Ae (fun hn=>hn ha),Aa,Aa,Bn];rfl
   ·rw [Af (by simp [ha]),Af ha]
theorem pos_eq {m:Ao} (h:M3 m) {p:ByteArray} {k:Nat} (hk:k≤m.length) (h1:∀ i (hi:i < m.length),i < k→sLt m[i].Path p=true) (h2:∀ i (hi:i < m.length),k≤i→sLt m[i].Path p=false):Ks m p=k:=by
 have hp:=pos_le m p;rcases Oo (Ks m p) k with h3 | h3 | h3
 ·have:=h1 (Ks m p) (by omega) h3
  rw [pos_lt h] at this;simp at this
 ·exact h3
 ·have:=h2 k (by omega) (C8 _)
  rw [pos_lt h] at this;simp at this;omega
theorem tw_all {α:Type} {p:α→Bool}:∀ {l:List α},(∀ f∈l,p f=true)→l.takeWhile p=l
 | [],_=>rfl
 | f::l,h=>by rw [List.takeWhile_cons,h f B9,Af rfl,tw_all fun g hg=>h g (Be _ hg)]
theorem ins_end {m:Ao} {x:File} (h:∀ f∈m,sLt f.Path x.Path=true):Zf m x=m++[x]:=by
 have:Ks m x.Path=m.length:=by
  unfold Ks;rw [tw_all fun f hf=>h f hf]
 unfold Zf;rw [this];simp
theorem erase_rel {l:Ao} (h:TrOk l) {j:Nat} (hj:j < l.length):Ku (l.eraseIdx j) l[j].Path=false:=by
 unfold Ku;rw [K8];intro f hf;rw [List.mem_eraseIdx_iff_getElem] at hf;obtain ⟨i,hi,hne,rfl⟩:=hf;rcases Nat.lt_or_gt_of_ne hne with h1 | h1
 ·have:=Cp.1 h.rel i j hi hj h1;rw [this];decide
 ·have:=Cp.1 h.rel j i hj hi h1;rw [relB_comm,this];decide
theorem pos_erase {l:Ao} (h:M3 l) {j:Nat} (hj:j < l.length):Ks (l.eraseIdx j) l[j].Path=j:=by
 have hlen:(l.eraseIdx j).length=l.length - 1:=by rw [List.length_eraseIdx,Af hj]
 refine pos_eq (h.sublist (List.eraseIdx_sublist _ _)) (by omega) ?_ ?_
 ·intro i hi hij;rw [List.getElem_eraseIdx_of_lt _ hij];exact Cp.1 h i j (by omega) hj hij
 ·intro i hi hij;rw [List.getElem_eraseIdx_of_ge _ hij];exact T9 (Cp.1 h j (i+1) hj (by omega) (by omega))
theorem ins_erase {l:Ao} (h:M3 l) {j:Nat} (hj:j < l.length) {x:File} (hx:x.Path=l[j].Path):Zf (l.eraseIdx j) x=l.set j x:=by
 unfold Zf;rw [hx,pos_erase h hj,List.eraseIdx_eq_take_drop_succ,List.set_eq_take_append_cons_drop,Af hj];have h1:(l.take j++l.drop (j+1)).take j=l.take j:=by rw [Cy (by simp;omega),List.take_take,Nat.min_self]
 have h2:(l.take j++l.drop (j+1)).drop j=l.drop (j+1):=by
  have hl:(l.take j).length=j:=by simp;omega
  rw [List.drop_append_of_le_length (by omega),D4 (by omega),Cw]
 rw [h1,h2];simp
theorem ins_ok {l:Ao} (h:TrOk l) {x:File} (h1:K3 x.Path=true) (h2:Ku l x.Path=false) (h3:Lr x.Lines) (h4:l.length < 24):TrOk (Zf l x):=by
 have hrel:∀ f∈l,T8 f.Path x.Path=false:=by
  intro f hf;unfold Ku at h2;rw [K8] at h2;simpa using h2 f hf
 refine ⟨by rw [ins_len];omega,ins_srt h.srt (rel_has h2),?_,?_,?_⟩
 ·intro f hf;rcases Yf.1 hf with rfl | hf
  ·exact h1
  ·exact h.path f hf
 ·unfold Zf;rw [Kb,Kb];have hr:=h.rel;rw [← H3 (Ks l x.Path) l,Kb] at hr;refine ⟨⟨hr.1,H9 _ _,?_⟩,hr.2.1,?_⟩
  ·intro a ha b hb;rw [Bd] at hb;subst hb;exact hrel a (C3 ha)
  ·intro a ha b hb;rcases Bl.1 ha with ha | ha
   ·exact hr.2.2 a ha b hb
   ·rw [Bd] at ha;subst ha;rw [relB_comm];exact hrel b (Et hb)
 ·intro f hf;rcases Yf.1 hf with rfl | hf
  ·exact h3
  ·exact h.text f hf
theorem erase_ok {l:Ao} (h:TrOk l) (j:Nat):TrOk (l.eraseIdx j):=by
 have hs:=List.eraseIdx_sublist l j;refine ⟨Ck hs.length_le h.len,h.srt.sublist hs,fun f hf=>h.path f (hs.subset hf),h.rel.sublist hs,fun f hf=>h.text f (hs.subset hf)⟩
theorem applyF_text {p:Patch} {t:Ag} (h:(Qj p t).2.Code=0):Lr (Qj p t).1:=by
 obtain ⟨h1,h2,h3,h4,h5,h6⟩:=applyF_ok h;rw [h6];exact ⟨h5,rawS_lines _ _ _ h3.2 fun x hx=>lines_of (good_at h2 (by omega) x hx).2.2.2.1⟩
theorem makeF_ok {l:Ao} (h:TrOk l) {c:TreeChange} (hc:OkCh c) (h0:(Qq c l).1=0):TrOk (Qq c l).2:=by
 unfold Qq at h0 ⊢;by_cases k1:c.Kind=1
 ·rw [Af k1] at h0 ⊢;cases hr:Ku l c.Path
  ·rw [hr,Ae Ay] at h0;rw [Ae Ay];by_cases h24:24≤l.length
   ·rw [Af h24] at h0;simp at h0
   ·rw [Ae h24];exact ins_ok h hc.path hr ((Ko _).2 ((Gq _).2 hc.lines)) (by omega)
  ·rw [hr,Af rfl] at h0;simp at h0
 rw [Ae k1] at h0 ⊢;cases hh:K1 l c.Path with
 | false=>rw [hh] at h0;simp at h0
 | true =>
  obtain ⟨hp,he⟩:=X9 h.srt hh;have hfm:=A5 hp;have hle:(l.eraseIdx (Ks l c.Path)).length=l.length - 1:=by rw [List.length_eraseIdx,Af hp]
  have hl:=h.len;rw [hh,Af rfl,Bb hp] at h0;rw [Af rfl,Bb hp];simp only at h0 ⊢;by_cases k2:c.Kind=2
  ·rw [Af k2] at h0 ⊢;by_cases ht:l[Ks l c.Path].Lines≠c.Lines
   ·rw [Af ht] at h0;simp at h0
   ·rw [Ae ht];exact erase_ok h _
  rw [Ae k2] at h0 ⊢;by_cases k3:c.Kind=3
  ·rw [Af k3] at h0 ⊢;cases hr:Ku (l.eraseIdx (Ks l c.Path)) c.To
   ·rw [Ae Ay];exact ins_ok (erase_ok h _) (hc.to k3).1 hr (show Lr l[Ks l c.Path].Lines from h.text _ hfm) (by omega)
   ·rw [hr,Af rfl] at h0;simp at h0
  ·rw [Ae k3] at h0 ⊢;by_cases ha:(Qj c.Patch l[Ks l c.Path].Lines).2.Code=0
   ·rw [Ae (fun hn=>hn ha)];simp only;rw [← ins_erase h.srt hp (x:=⟨l[Ks l c.Path].Path,(Qj c.Patch l[Ks l c.Path].Lines).1⟩) rfl];refine ins_ok (erase_ok h _) (show K3 l[Ks l c.Path].Path=true from h.path _ hfm) (erase_rel h hp) ?_ (by omega)
    exact applyF_text ha
   ·rw [Af ha] at h0;exact absurd h0 ha
def pcG (k:Nat) (c:TreeChange):Option Fault:=if chF c≠0 then some ⟨chF c,k⟩ else Option.none
def pcF (p:A0):Fault:=if p.length > 30 then ⟨2,-1⟩ else (Ll pcG 0 p).getD ⟨0,0⟩
theorem VPatch_f (p:TreePatch):Dy p=some (pcF p.Changes):=by
 obtain ⟨l⟩:=p;unfold Dy pcF;simp only;by_cases h:l.length > 30
 ·rw [Aw (by omega),Af rfl,Af h]
 rw [Az (by omega),Ae Ay,Ae h,scan0 l pcG ?_ ?_,Aa]
 ·cases Ll pcG 0 l <;> rfl
 ·intro k hk _;unfold Dy.l1 pcG;simp only;rw [Aw (by omega),Af rfl,Ds hk,Aa,check_f,Aa]
  by_cases hc:chF l[k]=0
  ·rw [Aw hc,Ae (show ¬ ((!true)=true) by decide),Ae (fun hn=>hn hc),C9 (by omega) (by omega),Aa];rfl
  ·rw [Az hc,Af (by rfl),Af hc]
 ·unfold Dy.l1;rw [Az (by simp),Ae Ay]
theorem pcG_code {k:Nat} {c:TreeChange} {y:Fault} (h:pcG k c=some y):y.Code≠0:=by
 unfold pcG at h;split at h
 ·rename_i hc;cases h;exact hc
 ·cases h
theorem pcF_ok (p:A0):pcF p=⟨0,0⟩∨(pcF p).Code≠0:=by
 unfold pcF;split
 ·right;simp
 ·cases h:Ll pcG 0 p with
  | none=>left;rfl
  | some y=>right;obtain ⟨j,hj,e⟩:=Mr h;exact pcG_code e
theorem Wh (p:A0):(pcF p).Code=0↔p.length≤30∧∀ c∈p,OkCh c:=by
 unfold pcF;by_cases h:p.length > 30
 ·rw [Af h];exact ⟨fun e=>by simp at e,fun e=>by omega⟩
 rw [Ae h]
 have e1:(((Ll pcG 0 p).getD ⟨0,0⟩).Code=0)↔Ll pcG 0 p=Option.none:=by
  cases h:Ll pcG 0 p with
  | none=>simp
  | some y=>obtain ⟨j,hj,e⟩:=Mr h;simp [pcG_code e]
 rw [e1,Tw];constructor
 ·intro hh;refine ⟨by omega,fun c hc=>?_⟩
  obtain ⟨j,hj,rfl⟩:=Cd hc;have:=hh j hj;unfold pcG at this;split at this
  ·cases this
  ·rename_i h0;exact chF_ok.1 (by simpa using h0)
 ·rintro ⟨_,hh⟩ j hj;unfold pcG;rw [Ae (by rw [chF_ok.2 (hh _ (A5 hj))];simp)]
def Um:Nat→A0→Ao→Ao×Fault
 | _,[],l=>(l,⟨0,0⟩)
 | k,c::r,l=>if (Qq c l).1≠0 then ([],⟨(Qq c l).1,k⟩) else Um (k+1) r (Qq c l).2
def Ga (p:A0) (l:Ao):Ao×Fault :=
 if (pcF p).Code≠0 then ([],pcF p) else if (Ki l).Code≠0 then ([],⟨(Ki l).Code,-2⟩) else Um 0 p l
theorem copyT_f {l:Ao} (h:∀ f∈l,f.Lines.length≤1000000) (hl:l.length≤1000):Eo ⟨l⟩=some ⟨l⟩:=by
 have key:∀ (n k:Nat),k+n=l.length→Gk (fun s=>Eo.l1 ⟨l⟩ s.1 s.2) ((k:Int),l.take k)=some l:=by
  intro n
  induction n with
  | zero =>
   intro k hk;refine C4 ?_;show Eo.l1 ⟨l⟩ _ _=_;unfold Eo.l1;simp only;rw [Az (by omega),Ae Ay,C5 (by omega)]
  | succ n ih =>
   intro k hk;have hkl:k < l.length:=by omega
   have hs:Eo.l1 ⟨l⟩ (k:Int) (l.take k)=some (Step.next (((k+1:Nat):Int),l.take (k+1))):=by
    unfold Eo.l1;simp only
    rw [Aw (by omega),Af rfl,Ds hkl,Aa,clone_f _ (h _ (A5 hkl)),Aa,H6 (by simp;omega),Aa,C9 (by omega) (by omega),Aa,
     List.take_add_one,Bb hkl];rfl
   rw [C7 (s':=(((k+1:Nat):Int),l.take (k+1))) hs];exact ih (k+1) (by omega)
 unfold Eo;have:=key l.length 0 (by omega)
 rw [Kf,show ((0:Nat):Int)=0 from rfl] at this;rw [this,Aa];rfl
theorem run_ok:∀ (r:A0) (k:Nat) (l:Ao),TrOk l→(∀ c∈r,OkCh c)→(Um k r l).2.Code=0→TrOk (Um k r l).1∧(Um k r l).2=⟨0,0⟩
 | [],k,l,h,_,_=>⟨h,rfl⟩
 | c::r,k,l,h,hc,h0=>by
  rw [Um] at h0 ⊢;by_cases hm:(Qq c l).1≠0
  ·rw [Af hm] at h0;exact absurd h0 hm
  ·rw [Ae hm] at h0 ⊢;exact run_ok r (k+1) _ (makeF_ok h (hc c B9) (by simpa using hm)) (fun d hd=>hc d (Be _ hd)) h0
theorem run_iter {p:A0} (hp:∀ c∈p,OkCh c) (hpl:p.length≤30):∀ (r:A0) (k:Nat) (l:Ao),p.drop k=r→TrOk l →
  Gk (fun s=>Gu.l1 ⟨p⟩ s.1 s.2) ((k:Int),l)=some (if (Um k r l).2.Code≠0 then .inl (⟨[]⟩,(Um k r l).2) else .inr (Um k r l).1):=by
 intro r
 induction r with
 | nil =>
  intro k l hk h;have:=Ni hk;rw [Um,Ae (by simp)]
  refine C4 ?_;show Gu.l1 ⟨p⟩ _ _=_;unfold Gu.l1;simp only;rw [Az (by omega),Ae Ay]
 | cons c r ih =>
  intro k l hk h;obtain ⟨hlt,hx,hr⟩:=N7 hk;have hc:OkCh c:=hp c (hx ▸ A5 hlt)
  have hs:Gu.l1 ⟨p⟩ (k:Int) l=if (Qq c l).1≠0 then some (Step.done (Sum.inl (⟨[]⟩,⟨(Qq c l).1,k⟩))) else some (Step.next (((k+1:Nat):Int),(Qq c l).2)):=by
   unfold Gu.l1;simp only;rw [Aw (by omega),Af rfl,Ds hlt,Aa,hx,make1_f h hc,Aa]
   by_cases hm:(Qq c l).1=0
   ·rw [Aw hm,Ae (show ¬ ((!true)=true) by decide),Ae (fun hn=>hn hm),C9 (by omega) (by omega),Aa];rfl
   ·rw [Az hm,Af (by rfl),Af hm]
  rw [Um];by_cases hm:(Qq c l).1≠0
  ·rw [Af hm] at hs ⊢;rw [Af (by simpa using hm)]
   exact C4 hs
  ·rw [Ae hm] at hs ⊢;rw [C7 (s':=(((k+1:Nat):Int),(Qq c l).2)) hs];exact ih (k+1) _ hr (makeF_ok h hc (by simpa using hm))
theorem run_fail:∀ (r:A0) (k:Nat) (l:Ao),(Um k r l).2.Code≠0→(Um k r l).1=[]
 | [],k,l,h=>absurd rfl h
 | c::r,k,l,h=>by
  rw [Um] at h ⊢;by_cases hm:(Qq c l).1≠0
  ·rw [Af hm]
  ·rw [Ae hm] at h ⊢;exact run_fail r (k+1) _ h
theorem Apply_f (p:TreePatch) (t:FileTree):Gu p t=some (⟨(Ga p.Changes t.Files).1⟩,(Ga p.Changes t.Files).2):=by
 obtain ⟨p⟩:=p;obtain ⟨l⟩:=t;unfold Gu Ga;rw [VPatch_f,Aa];simp only;rcases pcF_ok p with h | h
 ·have h0:(pcF p).Code=0:=by rw [h]
  obtain ⟨hpl,hp⟩:=(Wh p).1 h0;rw [Ae (by rw [h];decide),Ae (fun hn=>hn h0),tsecond_f,Aa]
  simp only;by_cases ht:(Ki l).Code=0
  ·have hT:=(Lv l).1 ht;rw [Af ht,Ae (by decide),Ae (fun hn=>hn ht),copyT_f (fun f hf=>by have:=hT.text_len hf;omega) (by have:=hT.len;omega),Aa]
   have:=run_iter hp hpl p 0 l rfl hT;rw [show ((0:Nat):Int)=0 from rfl] at this;rw [this,Aa];by_cases hr:(Um 0 p l).2.Code≠0
   ·rw [Af hr,run_fail _ _ _ hr]
   ·rw [Ae hr,(run_ok p 0 l hT hp (by simpa using hr)).2];rfl
  ·rw [Ae ht,Af (by simp [ht]),Af ht]
 ·rw [Af (by simp [h]),Af h]
theorem tree_refl {l:Ao} (h:∀ f∈l,f.Lines.length≤1000000) (hl:l.length≤1000000):En ⟨l⟩ ⟨l⟩=some true:=by
 unfold En;simp only;rw [Ae (by simp),scan0 l (fun _ _=>(Option.none:Option Bool)) ?_ ?_,Aa]
 ·have:Ll (fun _ _=>(Option.none:Option Bool)) 0 l=Option.none:=by rw [Tw];intro j hj;rfl
  rw [this];rfl
 ·intro k hk _;unfold En.l1;simp only
  rw [Aw (by omega),Af rfl,Ds hk,Aa,Aa,Aw rfl,Ae (show ¬ ((!true)=true) by decide),Aa,Aa,Zm _ _ (h _ (A5 hk)),Aa,
   Aw rfl,Aa,Ae (by decide),C9 (by omega) (by omega),Aa];rfl
 ·unfold En.l1;rw [Az (by simp),Ae Ay]
theorem tree_ok {l:Ao} (h:TrOk l):En ⟨l⟩ ⟨l⟩=some true:=tree_refl (fun f hf=>by have:=h.text_len hf;omega) (by have:=h.len;omega)
theorem T3 {p:A0} {l:Ao} (h:(Ga p l).2.Code=0):p.length≤30∧(∀ c∈p,OkCh c)∧TrOk l∧Ga p l=Um 0 p l∧TrOk (Ga p l).1:=by
 unfold Ga at h ⊢;by_cases hp:(pcF p).Code≠0
 ·rw [Af hp] at h;exact absurd h hp
 rw [Ae hp] at h ⊢;have hp0:=(Wh p).1 (by simpa using hp)
 by_cases ht:(Ki l).Code≠0
 ·rw [Af ht] at h;exact absurd h ht
 rw [Ae ht] at h ⊢;have hT:=(Lv l).1 (by simpa using ht)
 exact ⟨hp0.1,hp0.2,hT,rfl,(run_ok p 0 l hT hp0.2 h).1⟩
theorem applyT_fail {p:A0} {l:Ao} (h:(Ga p l).2.Code≠0):(Ga p l).1=[]:=by
 unfold Ga at h ⊢;by_cases hp:(pcF p).Code≠0
 ·rw [Af hp]
 rw [Ae hp] at h ⊢;by_cases ht:(Ki l).Code≠0
 ·rw [Af ht]
 rw [Ae ht] at h ⊢;exact run_fail _ _ _ h
theorem applyT_of {p:A0} {l:Ao} (h1:p.length≤30) (h2:∀ c∈p,OkCh c) (h3:TrOk l):Ga p l=Um 0 p l:=by
 unfold Ga;rw [Ae (by rw [(Wh p).2 ⟨h1,h2⟩];simp),Ae (by rw [(Lv l).2 h3];simp)]
theorem one_ok {p:ByteArray} {L:Ag} (h1:K3 p=true) (h2:Lr L):TrOk [⟨p,L⟩] :=
 ⟨by simp,H9 _ _,by simpa using h1,H9 _ _,by simpa using h2⟩
theorem run_app:∀ (a:A0) (k:Nat) (b:A0) (l:Ao),(Um k a l).2.Code=0→Um k (a++b) l=Um (k+a.length) b (Um k a l).1
 | [],k,b,l,h=>rfl
 | c::r,k,b,l,h=>by
  rw [List.cons_append,Um];rw [Um] at h ⊢;by_cases hm:(Qq c l).1≠0
  ·rw [Af hm] at h;exact absurd h hm
  ·rw [Ae hm] at h ⊢;rw [Ae hm,run_app r (k+1) b _ h,Dl];congr 1;omega
def Can (c:TreeChange) (l:Ao) (x:Option File):Prop :=
 (c.Kind=1∧(∀ f∈l,T8 f.Path c.Path=false)∧x=some ⟨c.Path,c.Lines⟩) ∨
 (c.Kind=2∧(⟨c.Path,c.Lines⟩:File)∈l∧x=Option.none) ∨
 (c.Kind=3∧∃ L,(⟨c.Path,L⟩:File)∈l∧(∀ f∈l,f.Path≠c.Path→T8 f.Path c.To=false)∧x=some ⟨c.To,L⟩) ∨
 (c.Kind=4∧∃ L,(⟨c.Path,L⟩:File)∈l∧(Qj c.Patch L).2.Code=0∧x=some ⟨c.Path,(Qj c.Patch L).1⟩)
def Res (P:ByteArray) (l:Ao) (x:Option File) (l':Ao):Prop:=∀ f,f∈l'↔(f∈l∧f.Path≠P)∨some f=x
theorem srt_uniq {l:Ao} (h:M3 l) {f g:File} (hf:f∈l) (hg:g∈l) (e:f.Path=g.Path):f=g:=by
 obtain ⟨i,hi,rfl⟩:=Cd hf;obtain ⟨j,hj,rfl⟩:=Cd hg;have h1:=(pos_of h hi).1;have h2:=(pos_of h hj).1;rw [e,h2] at h1;subst h1;rfl
theorem erase_mem {l:Ao} (h:M3 l) {j:Nat} (hj:j < l.length) {f:File}:f∈l.eraseIdx j↔f∈l∧f.Path≠l[j].Path:=by
 rw [List.mem_eraseIdx_iff_getElem];constructor
 ·rintro ⟨i,hi,hne,rfl⟩;refine ⟨A5 _,fun e=>hne ?_⟩;have h1:=(pos_of h hi).1;have h2:=(pos_of h hj).1;rw [e,h2] at h1;exact h1.symm
 ·rintro ⟨hf,hne⟩;obtain ⟨i,hi,rfl⟩:=Cd hf;exact ⟨i,hi,fun e=>hne (by subst e;rfl),rfl⟩
theorem rel_all {l:Ao} {p:ByteArray}:Ku l p=false↔∀ f∈l,T8 f.Path p=false:=by
 unfold Ku;rw [K8];simp
theorem res_eq:∀ {a b:Ao},M3 a→M3 b→(∀ f,f∈a↔f∈b)→a=b
 | [],[],_,_,_=>rfl
 | [],g::b,_,_,h=>absurd ((h g).2 B9) (by simp)
 | f::a,[],_,_,h=>absurd ((h f).1 B9) (by simp)
 | f::a,g::b,ha,hb,h=>by
  have ha':=Du.1 ha;have hb':=Du.1 hb
  have e:f=g:=by
   rcases Bt.1 ((h f).1 B9) with e | e
   ·exact e
   ·rcases Bt.1 ((h g).2 B9) with e2 | e2
    ·exact e2.symm
    ·have h1:=hb'.1 f e;have h2:=ha'.1 g e2;rw [T9 h1] at h2;cases h2
  subst e;congr 1;refine res_eq ha'.2 hb'.2 fun x=>?_
  have hne:∀ y∈a,y≠f:=fun y hy e=>by
   subst e;have:=ha'.1 y hy;rw [Us] at this;cases this
  have hne2:∀ y∈b,y≠f:=fun y hy e=>by
   subst e;have:=hb'.1 y hy;rw [Us] at this;cases this
  constructor
  ·intro hx;rcases Bt.1 ((h x).1 (Be _ hx)) with e | e
   ·exact absurd e (hne x hx)
   ·exact e
  ·intro hx;rcases Bt.1 ((h x).2 (Be _ hx)) with e | e
   ·exact absurd e (hne2 x hx)
   ·exact e
theorem mem_has {l:Ao} (h:M3 l) {P:ByteArray} {L:Ag} (hm:(⟨P,L⟩:File)∈l):∃ hp:Ks l P < l.length,K1 l P=true∧l[Ks l P]=⟨P,L⟩:=by
 obtain ⟨i,hi,e⟩:=Cd hm;have:=pos_of h hi;rw [e] at this;simp only at this;refine ⟨by omega,this.2,?_⟩
 rw [← e];congr 1;exact this.1
theorem can_make {l:Ao} (h:TrOk l) {c:TreeChange} (hc:OkCh c) {x:Option File} (hx:Can c l x):(c.Kind=1∧(Qq c l).1=14)∨((Qq c l).1=0∧Res c.Path l x (Qq c l).2):=by
 rcases hx with ⟨k,h1,rfl⟩ | ⟨k,h1,rfl⟩ | ⟨k,L,h1,h2,rfl⟩ | ⟨k,L,h1,h2,rfl⟩
 ·unfold Qq;rw [Af k,rel_all.2 h1,Ae Ay];by_cases h24:24≤l.length
  ·rw [Af h24];exact .inl ⟨k,rfl⟩
  ·rw [Ae h24];refine .inr ⟨rfl,fun f=>?_⟩;simp only;rw [Yf];constructor
   ·rintro (rfl | hf)
    ·exact .inr rfl
    ·exact .inl ⟨hf,fun e=>by have:=h1 f hf;rw [e,relB_self] at this;cases this⟩
   ·rintro (hf | hf)
    ·exact .inr hf.1
    ·exact .inl (Gx hf)
 ·right;obtain ⟨hp,hh,e⟩:=mem_has h.srt h1;unfold Qq;rw [Ae (by omega),hh,Af rfl,Bb hp]
  simp only;rw [Af k,e,Ae (by simp)]
  refine ⟨rfl,fun f=>?_⟩;simp only;rw [erase_mem h.srt hp,e];simp
 ·right;obtain ⟨hp,hh,e⟩:=mem_has h.srt h1
  have hr:Ku (l.eraseIdx (Ks l c.Path)) c.To=false:=rel_all.2 fun f hf=>by
   rw [erase_mem h.srt hp,e] at hf;exact h2 f hf.1 hf.2
  unfold Qq;rw [Ae (by omega),hh,Af rfl,Bb hp]
  simp only;rw [Ae (by omega),Af k,hr,Ae Ay]
  refine ⟨rfl,fun f=>?_⟩;simp only;rw [Yf,erase_mem h.srt hp,e];simp only [Option.some.injEq];exact Or.comm
 ·right;obtain ⟨hp,hh,e⟩:=mem_has h.srt h1;unfold Qq;rw [Ae (by omega),hh,Af rfl,Bb hp]
  simp only;rw [Ae (by omega),Ae (by omega),e]
  simp only;rw [Ae (fun hn=>hn h2)];refine ⟨rfl,fun f=>?_⟩;simp only;rw [← ins_erase h.srt hp (x:=⟨c.Path,(Qj c.Patch L).1⟩) (by rw [e]),Yf,erase_mem h.srt hp,e]
  simp only [Option.some.injEq];exact Or.comm
theorem sLt_not {a b:ByteArray} (h:sLt a b=false):a=b∨sLt b a=true:=by
 rcases sLt_tri a b with h1 | h1 | h1
 ·rw [h1] at h;cases h
 ·exact .inl h1
 ·exact .inr h1
theorem sLt_not_trans {a b c:ByteArray} (h1:sLt a b=false) (h2:sLt b c=false):sLt a c=false:=by
 rcases sLt_not h1 with rfl | h1
 ·exact h2
 rcases sLt_not h2 with rfl | h2
 ·exact T9 h1
 ·exact T9 (Xn h2 h1)
def SAsc (l:Ag):Prop:=l.Pairwise fun x y=>sLt x y=true
theorem sortS_pw (l:Ag):(W7 l).Pairwise fun x y=>sLt y x=false:=by
 have h:=List.pairwise_mergeSort (le:=fun x y=>!sLt y x) (l:=l)
  (fun a b c h1 h2=>by simp only [Bool.not_eq_true'] at h1 h2 ⊢;exact sLt_not_trans h2 h1)
  (fun a b=>by
   cases h1:sLt b a with
   | false=>rfl
   | true=>rw [T9 h1];rfl)
 exact h.imp (fun {a b} hab=>by simpa using hab)
theorem sortS_perm (l:Ag):(W7 l).Perm l:=List.mergeSort_perm _ _
def sdq (p:ByteArray):Ag→Ag
 | []=>[]
 | y::r=>if y=p then sdq p r else y::sdq y r
def sdd:Ag→Ag
 | []=>[]
 | x::r=>x::sdq x r
theorem sdq_snoc:∀ (m:Ag) (p y:ByteArray),sdq p (m++[y])=if y=(m.getLast?).getD p then sdq p m else sdq p m++[y]
 | [],p,y=>by
  by_cases h:y=p <;> simp [sdq,h]
 | x::m,p,y=>by
  rw [List.cons_append,sdq,sdq,sdq_snoc m,sdq_snoc m]
  have hl:((x::m).getLast?).getD p=(m.getLast?).getD x:=by
   rw [List.getLast?_cons];cases m.getLast? <;> rfl
  rw [hl];by_cases h:x=p
  ·rw [Af h,Af h,h]
  ·rw [Ae h,Ae h];split <;> rfl
theorem sdd_snoc {m:Ag} {x y:ByteArray} (hx:m.getLast? = some x):sdd (m++[y])=if y=x then sdd m else sdd m++[y]:=by
 cases m with
 | nil=>cases hx
 | cons z m =>
  rw [List.cons_append,sdd,sdd,sdq_snoc];rw [List.getLast?_cons] at hx
  have:(m.getLast?).getD z=x:=by
   cases h:m.getLast? with
   | none=>rw [h] at hx;cases hx;rfl
   | some w=>rw [h] at hx;cases hx;rfl
  rw [this];split <;> rfl
theorem slast_at {l:Ag} (h:0 < l.length):l.getLast? = some l[l.length - 1]:=by
 rw [List.getLast?_eq_getElem?,Bb (by omega)]
theorem sdd_take {l:Ag} {k:Nat} (h:k < l.length) (h0:0 < k):sdd (l.take (k+1))=if l[k]=l[k - 1] then sdd (l.take k) else sdd (l.take k)++[l[k]]:=by
 rw [Bi h];refine sdd_snoc ?_;have hlen:(l.take k).length=k:=by rw [Bg];omega
 rw [slast_at (by omega),Gg]
 congr 2;omega
theorem sdd_none {l:Ag}:∀ k,k≤l.length→(∀ j (h:j < l.length),0 < j→j < k→l[j]≠l[j - 1])→sdd (l.take k)=l.take k
 | 0,_,_=>by rw [Kf];rfl
 | 1,h1,_=>by
  cases l with
  | nil=>rfl
  | cons x l=>simp [sdd,sdq]
 | k+2,hk,h=>by
  rw [sdd_take (by omega) (by omega),Ae (h (k+1) (by omega) (by omega) (by omega)),sdd_none (k+1) (by omega) (fun j hj h1 h2=>h j hj h1 (by omega))]
  rw [← Bi]
def scG (l:Ag) (k:Nat) (v:ByteArray):Option Ag:=if 0 < k∧l[k - 1]? = some v then some (sdd l) else Option.none
theorem sc2_f {l:Ag} (hl:l.length≤100000) {k:Nat} (hk:k < l.length) (h0:0 < k) (hd:sdd (l.take (k+1))=l.take k) :
  ∃ r,Gk (fun s=>Cq.l2 (k:Int) ((l.length:Int) - k) s.1 s.2.1 s.2.2) (1,(k:Int),l)=some r∧∃ p:Nat,r.1=p∧p≤r.2.length∧r.2.length=l.length∧r.2.take p=sdd l:=by
 refine inv_loopE (f:=fun s=>Cq.l2 (k:Int) ((l.length:Int) - k) s.1 s.2.1 s.2.2) 1 (l.length - k) (by omega)
  (fun j t=>t.2.length=l.length∧∃ p:Nat,t.1=p∧p≤k+j - 1∧t.2.take p=sdd (l.take (k+j))∧t.2.drop (k+j - 1)=l.drop (k+j - 1)) _ ?_ ?_ ((k:Int),l) ⟨rfl,k,rfl,by omega,hd.symm,rfl⟩
 ·rintro j ⟨_,t⟩ hj1 hj ⟨ht,p,hp,hpk,htake,hdrop⟩;simp only at ht hp htake hdrop;subst hp;left;have hkj:k+j < l.length:=by omega
  have g1:t[k+j]'(by omega)=l[k+j]:=by
   have h1:=D6 (xs:=t) (i:=k+j - 1) (j:=1) (h:=by rw [Bz];omega)
   have h2:=D6 (xs:=l) (i:=k+j - 1) (j:=1) (h:=by rw [Bz];omega)
   have e:k+j - 1+1=k+j:=by omega
   simp only [hdrop,e] at h1 h2;rw [← h1,← h2]
  have g2:t[k+j - 1]'(by omega)=l[k+j - 1]:=by
   have h1:=D6 (xs:=t) (i:=k+j - 1) (j:=0) (h:=by rw [Bz];omega)
   have h2:=D6 (xs:=l) (i:=k+j - 1) (j:=0) (h:=by rw [Bz];omega)
   simp only [hdrop,E8] at h1 h2;rw [← h1,← h2]
  have a1:atA? t (k:Int) ((l.length:Int) - k) (j:Int)=some l[k+j]:=by
   unfold atA?;rw [Af (by omega),show ((k:Int)+(j:Int))=((k+j:Nat):Int) by omega,Ds (by omega),g1]
  have a2:atA? t (k:Int) ((l.length:Int) - k) ((j:Int) - 1)=some l[k+j - 1]:=by
   unfold atA?;rw [Af (by omega),show ((k:Int)+((j:Int) - 1))=((k+j - 1:Nat):Int) by omega,Ds (by omega),g2]
  unfold Cq.l2;simp only;rw [A2,Af (by omega),a1,Aa,C9 (by omega) (by omega),Aa,a2,Aa,Q8]
  have hdd:=sdd_take (l:=l) (k:=k+j) hkj (by omega)
  unfold Cq.j4;by_cases hc:l[k+j]=l[k+j - 1]
  ·rw [Af hc,C9 (by omega) (by omega),Aa]
   rw [Af hc] at hdd;refine ⟨_,rfl,ht,p,rfl,by omega,?_,?_⟩
   ·rw [show k+(j+1)=k+j+1 by omega,hdd];exact htake
   ·have e:k+(j+1) - 1=(k+j - 1)+1:=by omega
    rw [e,← H8,← H8,hdrop]
  ·rw [Ae hc];rw [Ae hc] at hdd;simp only [Aa];rw [Ds (by omega),Aa,C9 (by omega) (by omega),Aa,C9 (by omega) (by omega),Aa,Bn]
   refine ⟨_,rfl,by simpa using ht,p+1,by omega,by omega,?_,?_⟩
   ·rw [show k+(j+1)=k+j+1 by omega,hdd,← htake]
    have hpl:p < t.length:=by omega
    rw [Bi (by simpa using hpl),List.getElem_set_self,List.take_set_of_le (C8 _)]
   ·have e:k+(j+1) - 1=(k+j - 1)+1:=by omega
    rw [e,List.drop_set_of_lt (by omega),← H8,← H8,hdrop]
 ·rintro ⟨_,t⟩ ⟨ht,p,hp,hpk,htake,hdrop⟩;simp only at ht hp htake hdrop;subst hp;unfold Cq.l2;simp only;rw [A2,Ae (by omega)]
  refine ⟨_,rfl,p,rfl,?_,ht,?_⟩
  ·simp only;omega
  ·have e:k+(l.length - k)=l.length:=by omega
   rw [e,C2] at htake;exact htake
theorem scompact_f {l:Ag} (hl:l.length≤100000):Cq l=some (sdd l):=by
 unfold Cq;rw [A2];by_cases h2:l.length < 2
 ·rw [Af (by omega)]
  congr 1
  match l,h2 with
  | [],_=>rfl
  | [x],_=>rfl
  | _::_::_,h=>simp at h;omega
 rw [Ae (by omega)]
 have hg:∀ k (h:k < l.length),scG l k l[k]=if 0 < k∧l[k - 1]=l[k] then some (sdd l) else Option.none:=by
  intro k h;unfold scG;rw [Bb (by omega)]
  simp only [Option.some.injEq]
 have hi:=scn_iter (f:=fun s=>Cq.l1 l s) (dn:=Sum.inl) (e:=.inr ()) 1 l (scG l) ?_ ?_ (l.drop 1) 1 rfl (by omega) (C8 _) (fun j hj h=>by
  have:j=0:=by omega
  subst this;unfold scG;rw [Ae (by omega)])
 ·rw [show ((1:Nat):Int)=1 from rfl] at hi;rw [hi,Aa];cases hs:scn (scG l) 1 (l.drop 1) with
  | some r =>
   obtain ⟨j,hj,he⟩:=scn_some hs;unfold scG at he;split at he
   ·cases he;rfl
   ·cases he
  | none =>
   show Cq.j1 l=_;unfold Cq.j1
   have:=sdd_none (l:=l) l.length (C8 _) (fun j hj h0 _=>by
    have:=scn_none.1 hs (j - 1) (by rw [Bz];omega)
    rw [D6] at this;have e:1+(j - 1)=j:=by omega
    simp only [e] at this;rw [hg j hj] at this;split at this
    ·cases this
    ·rename_i hn
     exact fun h=>hn ⟨h0,h.symm⟩)
   rw [C2] at this;rw [this]
 ·intro k h hk0 hp;rw [hg k h]
  ·unfold Cq.l1;rw [A2,Af (by omega),Ds h,Aa,C9 (by omega) (by omega),Aa,show ((k:Int) - 1)=((k - 1:Nat):Int) by omega,Ds (by omega),Aa,A2]
   by_cases hc:l[k]=l[k - 1]
   ·rw [Af hc,Af ⟨by omega,hc.symm⟩]
    have hd:sdd (l.take (k+1))=l.take k:=by
     rw [sdd_take h (by omega),Af hc,sdd_none k (by omega)]
     intro j hj h0 hjk;have:=hp j hj hjk;rw [hg j hj] at this;split at this
     ·cases this
     ·rename_i hn
      exact fun h=>hn ⟨h0,h.symm⟩
    obtain ⟨r,e,p,hr1,hpl,hlen,htk⟩:=sc2_f hl h (by omega) hd
    have e1:als? l (k:Int)=some ((l.length:Int) - k):=by
     unfold als?;rw [Af (by omega)]
    rw [e1,Aa,e,Aa];unfold Cq.j3
    have e2:als? r.2 r.1=some ((r.2.length:Int) - p):=by
     unfold als?;rw [hr1,Af (by omega)]
    rw [e2,Aa]
    have e3:clr? r.2 r.1 ((r.2.length:Int) - p) ByteArray.empty=some (r.2.take p++List.replicate ((r.2.length:Int) - p).toNat ByteArray.empty):=by
     unfold clr?;rw [hr1,Af (by omega),Bn]
    rw [e3,Aa,hr1,Vd (by omega) (by omega) (by simp;omega),Aa]
    simp only [Bn,Int.toNat_zero,List.drop_zero];rw [Cy (by simp;omega),List.take_take,Nat.min_self,htk]
   ·rw [Ae hc,Ae (fun h=>hc h.2.symm)];unfold Cq.j2;rw [C9 (by omega) (by omega),Aa];rfl
 ·unfold Cq.l1;rw [A2,Ae (by omega)]
theorem sdq_spec:∀ (l:Ag) (p:ByteArray),(∀ y∈l,sLt y p=false)→l.Pairwise (fun x y=>sLt y x=false) →
  (sdq p l).Pairwise (fun x y=>sLt x y=true)∧(∀ z∈sdq p l,sLt p z=true)∧∀ z,z∈sdq p l↔z∈l∧z≠p
 | [],p,_,_=>by simp [sdq]
 | y::r,p,hge,hs=>by
  rw [Du] at hs;rw [sdq];by_cases h:y=p
  ·rw [Af h];obtain ⟨h1,h2,h3⟩:=sdq_spec r p (fun z hz=>hge z (by simp [hz])) hs.2
   refine ⟨h1,h2,fun z=>?_⟩;rw [h3,Bt];constructor
   ·rintro ⟨a,b⟩;exact ⟨.inr a,b⟩
   ·rintro ⟨rfl | a,b⟩
    ·exact absurd h b
    ·exact ⟨a,b⟩
  ·rw [Ae h];obtain ⟨h1,h2,h3⟩:=sdq_spec r y (fun z hz=>hs.1 z hz) hs.2
   have hpy:sLt p y=true:=by
    rcases sLt_not (hge y (by simp)) with h4 | h4
    ·exact absurd h4 h
    ·exact h4
   refine ⟨Du.2 ⟨h2,h1⟩,?_,fun z=>?_⟩
   ·intro z hz;rcases Bt.1 hz with rfl | hz
    ·exact hpy
    ·exact Xn hpy (h2 z hz)
   ·rw [Bt,h3,Bt];constructor
    ·rintro (rfl | ⟨a,b⟩)
     ·exact ⟨.inl rfl,h⟩
     ·refine ⟨.inr a,fun e=>?_⟩;have h4:=h2 z ((h3 z).2 ⟨a,b⟩);rw [e,T9 hpy] at h4;cases h4
    ·rintro ⟨rfl | a,b⟩
     ·exact .inl rfl
     ·by_cases e:z=y
      ·exact .inl e
      ·exact .inr ⟨a,e⟩
theorem sdd_spec {l:Ag} (hs:l.Pairwise (fun x y=>sLt y x=false)):SAsc (sdd l)∧∀ z,z∈sdd l↔z∈l:=by
 cases l with
 | nil=>simp [sdd,SAsc]
 | cons x r =>
  rw [Du] at hs;obtain ⟨h1,h2,h3⟩:=sdq_spec r x hs.1 hs.2;rw [sdd];refine ⟨Du.2 ⟨h2,h1⟩,fun z=>?_⟩;rw [Bt,h3,Bt];constructor
  ·rintro (rfl | ⟨a,_⟩)
   ·exact .inl rfl
   ·exact .inr a
  ·rintro (rfl | a)
   ·exact .inl rfl
   ·by_cases e:z=x
    ·exact .inl e
    ·exact .inr ⟨a,e⟩
theorem sdq_len:∀ (l:Ag) (p:ByteArray),(sdq p l).length≤l.length
 | [],_=>C8 _
 | y::r,p=>by
  rw [sdq];split
  ·have:=sdq_len r p;simp only [Dl];omega
  ·have:=sdq_len r y;simp only [Dl];omega
theorem sdd_len (l:Ag):(sdd l).length≤l.length:=by
 cases l with
 | nil=>exact C8 _
 | cons x r=>have:=sdq_len r x;simp only [sdd,Dl];omega
def ksort (l:Ag):Ag:=sdd (W7 l)
theorem ksort_asc (l:Ag):SAsc (ksort l):=(sdd_spec (sortS_pw l)).1
theorem ksort_mem (l:Ag) (z:ByteArray):z∈ksort l↔z∈l:=by
 unfold ksort;rw [(sdd_spec (sortS_pw l)).2,(sortS_perm l).mem_iff]
theorem ksort_len (l:Ag):(ksort l).length≤l.length:=by
 have:=sdd_len (W7 l);rw [(sortS_perm l).length_eq] at this;exact this
end Go.Dc
