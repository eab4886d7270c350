import Derived.Test.YtmhjcomgbfonfaaGreatDoorDcNB
import Derived.Test.YtmhjcomgbfonfaaGreatDoorDcRS
set_option linter.unusedSimpArgs false
set_option linter.unusedVariables false
set_option maxRecDepth 4000
namespace Go.Dc
open Go
theorem end_f (h:Hunk) (h0 : -1000000≤h.At) (h1:h.At≤1000000) (h2:h.Old.length≤1000000):H3 h=some (h.At+h.Old.length):=by
  unfold H3;rw [Ck (by omega) (by omega)];rfl
def Oh (h:Hunk) (e:Int):Int :=
  if h.At < 0∨h.At > 120 then 3 else if (B6 h.Old).Code≠0 then (B6 h.Old).Code else if (B6 h.New).Code≠0 then (B6 h.New).Code else
  if h.Old.length+h.New.length=0∨h.At≤e then 5 else if h.At+h.Old.length > 120 then 3 else 0
theorem Ew {l:List ByteArray} (h:(B6 l).Code=0):l.length≤120:=((Ha l).2 ((D8 l).2 h)).1
theorem hunk_f (h:Hunk) (e:Int):C5 h e=some (Oh h e):=by
  unfold C5 Oh;by_cases ha:h.At < 0∨h.At > 120
  · rw [if_pos ha]
    have:(if decide (h.At < 0)=true then some true else some (decide (h.At > 120)))=some true:=by
      rw [Bx];by_cases h0:h.At < 0
      · rw [if_pos h0]
      · rw [if_neg h0,decide_eq_true (by omega)]
    rw [this,Option.bind_some,if_pos rfl]
  · rw [if_neg ha]
    have:(if decide (h.At < 0)=true then some true else some (decide (h.At > 120)))=some false:=by
      rw [Bx,if_neg (by omega),decide_eq_false (by omega)]
    rw [this,Option.bind_some,if_neg (by decide)]
    have l0:C5.l1 h 0=if (B6 h.Old).Code≠0 then some (.done (.inl (B6 h.Old).Code)) else some (.next 1):=by
      unfold C5.l1;rw [Bx,if_pos (by decide),show at? ([h.Old,h.New]:List (List ByteArray)) 0=some h.Old from rfl,Option.bind_some,Mw,Option.bind_some]
      rcases Kj h.Old with h1 | h1
      · rw [h1,if_neg (by decide),if_neg (by decide),Ck (by omega) (by omega)];rfl
      · rw [if_pos h1,if_pos (Lg.2 fun h2=>h1 h2.1)]
    have l1:C5.l1 h 1=if (B6 h.New).Code≠0 then some (.done (.inl (B6 h.New).Code)) else some (.next 2):=by
      unfold C5.l1;rw [Bx,if_pos (by decide),show at? ([h.Old,h.New]:List (List ByteArray)) 1=some h.New from rfl,Option.bind_some,Mw,Option.bind_some]
      rcases Kj h.New with h1 | h1
      · rw [h1,if_neg (by decide),if_neg (by decide),Ck (by omega) (by omega)];rfl
      · rw [if_pos h1,if_pos (Lg.2 fun h2=>h1 h2.1)]
    have l2:C5.l1 h 2=some (.done (.inr ())):=by
      unfold C5.l1;rw [Bx,if_neg (by decide)]
    by_cases ho:(B6 h.Old).Code≠0
    · rw [if_pos ho] at l0 ⊢;rw [B1 l0,Option.bind_some]
    · rw [if_neg ho] at l0 ⊢;by_cases hw:(B6 h.New).Code≠0
      · rw [if_pos hw] at l1 ⊢;rw [B8 l0,B1 l1,Option.bind_some]
      · rw [if_neg hw] at l1 ⊢;rw [B8 l0,B8 l1,B1 l2,Option.bind_some];have s1:=Ew (l:=h.Old) (by omega)
        have s2:=Ew (l:=h.New) (by omega)
        simp only;unfold C5.j1;rw [Ck (by omega) (by omega),Option.bind_some]
        by_cases hm:h.Old.length+h.New.length=0∨h.At≤e
        · rw [if_pos hm]
          have:(if decide ((h.Old.length:Int)+(h.New.length:Int)=0)=true then some true else some (decide (h.At≤e)))=some true:=by
            rw [Bx];by_cases h0:(h.Old.length:Int)+(h.New.length:Int)=0
            · rw [if_pos h0]
            · rw [if_neg h0,decide_eq_true (by omega)]
          rw [this,Option.bind_some,if_pos rfl]
        · rw [if_neg hm]
          have:(if decide ((h.Old.length:Int)+(h.New.length:Int)=0)=true then some true else some (decide (h.At≤e)))=some false:=by
            rw [Bx,if_neg (by omega),decide_eq_false (by omega)]
          rw [this,Option.bind_some,if_neg (by decide),end_f h (by omega) (by omega) (by omega),Option.bind_some,Bx]
          split <;> rfl
theorem Qn {h:Hunk} {e:Int} (hc:Oh h e=0):0≤h.At∧(B6 h.Old).Code=0∧(B6 h.New).Code=0∧0 < h.Old.length+h.New.length∧e < h.At∧h.At+h.Old.length≤120:=by
  unfold Oh at hc;split at hc
  · cases hc
  · split at hc
    · rename_i h1 h2;exact absurd hc h2
    · split at hc
      · rename_i h1 h2 h3;exact absurd hc h3
      · split at hc
        · cases hc
        · split at hc
          · cases hc
          · omega
def Ny:Int→Int→List Hunk→Option Fault
  | _,_,[]=>Option.none
  | i,e,h::r=>if Oh h e=0 then Ny (i+1) (h.At+h.Old.length) r else some ⟨Oh h e,i⟩
def C3 (p:Patch):Fault:=if p.Hunks.length > 130 then ⟨2,-1⟩ else (Ny 0 (-1) p.Hunks).getD ⟨0,0⟩
theorem pscan_code:∀ (l:List Hunk) (i e:Int) (f:Fault),Ny i e l=some f→f.Code≠0
  | [],_,_,_,h=>by cases h
  | x::r,i,e,f,h=>by
    rw [Ny] at h;split at h
    · exact pscan_code r _ _ f h
    · rename_i h0;cases h;exact h0
theorem Ls (p:Patch):C3 p=⟨0,0⟩∨(C3 p).Code≠0:=by
  unfold C3;split
  · right;show (2:Int)≠0;decide
  · cases h:Ny 0 (-1) p.Hunks with
    | none=>left;rfl
    | some f=>right;exact pscan_code _ _ _ f h
theorem patchFault_zero (p:Patch):C3 p=⟨0,0⟩↔(C3 p).Code=0:=by
  rcases Ls p with h | h
  · rw [h];exact ⟨fun _=>rfl,fun _=>rfl⟩
  · exact ⟨fun h2=>by rw [h2],fun h2=>absurd h2 h⟩
theorem Oi (p:Patch):Ch p=some (C3 p):=by
  unfold Ch C3;rw [Bx];by_cases h130:p.Hunks.length > 130
  · rw [if_pos (by omega),if_pos h130]
  · rw [if_neg (by omega),if_neg h130]
    have key:∀ (rest:List Hunk) (k:Nat) (e:Int),p.Hunks.drop k=rest→Dm (fun s=>Ch.l1 p s.1 s.2) ((k:Int),e)=some (orL (Ny k e rest)):=by
      intro rest
      induction rest with
      | nil =>
        intro k e hk;have:=Er hk;refine B1 ?_;unfold Ch.l1;rw [Bx,if_neg (by omega)];rfl
      | cons h r ih =>
        intro k e hk;obtain ⟨hlt,hh,hr⟩:=E0 hk;rw [Ny];by_cases hc:Oh h e=0
        · obtain ⟨z1,z2,z3,z4,z5,z6⟩:=Qn hc
          have e0:Ch.l1 p (k:Int) e=some (.next (((k+1:Nat):Int),h.At+h.Old.length)):=by
            unfold Ch.l1;rw [Bx,if_pos (by omega),Ci hlt,Option.bind_some,hh,hunk_f,Option.bind_some,hc,H0,if_pos rfl,end_f h (by omega) (by omega) (by omega),Option.bind_some,Ck (by omega) (by omega),Option.bind_some];rfl
          rw [if_pos hc,B8 e0];exact ih (k+1) _ hr
        · rw [if_neg hc];refine B1 ?_;unfold Ch.l1;rw [Bx,if_pos (by omega),Ci hlt,Option.bind_some,hh,hunk_f,Option.bind_some,H0,if_neg hc];rfl
    rw [show (0:Int)=((0:Nat):Int) from rfl,key p.Hunks 0 _ rfl,Option.bind_some];cases Ny ((0:Nat):Int) (-1) p.Hunks <;> rfl
def Good:Int→List Hunk→Prop
  | _,[]=>True
  | e,h::r=>Oh h e=0∧Good (h.At+h.Old.length) r
theorem pscan_good:∀ (l:List Hunk) (i e:Int),Ny i e l=Option.none↔Good e l
  | [],_,_=>by simp [Ny,Good]
  | h::r,i,e=>by
    rw [Ny,Good];by_cases hc:Oh h e=0
    · rw [if_pos hc,pscan_good r];simp [hc]
    · rw [if_neg hc];simp [hc]
theorem Lu (p:Patch):(C3 p).Code=0↔p.Hunks.length≤130∧Good (-1) p.Hunks:=by
  rw [← patchFault_zero,← pscan_good p.Hunks 0 (-1)];unfold C3;by_cases h:p.Hunks.length > 130
  · rw [if_pos h];constructor
    · intro h2;cases h2
    · intro h2;omega
  · rw [if_neg h];cases hs:Ny 0 (-1) p.Hunks with
    | none=>simp;omega
    | some f =>
      have:=pscan_code _ _ _ f hs;constructor
      · intro h2;simp at h2;rw [h2] at this;exact absurd rfl this
      · intro h2;cases h2.2
def occ (text part:List ByteArray) (k:Nat):Prop:=k≤text.length∧(text.drop k).take part.length=part
instance (text part:List ByteArray) (k:Nat):Decidable (occ text part k):=by unfold occ;infer_instance
theorem occ_len {text part:List ByteArray} {k:Nat} (h:occ text part k):k+part.length≤text.length:=by
  have h1:=congrArg List.length h.2;simp at h1;have:=h.1;omega
theorem sequal_f (a b:List ByteArray) (hb:a.length≤1000000):Ds a b=some (decide (a=b)):=by
  unfold Ds;rw [H0];by_cases hl:a.length=b.length
  · rw [if_pos (by omega)]
    have key:∀ (rest:List ByteArray) (k:Nat),a.drop k=rest→a.take k=b.take k→Dm (fun s=>Ds.l1 a b s) (k:Int)=some (if a=b then .inr () else .inl false):=by
      intro rest
      induction rest with
      | nil =>
        intro k hk ht;have:=Er hk;rw [List.take_of_length_le (by omega),List.take_of_length_le (by omega)] at ht
        rw [if_pos ht];refine B1 ?_;unfold Ds.l1;rw [Bx,if_neg (by omega)]
      | cons x r ih =>
        intro k hk ht;obtain ⟨hlt,hx,hr⟩:=E0 hk;have hlt2:k < b.length:=by omega
        by_cases he:x=b[k]
        · have e0:Ds.l1 a b (k:Int)=some (.next ((k+1:Nat):Int)):=by
            unfold Ds.l1;rw [Bx,if_pos (by omega),Ci hlt,Option.bind_some,hx,Ci hlt2,Option.bind_some,H0,if_pos he,Ck (by omega) (by omega),Option.bind_some];rfl
          rw [B8 e0];exact ih (k+1) hr (by rw [List.take_succ_eq_append_getElem hlt,List.take_succ_eq_append_getElem hlt2,ht,hx,he])
        · rw [if_neg (fun e=>he (by rw [← hx];simp only [e]))]
          refine B1 ?_;unfold Ds.l1;rw [Bx,if_pos (by omega),Ci hlt,Option.bind_some,hx,Ci hlt2,Option.bind_some,H0,if_neg he]
    rw [show (0:Int)=((0:Nat):Int) from rfl,key a 0 rfl rfl,Option.bind_some];by_cases h:a=b
    · rw [if_pos h,decide_eq_true h];rfl
    · rw [if_neg h,decide_eq_false h]
  · rw [if_neg (by omega),decide_eq_false (fun e=>hl (by rw [e]))]
theorem occurs_f (text part:List ByteArray) (i:Int) (h1:text.length≤1000000) (h2:part.length≤1000000):Lf text part i=some (decide (0≤i∧occ text part i.toNat)):=by
  unfold Lf;by_cases hi:0≤i∧i≤text.length
  · have e1:(if decide (i ≥ 0)=true then some (decide (i≤(text.length:Int))) else some false)=some true:=by
      rw [Bx,if_pos hi.1,decide_eq_true hi.2]
    rw [e1,Option.bind_some,if_pos rfl,Ck (by omega) (by omega),Option.bind_some,Option.bind_some,Bx]
    by_cases hp:(part.length:Int)≤text.length - i
    · rw [if_pos hp,Ck (by omega) (by omega),Option.bind_some,cut_eq (by omega) (by omega) (by omega),Option.bind_some,sequal_f _ _ (by simp;omega),Option.bind_some,Option.bind_some]
      congr 1
      have:(text.take (i+(part.length:Int)).toNat).drop i.toNat=(text.drop i.toNat).take part.length:=by
        rw [List.take_drop];congr 2;omega
      rw [this];rw [decide_eq_decide];unfold occ;constructor
      · intro h;exact ⟨by omega,by omega,h⟩
      · intro h;exact h.2.2
    · rw [if_neg hp,Option.bind_some];congr 1;rw [eq_comm,decide_eq_false_iff_not];rintro ⟨_,h⟩;have:=occ_len h;omega
  · have e1:(if decide (i ≥ 0)=true then some (decide (i≤(text.length:Int))) else some false)=some false:=by
      rw [Bx];by_cases h0:i ≥ 0
      · rw [if_pos h0,decide_eq_false (by omega)]
      · rw [if_neg h0]
    rw [e1];simp only [Option.bind_some,Bool.false_eq_true,if_false];congr 1;rw [eq_comm,decide_eq_false_iff_not];rintro ⟨h0,h⟩;exact hi ⟨h0,by have:=h.1;omega⟩
def rawS:List Hunk→List ByteArray→Nat→List ByteArray
  | [],text,low=>text.drop low
  | h::r,text,low=>(text.drop low).take (h.At.toNat - low)++(h.New++rawS r text (h.At.toNat+h.Old.length))
def Fits (text:List ByteArray) (l:List Hunk):Prop:=∀ h∈l,occ text h.Old h.At.toNat
theorem raw_f (text:List ByteArray) (ht:text.length≤120) (hs:List Hunk) (hn:hs.length≤130):∀ (rest:List Hunk) (k low:Nat) (out:List ByteArray) (e:Int),hs.drop k=rest→Good e rest→Fits text rest→(low:Int)≤e+1→low≤text.length→out.length≤k * 240→k≤130 →
    ∃ fin:Nat,fin≤text.length∧∃ o,Dm (fun s=>Dq.l1 hs text s.1 s.2.1 s.2.2) ((k:Int),out,(low:Int))=some (o,(fin:Int))∧o++text.drop fin=out++rawS rest text low∧o.length≤131 * 240:=by
  intro rest
  induction rest with
  | nil =>
    intro k low out e hk _ _ _ hlow hout hk130;have:=Er hk;refine ⟨low,hlow,out,B1 ?_,rfl,?_⟩
    · unfold Dq.l1;rw [Bx,if_neg (by omega)]
    · have:k * 240≤130 * 240:=Nat.mul_le_mul_right _ hk130;omega
  | cons h r ih =>
    intro k low out e hk hg hf hle hlow hout hk130;obtain ⟨hlt,hh,hr⟩:=E0 hk;obtain ⟨hc,hg'⟩:=hg;obtain ⟨z1,z2,z3,z4,z5,z6⟩:=Qn hc;have ho:=occ_len (hf h (by simp))
    have l2:=Ew z3;have hka:k < 130:=by omega
    have hlo:low≤h.At.toNat:=by omega
    have e0:Dq.l1 hs text (k:Int) out (low:Int)=some (.next (((k+1:Nat):Int),out++(text.drop low).take (h.At.toNat - low)++h.New,((h.At.toNat+h.Old.length:Nat):Int))):=by
      unfold Dq.l1
      have hcut:(text.take h.At.toNat).drop (low:Int).toNat=(text.drop low).take (h.At.toNat - low):=by
        rw [Int.toNat_natCast,List.drop_take]
      rw [Bx,if_pos (by omega),Ci hlt,Option.bind_some,hh,cut_eq (by omega) (by omega) (by omega),Option.bind_some,hcut,
        G0 (by simp;omega),Option.bind_some,G0 (by simp;omega),Option.bind_some,end_f h (by omega) (by omega) (by omega),Option.bind_some,Ck (by omega) (by omega),Option.bind_some,
        show h.At+(h.Old.length:Int)=((h.At.toNat+h.Old.length:Nat):Int) by omega]
      rfl
    rw [B8 e0];obtain ⟨fin,f1,o,f2,f3,f4⟩:=ih (k+1) (h.At.toNat+h.Old.length) (out++(text.drop low).take (h.At.toNat - low)++h.New) (h.At+h.Old.length) hr hg' (fun q hq=>hf q (List.mem_cons_of_mem _ hq)) (by omega) (by omega) (by simp;omega) (by omega)
    refine ⟨fin,f1,o,f2,?_,f4⟩;rw [f3,rawS];simp only [List.append_assoc]
theorem Raw_f {text:List ByteArray} (ht:text.length≤120) {hs:List Hunk} (hn:hs.length≤130) (hg:Good (-1) hs) (hf:Fits text hs):Dq hs text 0 (text.length:Int)=some (rawS hs text 0):=by
  obtain ⟨fin,f1,o,f2,f3,f4⟩:=raw_f text ht hs hn hs 0 0 [] (-1) rfl hg hf (by omega) (Nat.zero_le _) (by simp) (by omega)
  unfold Dq;rw [show ((0:Nat):Int)=0 from rfl] at f2;rw [f2,Option.bind_some];unfold Dq.j1;rw [cut_eq (by omega) (by omega) (by omega),Option.bind_some,Int.toNat_natCast,Int.toNat_natCast,List.take_length,G0 (by simp;omega),Option.bind_some,f3]
  rfl
def oscan (text:List ByteArray):Int→List Hunk→Option Fault
  | _,[]=>Option.none
  | i,h::r=>if occ text h.Old h.At.toNat then oscan text (i+1) r else some ⟨19,i⟩
theorem Qq (text:List ByteArray):∀ (l:List Hunk) (i:Int),oscan text i l=Option.none↔Fits text l
  | [],_=>by simp [oscan,Fits]
  | h::r,i=>by
    rw [oscan];by_cases hc:occ text h.Old h.At.toNat
    · rw [if_pos hc,Qq text r];simp [Fits,hc]
    · rw [if_neg hc];simp [Fits,hc]
theorem oscan_code (text:List ByteArray):∀ (l:List Hunk) (i:Int) (f:Fault),oscan text i l=some f→f.Code=19
  | [],_,_,h=>by cases h
  | x::r,i,f,h=>by
    rw [oscan] at h;split at h
    · exact oscan_code text r _ f h
    · cases h;rfl
def Kw (p:Patch) (text:List ByteArray):List ByteArray×Fault :=
  if (C3 p).Code≠0 then ([],C3 p) else if (B6 text).Code≠0 then ([],⟨(B6 text).Code,-2⟩) else
  match oscan text 0 p.Hunks with
  | some f=>([],f)
  | Option.none=>if (rawS p.Hunks text 0).length > 120 then ([],⟨10,-1⟩) else (rawS p.Hunks text 0,⟨0,0⟩)
theorem good_at:∀ {l:List Hunk} {e:Int},Good e l → -1≤e→∀ h∈l,0≤h.At∧h.At+h.Old.length≤120∧(B6 h.Old).Code=0∧(B6 h.New).Code=0∧0 < h.Old.length+h.New.length
  | x::r,e,hg,he,h,hm=>by
    obtain ⟨hc,hg'⟩:=hg;obtain ⟨z1,z2,z3,z4,z5,z6⟩:=Qn hc;rcases List.mem_cons.1 hm with rfl | hm
    · exact ⟨z1,z6,z2,z3,z4⟩
    · exact good_at hg' (by omega) h hm
theorem apply_f (p:Patch) (text:List ByteArray):C2 p text=some (Kw p text):=by
  unfold C2 Kw;rw [Oi,Option.bind_some];rcases Ls p with hp | hp
  · rw [hp];simp only [ne_eq,not_true,if_false];rw [if_neg (by simp),second_f,Option.bind_some]
    rcases Kj text with ht | ht
    · rw [ht];simp only [ne_eq,not_true,if_false,if_true];rw [if_neg (by simp)]
      obtain ⟨hn,hg⟩:=(Lu p).1 ((patchFault_zero p).1 hp);have hl:=Ew ((D8 text).1 ht)
      have key:∀ (rest:List Hunk) (k:Nat),p.Hunks.drop k=rest→(∀ h∈rest,0≤h.At∧h.Old.length≤120)→Dm (fun s=>C2.l1 p text s) (k:Int)=some (orL ((oscan text k rest).map fun f=>(([]:List ByteArray),f))):=by
        intro rest
        induction rest with
        | nil =>
          intro k hk _;have:=Er hk;refine B1 ?_;unfold C2.l1;rw [Bx,if_neg (by omega)];rfl
        | cons h r ih =>
          intro k hk hall;obtain ⟨hlt,hh,hr⟩:=E0 hk;obtain ⟨h0,h1⟩:=hall h (by simp)
          rw [oscan]
          have eo:Lf text h.Old h.At=some (decide (occ text h.Old h.At.toNat)):=by
            rw [occurs_f _ _ _ (by omega) (by omega)];simp [h0]
          by_cases hc:occ text h.Old h.At.toNat
          · have e0:C2.l1 p text (k:Int)=some (.next ((k+1:Nat):Int)):=by
              unfold C2.l1;rw [Bx,if_pos (by omega),Ci hlt,Option.bind_some,hh,eo,Option.bind_some,decide_eq_true hc,if_neg (by decide),Ck (by omega) (by omega),Option.bind_some];rfl
            rw [if_pos hc,B8 e0];exact ih (k+1) hr (fun q hq=>hall q (List.mem_cons_of_mem _ hq))
          · rw [if_neg hc];refine B1 ?_;unfold C2.l1;rw [Bx,if_pos (by omega),Ci hlt,Option.bind_some,hh,eo,Option.bind_some,decide_eq_false hc,if_pos (by decide)];rfl
      rw [show (0:Int)=((0:Nat):Int) from rfl,key p.Hunks 0 rfl (fun h hm=>by
        obtain ⟨z1,_,z2,_⟩:=good_at hg (by omega) h hm
        exact ⟨z1,Ew z2⟩),Option.bind_some,show (((0:Nat):Int))=0 from rfl]
      cases ho:oscan text 0 p.Hunks with
      | some f=>rfl
      | none =>
        have hf:=(Qq text p.Hunks 0).1 ho;simp only [Option.map_none,orL];unfold C2.j1;rw [Raw_f hl hn hg hf,Option.bind_some,Bx];by_cases h120:(rawS p.Hunks text 0).length > 120
        · rw [if_pos (by omega),if_pos h120]
        · rw [if_neg (by omega),if_neg h120]
    · simp only [ne_eq,ht,not_false_iff,if_true,if_false];rw [if_pos (by simp)]
  · simp only [ne_eq,hp,not_false_iff,if_true];rw [if_pos (by simp [hp])]
theorem applyF_ok {p:Patch} {text:List ByteArray} (h:(Kw p text).2.Code=0):p.Hunks.length≤130∧Good (-1) p.Hunks∧Em text∧Fits text p.Hunks∧(rawS p.Hunks text 0).length≤120∧Kw p text=(rawS p.Hunks text 0,⟨0,0⟩):=by
  unfold Kw at h ⊢;by_cases hp:(C3 p).Code≠0
  · rw [if_pos hp] at h;exact absurd h hp
  · rw [if_neg hp] at h ⊢;by_cases ht:(B6 text).Code≠0
    · rw [if_pos ht] at h;exact absurd h ht
    · rw [if_neg ht] at h ⊢;cases ho:oscan text 0 p.Hunks with
      | some f =>
        rw [ho] at h;have:=oscan_code text _ _ _ ho;simp only at h;rw [this] at h;cases h
      | none =>
        rw [ho] at h;simp only at h ⊢;by_cases h120:(rawS p.Hunks text 0).length > 120
        · rw [if_pos h120] at h;cases h
        · rw [if_neg h120];obtain ⟨a1,a2⟩:=(Lu p).1 (by omega)
          exact ⟨a1,a2,(Ha _).2 ((D8 _).2 (by omega)),(Qq _ _ _).1 ho,by omega,rfl⟩
theorem bool_or {p:Prop} [Decidable p] {b:Bool}:(if decide p=true then some true else some b)=some (decide p || b):=by
  by_cases h:p <;> simp [h]
def gr (h:Hunk):Int:=(h.New.length:Int) - h.Old.length
def rng (h:Hunk):Range_commute:=⟨h.At,h.At+h.Old.length,gr h⟩
def newR:Int→List Hunk→List Range_commute
  | _,[]=>[]
  | s,h::r=>⟨h.At+s,h.At+s+h.New.length,gr h⟩::newR (s+gr h) r
def tch (a b:Range_commute):Bool:=decide (a.High ≥ b.Low) && decide (b.High ≥ a.Low)
def SmH (B:Int) (h:Hunk):Prop:=-B≤h.At∧h.At≤B∧h.Old.length≤120∧h.New.length≤120
def Sm (B:Int) (l:List Hunk):Prop:=l.length≤130∧∀ h∈l,SmH B h
theorem sm_of {p:Patch} (h:(C3 p).Code=0):Sm 120 p.Hunks:=by
  obtain ⟨h1,h2⟩:=(Lu p).1 h;refine ⟨h1,fun x hx=>?_⟩;obtain ⟨a1,a2,a3,a4,_⟩:=good_at h2 (by omega) x hx
  exact ⟨by omega,by omega,Ew a3,Ew a4⟩
theorem growth_f (h:Hunk) (h1:h.Old.length≤120) (h2:h.New.length≤120):Ka h=some (gr h):=by
  unfold Ka;rw [Ck (by omega) (by omega)];rfl
theorem rgrowth_f (h:Hunk) (h1:h.Old.length≤120) (h2:h.New.length≤120):Gf h=some (gr h):=by
  unfold Gf;rw [Ck (by omega) (by omega)];rfl
theorem rend_f (h:Hunk) (h0 : -1000000≤h.At) (h1:h.At≤1000000) (h2:h.Old.length≤1000000):Ey h=some (h.At+h.Old.length):=by
  unfold Ey;rw [Ck (by omega) (by omega)];rfl
theorem gr_small {h:Hunk} (h1:h.Old.length≤120) (h2:h.New.length≤120) : -120≤gr h∧gr h≤120:=by unfold gr;omega
theorem Qs (l:List ByteArray) (h:l.length≤1000000):Gd l=some l:=by
  unfold Gd
  have e:((app? 16 ([]:List ByteArray) l).bind fun y1=>some y1)=some l:=by
    rw [G0 (by simp only [List.length_nil];omega)];rfl
  rw [e,nilIf_same (fun h=>by rw [h])]
theorem copy_f {B:Int} (p:Patch) (hp:Sm B p.Hunks):Dh p=some p:=by
  obtain ⟨hl,hs⟩:=hp
  have key:∀ (rest:List Hunk) (k:Nat) (out:List Hunk),p.Hunks.drop k=rest→out.length=k→Dm (fun s=>Dh.l1 p s.1 s.2) ((k:Int),out)=some (out++rest):=by
    intro rest
    induction rest with
    | nil =>
      intro k out hk _;have:=Er hk;refine B1 ?_;simp only;unfold Dh.l1;rw [Bx,if_neg (by omega),List.append_nil]
    | cons h r ih =>
      intro k out hk h3;obtain ⟨hlt,hh,hr⟩:=E0 hk;obtain ⟨b1,b2,b3,b4⟩:=hs h (hh ▸ List.getElem_mem hlt)
      have e0:Dh.l1 p (k:Int) out=some (.next (((k+1:Nat):Int),out++[h])):=by
        unfold Dh.l1
        rw [Bx,if_pos (by omega),Ci hlt,Option.bind_some,hh,Qs _ (by omega),Option.bind_some,Qs _ (by omega),Option.bind_some,
          G0 (by simp only [List.length_singleton];omega),Option.bind_some,Ck (by omega) (by omega),Option.bind_some]
        rfl
      rw [B8 e0,ih (k+1) _ hr (by simp;omega),List.append_assoc]
      rfl
  unfold Dh;rw [show (0:Int)=((0:Nat):Int) from rfl,key p.Hunks 0 [] rfl rfl,Option.bind_some];rfl
theorem fless {f:Fault} (h:f=⟨0,0⟩∨f.Code≠0):(!(decide (f.Code=0) && decide (f.Index=0)))=decide (f.Code≠0):=by
  rcases h with h | h
  · rw [h];rfl
  · simp [h]
theorem rat_f (c i:Int):B2 c i=some ⟨c,i⟩:=rfl
theorem Ot (p:Patch):Bt p=some (C3 p):=by
  unfold Bt C3;rw [Bx];by_cases h130:p.Hunks.length > 130
  · rw [if_pos (by omega),if_pos h130];rfl
  · rw [if_neg (by omega),if_neg h130]
    have key:∀ (rest:List Hunk) (k:Nat) (e:Int),p.Hunks.drop k=rest→((k=0∧e = -1)∨(0 < k∧∃ (h:k - 1 < p.Hunks.length),e=p.Hunks[k - 1].At+p.Hunks[k - 1].Old.length∧0≤p.Hunks[k - 1].At∧e≤120)) →
        Dm (fun s=>Bt.l1 p s) (k:Int)=some (orL (Ny k e rest)):=by
      intro rest
      induction rest with
      | nil =>
        intro k e hk _;have:=Er hk;refine B1 ?_;unfold Bt.l1;rw [Bx,if_neg (by omega)];rfl
      | cons h r ih =>
        intro k e hk he;obtain ⟨hlt,hh,hr⟩:=E0 hk;rw [Ny]
        have e0:Bt.l1 p (k:Int)=if Oh h e=0 then some (.next ((k+1:Nat):Int)) else some (.done (.inl ⟨Oh h e,(k:Int)⟩)):=by
          unfold Bt.l1;rw [Bx,if_pos (by omega),Ci hlt,Option.bind_some,hh]
          simp only [rat_f,linesCode_f,Option.bind_some];unfold Oh;rw [bool_or,Option.bind_some];by_cases c1:h.At < 0∨h.At > 120
          · have:(decide (h.At < 0) || decide (h.At > 120))=true:=by simp;omega
            rw [if_pos this,if_pos c1,if_neg (by decide)]
          · have:(decide (h.At < 0) || decide (h.At > 120))=false:=by simp;omega
            rw [this,if_neg (by decide),if_neg c1]
            simp only [H0];by_cases c2:(B6 h.Old).Code=0
            · rw [if_pos c2];by_cases c3:(B6 h.New).Code=0
              · rw [if_pos c3];have l1:=Ew c2;have l2:=Ew c3;simp only [c2,c3,ne_eq,not_true,if_false];rw [Ck (by omega) (by omega),Option.bind_some]
                have hprev:(if decide (((k:Nat):Int) > 0)=true then (ckK .i64 ((k:Int) - 1)).bind fun z2=>(at? p.Hunks z2).bind fun y8=>(Ey y8).bind fun y9=>some (decide (h.At≤y9)) else some false)=some (decide (h.At≤e)):=by
                  rcases he with ⟨k0,e0⟩ | ⟨kp,hk1,e1,e2,e3⟩
                  · rw [Bx,if_neg (by omega),e0,decide_eq_false (by omega)]
                  · rw [Bx,if_pos (by omega),Ck (by omega) (by omega),Option.bind_some,show (k:Int) - 1=((k - 1:Nat):Int) by omega,Ci hk1,Option.bind_some,rend_f _ (by omega) (by omega) (by omega),Option.bind_some,e1]
                rw [hprev,Option.bind_some,bool_or,Option.bind_some];by_cases c4:h.Old.length+h.New.length=0∨h.At≤e
                · have:(decide ((h.Old.length:Int)+(h.New.length:Int)=0) || decide (h.At≤e))=true:=by simp;omega
                  rw [if_pos this,if_pos c4,if_neg (by decide)]
                · have:(decide ((h.Old.length:Int)+(h.New.length:Int)=0) || decide (h.At≤e))=false:=by simp;omega
                  rw [this,if_neg (by decide),if_neg c4,rend_f h (by omega) (by omega) (by omega),Option.bind_some,Bx]
                  by_cases c5:h.At+h.Old.length > 120
                  · rw [if_pos c5,if_pos c5,if_neg (by decide)]
                  · rw [if_neg c5,if_neg c5,if_pos rfl,Ck (by omega) (by omega),Option.bind_some];rfl
              · rw [if_neg c3];simp only [c2,ne_eq,not_true,if_false,c3,not_false_iff,if_true]
            · rw [if_neg c2];simp only [c2,ne_eq,not_false_iff,if_true,if_false]
        by_cases hc:Oh h e=0
        · rw [if_pos hc] at e0 ⊢;obtain ⟨z1,z2,z3,z4,z5,z6⟩:=Qn hc;rw [B8 e0];refine ih (k+1) _ hr (Or.inr ⟨by omega,by simpa using hlt,?_⟩)
          simp only [Nat.add_sub_cancel,hh];exact ⟨trivial,z1,z6⟩
        · rw [if_neg hc] at e0 ⊢;exact B1 e0
    rw [show (0:Int)=((0:Nat):Int) from rfl,key p.Hunks 0 (-1) rfl (Or.inl ⟨rfl,rfl⟩),Option.bind_some];cases Ny ((0:Nat):Int) (-1) p.Hunks <;> rfl
theorem patch_refl {B:Int} (p:Patch) (hp:Sm B p.Hunks):Cd p p=some true:=by
  obtain ⟨hl,hs⟩:=hp;unfold Cd;rw [H0,if_pos rfl]
  have key:∀ (rest:List Hunk) (k:Nat),p.Hunks.drop k=rest→Dm (fun s=>Cd.l1 p p s) (k:Int)=some (.inr ()):=by
    intro rest
    induction rest with
    | nil =>
      intro k hk;have:=Er hk;refine B1 ?_;unfold Cd.l1;rw [Bx,if_neg (by omega)]
    | cons h r ih =>
      intro k hk;obtain ⟨hlt,hh,hr⟩:=E0 hk;obtain ⟨b1,b2,b3,b4⟩:=hs h (hh ▸ List.getElem_mem hlt)
      have e0:Cd.l1 p p (k:Int)=some (.next ((k+1:Nat):Int)):=by
        unfold Cd.l1;rw [Bx,if_pos (by omega)]
        simp only [Ci hlt,Option.bind_some,hh,Qy h.Old h.Old (by omega),Qy h.New h.New (by omega),decide_true,Bool.not_true,Bool.false_eq_true,if_false]
        rw [Ck (by omega) (by omega)];rfl
      rw [B8 e0,ih (k+1) hr]
  rw [show (0:Int)=((0:Nat):Int) from rfl,key p.Hunks 0 rfl];rfl
structure Pc where
  k:Bool
  g:Int
  o:List ByteArray
  n:List ByteArray
def sel (t u:Bool):Int→List Pc→List Hunk
  | _,[]=>[]
  | e,c::r=>if c.k=t then ⟨e+c.g,c.o,c.n⟩::sel t u (e+c.g+c.o.length) r else sel t u (e+c.g+(if u=true then (c.n.length:Int) else c.o.length)) r
theorem sel_s {t u:Bool} {c:Pc} {r:List Pc} {e:Int} (h:c.k=t):sel t u e (c::r)=⟨e+c.g,c.o,c.n⟩::sel t u (e+c.g+c.o.length) r:=by rw [sel,if_pos h]
theorem sel_o {t:Bool} {c:Pc} {r:List Pc} {e:Int} (h:¬ c.k=t):sel t false e (c::r)=sel t false (e+c.g+c.o.length) r:=by rw [sel,if_neg h,if_neg (by decide)]
theorem sel_n {t:Bool} {c:Pc} {r:List Pc} {e:Int} (h:¬ c.k=t):sel t true e (c::r)=sel t true (e+c.g+c.n.length) r:=by rw [sel,if_neg h,if_pos rfl]
def Val (m:List Pc):Prop:=∀ c∈m,1≤c.g
theorem val_nil:Val []:=fun _ hc=>by cases hc
def Srt:Int→List Hunk→Prop
  | _,[]=>True
  | e,h::r=>e < h.At∧Srt (h.At+h.Old.length) r
def NoT (a b:List Range_commute):Prop:=∀ x∈a,∀ y∈b,tch x y=false
theorem lt_of_tch {a b:Range_commute} (h:tch a b=false):a.High < b.Low∨b.High < a.Low:=by
  unfold tch at h;by_cases h1:a.High ≥ b.Low
  · by_cases h2:b.High ≥ a.Low
    · rw [decide_eq_true h1,decide_eq_true h2] at h;cases h
    · right;omega
  · left;omega
theorem pieces:∀ (N:Nat) (pl ql:List Hunk) (e s:Int),pl.length+ql.length≤N→Srt e pl→Srt (e+s) ql→NoT (newR s pl) (ql.map rng)→∃ m,Val m∧pl=sel true false e m∧ql=sel false true (e+s) m:=by
  intro N
  induction N with
  | zero =>
    intro pl ql e s hN _ _ _;have h1:pl=[]:=List.eq_nil_of_length_eq_zero (by omega)
    have h2:ql=[]:=List.eq_nil_of_length_eq_zero (by omega)
    exact ⟨[],val_nil,h1,h2⟩
  | succ N ih =>
    intro pl ql e s hN hp hq hno
    have takeP:∀ (h:Hunk) (pr:List Hunk),pl=h::pr→Srt (h.At+h.Old.length+(s+gr h)) ql→∃ m,Val m∧pl=sel true false e m∧ql=sel false true (e+s) m:=by
      intro h pr hpl hq';subst hpl;obtain ⟨m,m1,m2,m3⟩:=ih pr ql (h.At+h.Old.length) (s+gr h) (by simp at hN;omega) hp.2 hq' (fun x hx y hy=>hno x (by rw [newR];exact List.mem_cons_of_mem _ hx) y hy)
      refine ⟨⟨true,h.At - e,h.Old,h.New⟩::m,?_,?_,?_⟩
      · intro c hc;rcases List.mem_cons.1 hc with rfl | hc
        · have:=hp.1;simp only;omega
        · exact m1 c hc
      · rw [sel_s (c:=⟨true,h.At - e,h.Old,h.New⟩) rfl];simp only;rw [show e+(h.At - e)=h.At by omega,← m2]
      · rw [sel_n (by simp)]
        simp only;rw [show e+s+(h.At - e)+(h.New.length:Int)=h.At+h.Old.length+(s+gr h) by unfold gr;omega]
        exact m3
    have takeQ:∀ (h:Hunk) (qr:List Hunk),ql=h::qr→Srt (h.At+h.Old.length - s) pl→∃ m,Val m∧pl=sel true false e m∧ql=sel false true (e+s) m:=by
      intro h qr hql hp';subst hql;have hq2:=hq.2;rw [show h.At+(h.Old.length:Int)=h.At+h.Old.length - s+s by omega] at hq2
      obtain ⟨m,m1,m2,m3⟩:=ih pl qr (h.At+h.Old.length - s) s (by simp at hN;omega) hp' hq2 (fun x hx y hy=>hno x hx y (by rw [List.map_cons];exact List.mem_cons_of_mem _ hy))
      refine ⟨⟨false,h.At - s - e,h.Old,h.New⟩::m,?_,?_,?_⟩
      · intro c hc;rcases List.mem_cons.1 hc with rfl | hc
        · have:=hq.1;simp only;omega
        · exact m1 c hc
      · rw [sel_o (by simp)]
        simp only;rw [show e+(h.At - s - e)+(h.Old.length:Int)=h.At+h.Old.length - s by omega]
        exact m2
      · rw [sel_s (c:=⟨false,h.At - s - e,h.Old,h.New⟩) rfl];simp only;rw [show e+s+(h.At - s - e)=h.At by omega,show h.At+(h.Old.length:Int)=h.At+h.Old.length - s+s by omega,← m3]
    match hpl:pl,hql:ql with
    | [],[]=>exact ⟨[],val_nil,rfl,rfl⟩
    | h::pr,[]=>exact takeP h pr rfl trivial
    | [],h::qr=>exact takeQ h qr rfl trivial
    | h::pr,y::qr =>
      have ht:=hno ⟨h.At+s,h.At+s+h.New.length,gr h⟩ (by rw [newR];simp) (rng y) (by simp)
      rcases lt_of_tch ht with h1 | h1
      · refine takeP h pr rfl ⟨?_,hq.2⟩;have h1':h.At+s+h.New.length < y.At:=h1;unfold gr;omega
      · refine takeQ y qr rfl ⟨?_,hp.2⟩;have h1':y.At+y.Old.length < h.At+s:=h1;omega
def chF (c:TreeChange):Int :=
  if c.Kind < 1∨c.Kind > 4 then 4
  else if D0 c.Path=false∨(c.Kind=3∧D0 c.To=false) then 12
  else if (c.Kind≠3∧c.To≠⟨#[]⟩)∨(c.Kind=3∧Lx c.Path c.To=true)∨(c.Lines≠[]∧(c.Kind=4∨c.Kind=3))∨(c.Kind=4∧c.Patch.Hunks=[])∨(c.Kind≠4∧c.Patch.Hunks≠[]) then 5
  else if (B6 c.Lines).Code≠0 then (B6 c.Lines).Code else (C3 c.Patch).Code
theorem len_pos_dec {α:Type} (l:List α):decide ((l.length:Int) > 0)=decide (l≠[]):=decide_eq_decide.2 (by cases l <;> simp <;> omega)
theorem len_zero_dec {α:Type} (l:List α):decide ((l.length:Int)=0)=decide (l=[]):=decide_eq_decide.2 (by cases l <;> simp <;> omega)
theorem rel_ok {c:TreeChange} (h:¬ (D0 c.Path=false∨(c.Kind=3∧D0 c.To=false))) (h3:c.Kind=3):c.Path.size≤1000000∧c.To.size≤1000000:=by
  have h1:D0 c.Path=true:=by cases hh:D0 c.Path with | true=>rfl | false=>exact absurd (Or.inl hh) h
  have h2:D0 c.To=true:=by cases hh:D0 c.To with | true=>rfl | false=>exact absurd (Or.inr ⟨h3,hh⟩) h
  have:=H1 h1;have:=H1 h2;omega
theorem check_f (c:TreeChange):Kk c=some (chF c):=by
  unfold Kk chF;simp only [Og,orB,andB,Option.bind_some,len_pos_dec];by_cases h1:c.Kind < 1∨c.Kind > 4
  · rw [if_pos h1,if_pos (by simpa using h1)]
  · rw [if_neg h1,if_neg (by simpa using h1)]
    have e2:(!D0 c.Path || if decide (c.Kind=3)=true then !D0 c.To else false)=decide (D0 c.Path=false∨(c.Kind=3∧D0 c.To=false)):=by
      by_cases h3:c.Kind=3 <;> cases D0 c.Path <;> cases D0 c.To <;> simp [h3]
    have e2':(if !D0 c.Path=true then some true else (if decide (c.Kind=3)=true then some (!D0 c.To) else some false).bind fun x3=>some x3)=some (decide (D0 c.Path=false∨(c.Kind=3∧D0 c.To=false))):=by
      rw [← e2];by_cases h3:c.Kind=3 <;> cases D0 c.Path <;> cases D0 c.To <;> simp [h3]
    by_cases h2:D0 c.Path=false∨(c.Kind=3∧D0 c.To=false)
    · rw [if_pos h2];rw [decide_eq_true h2] at e2';simp only [Option.bind_some,andB,orB] at e2' ⊢;rw [show (!D0 c.Path || (decide (c.Kind=3) && !D0 c.To))=true from by simpa using e2']
      rfl
    · rw [if_neg h2];rw [decide_eq_false h2] at e2';simp only [Option.bind_some,andB,orB] at e2' ⊢;rw [show (!D0 c.Path || (decide (c.Kind=3) && !D0 c.To))=false from by simpa using e2']
      rw [if_neg (by decide)]
      have e3:(if decide (c.Kind=3)=true then (Ge c.Path c.To).bind fun y3=>some y3 else some false)=some (decide (c.Kind=3) && Lx c.Path c.To):=by
        by_cases h3:c.Kind=3
        · obtain ⟨a,b⟩:=rel_ok h2 h3;rw [Related_f a b,decide_eq_true h3];rfl
        · rw [decide_eq_false h3];rfl
      rw [e3];simp only [Option.bind_some,orB];by_cases h5:(c.Kind≠3∧c.To≠⟨#[]⟩)∨(c.Kind=3∧Lx c.Path c.To=true)∨(c.Lines≠[]∧(c.Kind=4∨c.Kind=3))∨(c.Kind=4∧c.Patch.Hunks=[])∨(c.Kind≠4∧c.Patch.Hunks≠[])
      · rw [if_pos h5];by_cases g1:((!decide (c.Kind=3) && !decide (c.To=⟨#[]⟩)) || (decide (c.Kind=3) && Lx c.Path c.To))=true
        · rw [if_pos g1]
        · rw [if_neg g1];by_cases g2:(decide (c.Lines≠[]) && (decide (c.Kind=4) || decide (c.Kind=3)))=true
          · rw [if_pos g2]
          · rw [if_neg g2,if_pos];simp only [Bool.or_eq_true,Bool.and_eq_true,Bool.not_eq_true',decide_eq_true_eq,decide_eq_false_iff_not,ne_eq] at g1 g2 h5 ⊢;by_cases k4:c.Kind=4 <;> by_cases kh:c.Patch.Hunks=[] <;> simp [k4,kh] at h5 g1 g2 ⊢
            all_goals first
              | omega
              | (rcases h5 with ⟨a,b⟩ | ⟨a,b⟩ | ⟨a,b⟩ <;> simp_all)
              | simp_all
      · rw [if_neg h5]
        rw [if_neg (by
          simp only [Bool.or_eq_true,Bool.and_eq_true,Bool.not_eq_true',decide_eq_true_eq,decide_eq_false_iff_not,ne_eq];intro h;rcases h with h | h
          · exact h5 (Or.inl h)
          · exact h5 (Or.inr (Or.inl h)))]
        rw [if_neg (by
          simp only [Bool.or_eq_true,Bool.and_eq_true,decide_eq_true_eq];intro h;exact h5 (Or.inr (Or.inr (Or.inl h))))]
        rw [if_neg (by
          simp only [Bool.not_eq_true',decide_eq_false_iff_not];intro h;by_cases k4:c.Kind=4 <;> by_cases kh:c.Patch.Hunks=[] <;> simp [k4,kh] at h5 h)]
        rw [Mw,Option.bind_some,fless (Kj c.Lines),Bx,Oi];split <;> rfl
theorem ChangeCode_f (c:TreeChange):Ep c=some (chF c):=by
  unfold Ep chF;simp only [PathValid_f,RRelated_f,orB,andB,Option.bind_some,len_pos_dec,len_zero_dec];by_cases h1:c.Kind < 1∨c.Kind > 4
  · rw [if_pos h1,if_pos (by simp;omega)]
  · rw [if_neg h1,if_neg (by simp;omega)]
    have e2:(!D0 c.Path || (decide (c.Kind=3) && !D0 c.To))=decide (D0 c.Path=false∨(c.Kind=3∧D0 c.To=false)):=by
      by_cases h3:c.Kind=3 <;> cases D0 c.Path <;> cases D0 c.To <;> simp [h3]
    rw [e2,Bx];by_cases h2:D0 c.Path=false∨(c.Kind=3∧D0 c.To=false)
    · rw [if_pos h2,if_pos h2]
    · rw [if_neg h2,if_neg h2]
      have e5:(!decide (c.Kind=3) && !decide (c.To=⟨#[]⟩) || decide (c.Kind=3) && Lx c.Path c.To || !decide (c.Kind=1) && !decide (c.Kind=2) && decide (c.Lines≠[]) || decide (c.Kind=4) && decide (c.Patch.Hunks=[]) || !decide (c.Kind=4) && decide (c.Patch.Hunks≠[])) =
          decide ((c.Kind≠3∧c.To≠⟨#[]⟩)∨(c.Kind=3∧Lx c.Path c.To=true)∨(c.Lines≠[]∧(c.Kind=4∨c.Kind=3))∨(c.Kind=4∧c.Patch.Hunks=[])∨(c.Kind≠4∧c.Patch.Hunks≠[])):=by
        have hk:c.Kind=1∨c.Kind=2∨c.Kind=3∨c.Kind=4:=by omega
        rcases hk with k | k | k | k <;> rw [k] <;> by_cases t1:c.To=⟨#[]⟩ <;> by_cases t2:c.Lines=[] <;> by_cases t3:c.Patch.Hunks=[] <;> cases Lx c.Path c.To <;> simp [t1,t2,t3]
      rw [e5,Bx];split
      · rfl
      · rw [linesCode_f,Option.bind_some,Ot,H0];by_cases h:(B6 c.Lines).Code=0
        · rw [if_pos h,if_neg (by simpa using h)];rfl
        · rw [if_neg h,if_pos h]
structure OkCh (c:TreeChange):Prop where
  kind:1≤c.Kind∧c.Kind≤4
  path:D0 c.Path=true
  to:c.Kind=3→D0 c.To=true∧Lx c.Path c.To=false
  noTo:c.Kind≠3→c.To=⟨#[]⟩
  noLines:c.Kind=4∨c.Kind=3→c.Lines=[]
  hunks:c.Kind=4→c.Patch.Hunks≠[]
  noHunks:c.Kind≠4→c.Patch.Hunks=[]
  lines:(B6 c.Lines).Code=0
  patch:(C3 c.Patch).Code=0
theorem chF_ok {c:TreeChange}:chF c=0↔OkCh c:=by
  unfold chF;constructor
  · intro h;split at h
    · cases h
    · rename_i h1
      split at h
      · cases h
      · rename_i h2
        split at h
        · cases h
        · rename_i h3
          split at h
          · rename_i h4;exact absurd h h4
          · rename_i h4
            refine ⟨by omega,?_,fun k=>⟨?_,?_⟩,fun k=>?_,fun k=>?_,fun k e=>?_,fun k=>?_,by omega,h⟩
            · cases hh:D0 c.Path with | true=>rfl | false=>exact absurd (Or.inl hh) h2
            · cases hh:D0 c.To with | true=>rfl | false=>exact absurd (Or.inr ⟨k,hh⟩) h2
            · cases hh:Lx c.Path c.To with | false=>rfl | true=>exact absurd (Or.inr (Or.inl ⟨k,hh⟩)) h3
            · exact Decidable.by_contra fun e=>h3 (Or.inl ⟨k,e⟩)
            · exact Decidable.by_contra fun e=>h3 (Or.inr (Or.inr (Or.inl ⟨e,k⟩)))
            · exact h3 (Or.inr (Or.inr (Or.inr (Or.inl ⟨k,e⟩))))
            · exact Decidable.by_contra fun e=>h3 (Or.inr (Or.inr (Or.inr (Or.inr ⟨k,e⟩))))
  · rintro ⟨a1,a2,a3,a4,a5,a6,a7,a8,a9⟩;rw [if_neg (by omega),if_neg,if_neg,if_neg (by omega),a9]
    · rintro (⟨h,e⟩ | ⟨h,e⟩ | ⟨e,h⟩ | ⟨h,e⟩ | ⟨h,e⟩)
      · exact e (a4 h)
      · rw [(a3 h).2] at e;cases e
      · exact e (a5 h)
      · exact a6 h e
      · exact e (a7 h)
    · rintro (h | ⟨h,e⟩)
      · rw [a2] at h;cases h
      · rw [(a3 h).1] at e;cases e
def pathsF (c:TreeChange):List ByteArray:=if c.Kind=3 then [c.Path,c.To] else [c.Path]
theorem OkCh.size {c:TreeChange} (h:OkCh c):∀ p∈pathsF c,p.size≤60:=by
  intro p hp;unfold pathsF at hp;split at hp
  · rename_i k
    simp only [List.mem_cons,List.not_mem_nil,or_false] at hp;rcases hp with rfl | rfl
    · exact H1 h.path
    · exact H1 (h.to k).1
  · simp only [List.mem_singleton] at hp;subst hp;exact H1 h.path
def edF (path:ByteArray) (p:Patch):TreeChange:=⟨4,path,ByteArray.empty,[],p⟩
theorem OkCh.sm {c:TreeChange} (h:OkCh c):Sm 120 c.Patch.Hunks:=sm_of h.patch
theorem OkCh.len {c:TreeChange} (h:OkCh c):c.Lines.length≤120:=Ew h.lines
theorem copyChange_f {c:TreeChange} {B:Int} (h1:c.Lines.length≤1000000) (h2:Sm B c.Patch.Hunks):G1 c=some c:=by
  unfold G1;rw [Qs _ h1,Option.bind_some,copy_f c.Patch h2,Option.bind_some]
theorem change_refl {c:TreeChange} {B:Int} (h1:c.Lines.length≤1000000) (h2:Sm B c.Patch.Hunks):En c c=some true:=by
  unfold En;rw [Qy _ _ h1,patch_refl _ h2];simp
theorem refl_ok {c:TreeChange} (h:OkCh c):En c c=some true:=change_refl (by have:=h.len;omega) h.sm
theorem okCh_ed {path:ByteArray} {p:Patch} (h1:D0 path=true) (h2:p.Hunks≠[]) (h3:(C3 p).Code=0):OkCh (edF path p) :=
  ⟨⟨(by show (1:Int)≤4;decide),(by show (4:Int)≤4;decide)⟩,h1,(fun h=>by cases h),fun _=>rfl,fun _=>rfl,fun _=>h2,fun h=>absurd rfl h,(by show (B6 []).Code=0;rfl),h3⟩
def Lines (t:List ByteArray):Prop:=∀ s∈t,OkLine s
theorem lines_of {t:List ByteArray} (h:(B6 t).Code=0):Lines t:=((Ha t).2 ((D8 t).2 h)).2
theorem textFault_of {t:List ByteArray} (h1:Lines t) (h2:t.length≤120):(B6 t).Code=0:=(D8 t).1 ((Ha t).1 ⟨h2,h1⟩)
theorem rawS_lines:∀ (hs:List Hunk) (t:List ByteArray) (b:Nat),Lines t→(∀ h∈hs,Lines h.New)→Lines (rawS hs t b)
  | [],t,b,ht,_=>fun s hs=>ht s (List.mem_of_mem_drop hs)
  | h::r,t,b,ht,hn=>by
    intro s hs;rw [rawS] at hs;rcases List.mem_append.1 hs with hs | hs
    · exact ht s (List.mem_of_mem_drop (List.mem_of_mem_take hs))
    · rcases List.mem_append.1 hs with hs | hs
      · exact hn h (by simp) s hs
      · exact rawS_lines r t _ ht (fun x hx=>hn x (List.mem_cons_of_mem _ hx)) s hs
theorem applyF_of {p:Patch} (hp:(C3 p).Code=0) {t:List ByteArray} (h1:Lines t) (h2:t.length≤120) (hf:Fits t p.Hunks):Kw p t=if (rawS p.Hunks t 0).length > 120 then ([],⟨10,-1⟩) else (rawS p.Hunks t 0,⟨0,0⟩):=by
  unfold Kw;rw [if_neg (by omega),if_neg (by rw [textFault_of h1 h2];simp),(Qq t p.Hunks 0).2 hf]
theorem both_f (a b:List ByteArray):K8 a b=some (if (B6 a).Code≠0 then B6 a else if (B6 b).Code=0 then ⟨0,0⟩ else ⟨(B6 b).Code,-2⟩):=by
  unfold K8;rw [Mw,Option.bind_some];rcases Kj a with h | h
  · rw [h,second_f];rfl
  · rw [if_pos (Lg.2 fun h2=>h h2.1),if_pos h]
abbrev Cst:=List Hunk×Int×Bool
def Mc (hs:List Hunk) (f:Hunk→Hunk):List Hunk:=match hs.getLast? with
  | some h=>hs.dropLast++[f h]
  | Option.none=>hs
def Hs (s:Cst):Cst:=(s.1,s.2.1+1,false)
def E6 (s:Cst):List Hunk:=if s.2.2 then s.1 else s.1++[⟨s.2.1,[],[]⟩]
def Ke (x:ByteArray) (s:Cst):Cst:=(Mc (E6 s) fun h=>{ h with Old:=h.Old++[x] },s.2.1+1,true)
def Kn (y:ByteArray) (s:Cst):Cst:=(Mc (E6 s) fun h=>{ h with New:=h.New++[y] },s.2.1,true)
def scr:List ByteArray→List ByteArray→Cst→Cst
  | [],[],s=>s
  | [],y::b,s=>scr [] b (Kn y s)
  | x::a,[],s=>scr a [] (Ke x s)
  | x::a,y::b,s=>if x=y then scr a b (Hs s) else if lcs a (y::b) ≥ lcs (x::a) b then scr a (y::b) (Ke x s) else scr (x::a) b (Kn y s)
 termination_by a b=>a.length+b.length
theorem Ob {hs:List Hunk} {h:Hunk} (hl:hs.getLast? = some h) (f:Hunk→Hunk):∃ hlt:hs.length - 1 < hs.length,hs[hs.length - 1]=h∧hs.set (hs.length - 1) (f h)=Mc hs f:=by
  have hne:hs≠[]:=by intro e;subst e;cases hl
  have hlt:hs.length - 1 < hs.length:=by have:=List.length_pos_iff.2 hne;omega
  have hgl:hs[hs.length - 1]=h:=by
    rw [List.getLast?_eq_some_getLast hne] at hl;simp only [Option.some.injEq] at hl;rw [← hl,List.getLast_eq_getElem]
  refine ⟨hlt,hgl,?_⟩;unfold Mc;rw [hl];simp only;rw [List.set_eq_take_append_cons_drop,if_pos hlt,List.dropLast_eq_take];have:hs.drop (hs.length - 1+1)=[]:=List.drop_eq_nil_of_le (by omega)
  rw [this]
theorem Ql (s:Cst) (h:s.2.2=true→s.1≠[]):∃ q,(E6 s).getLast? = some q:=by
  unfold E6;cases hb:s.2.2 with
  | true=>rw [if_pos rfl];exact ⟨_,List.getLast?_eq_some_getLast (h hb)⟩
  | false=>rw [if_neg (by decide)];exact ⟨⟨s.2.1,[],[]⟩,by simp⟩
theorem setLast_len (hs:List Hunk) (f:Hunk→Hunk):(Mc hs f).length=hs.length:=by
  unfold Mc;cases h:hs.getLast? with
  | none=>rfl
  | some q =>
    have hne:hs≠[]:=by intro e;subst e;cases h
    have:=List.length_pos_iff.2 hne
    simp;omega
theorem setLast_ne {hs:List Hunk} {f:Hunk→Hunk} (h:hs≠[]):Mc hs f≠[]:=by
  intro e;have:=setLast_len hs f;rw [e] at this;exact h (List.eq_nil_of_length_eq_zero this.symm)
theorem cOpen_ne (s:Cst) (h:s.2.2=true→s.1≠[]):E6 s≠[]:=by
  obtain ⟨q,hq⟩:=Ql s h;intro e;rw [e] at hq;cases hq
structure CInv (s:Cst) (k:Nat):Prop where
  open_:s.2.2=true→s.1≠[]
  len:s.1.length≤k
  at0:0≤s.2.1
  at1:s.2.1≤k
  each:∀ h∈s.1,h.Old.length≤k∧h.New.length≤k
theorem mem_setLast {hs:List Hunk} {f:Hunk→Hunk} {h:Hunk} (hm:h∈Mc hs f):h∈hs∨∃ q∈hs,h=f q:=by
  unfold Mc at hm;cases hl:hs.getLast? with
  | none=>rw [hl] at hm;exact .inl hm
  | some q =>
    rw [hl] at hm;simp only [List.mem_append,List.mem_singleton] at hm;rcases hm with hm | hm
    · exact .inl ((List.dropLast_sublist hs).subset hm)
    · exact .inr ⟨q,List.mem_of_getLast? hl,hm⟩
theorem Mp {s:Cst} {h:Hunk} (hm:h∈E6 s):h∈s.1∨(h.Old=[]∧h.New=[]):=by
  unfold E6 at hm;split at hm
  · exact .inl hm
  · rcases List.mem_append.1 hm with hm | hm
    · exact .inl hm
    · simp at hm;subst hm;exact .inr ⟨rfl,rfl⟩
theorem O2 (s:Cst):(E6 s).length≤s.1.length+1:=by unfold E6;split <;> simp
theorem CInv.keep {s:Cst} {k:Nat} (h:CInv s k):CInv (Hs s) (k+1):=⟨fun e=>by simp [Hs] at e,by have:=h.len;simp only [Hs];omega,by have:=h.at0;simp only [Hs];omega,by have:=h.at1;simp only [Hs];omega,fun q hq=>by have:=h.each q hq;omega⟩
theorem CInv.del {s:Cst} {k:Nat} (h:CInv s k) (x:ByteArray):CInv (Ke x s) (k+1):=by
  refine ⟨fun _=>setLast_ne (cOpen_ne s h.open_),?_,by have:=h.at0;simp only [Ke];omega,by have:=h.at1;simp only [Ke];omega,fun q hq=>?_⟩
  · have:=h.len;have:=O2 s;simp only [Ke,setLast_len];omega
  · simp only [Ke] at hq;rcases mem_setLast hq with hq | ⟨p,hp,rfl⟩
    · rcases Mp hq with hq | ⟨h1,h2⟩
      · have:=h.each q hq;omega
      · simp [h1,h2]
    · rcases Mp hp with hq | ⟨h1,h2⟩
      · have:=h.each p hq;simp;omega
      · simp [h1,h2]
theorem CInv.ins {s:Cst} {k:Nat} (h:CInv s k) (x:ByteArray):CInv (Kn x s) (k+1):=by
  refine ⟨fun _=>setLast_ne (cOpen_ne s h.open_),?_,h.at0,by have:=h.at1;simp only [Kn];omega,fun q hq=>?_⟩
  · have:=h.len;have:=O2 s;simp only [Kn,setLast_len];omega
  · simp only [Kn] at hq;rcases mem_setLast hq with hq | ⟨p,hp,rfl⟩
    · rcases Mp hq with hq | ⟨h1,h2⟩
      · have:=h.each q hq;omega
      · simp [h1,h2]
    · rcases Mp hp with hq | ⟨h1,h2⟩
      · have:=h.each p hq;simp;omega
      · simp [h1,h2]
theorem coll_keep {s:Cst} {k:Nat} (h:CInv s k) (hk:k≤1000000):Gy ⟨s.1,s.2.1,s.2.2⟩ 1=some ⟨(Hs s).1,(Hs s).2.1,(Hs s).2.2⟩:=by
  have hat0:=h.at0;have hat1:=h.at1;unfold Gy;rw [if_pos (by decide),Ck (x:=s.2.1+1) (by omega) (by omega),Option.bind_some];rfl
theorem coll_del {s:Cst} {k:Nat} (h:CInv s k) (hk:k≤1000000) (x:ByteArray):Di ⟨s.1,s.2.1,s.2.2⟩ x=some ⟨(Ke x s).1,(Ke x s).2.1,(Ke x s).2.2⟩:=by
  obtain ⟨q,hq⟩:=Ql s h.open_;have hlen:=h.len;have hat0:=h.at0;have hat1:=h.at1
  have j4e:Di.j1 ⟨s.1,s.2.1,s.2.2⟩ x (E6 s) true=some ⟨(Ke x s).1,(Ke x s).2.1,(Ke x s).2.2⟩:=by
    obtain ⟨h1,h2,h3⟩:=Ob hq fun h=>{ h with Old:=h.Old++[x] };have hol:=O2 s
    have hqm:q.Old.length≤k:=by
      rcases Mp (List.mem_of_getLast? hq) with hq | ⟨h1,_⟩
      · exact (h.each q hq).1
      · simp [h1]
    unfold Di.j1;have ez:((E6 s).length:Int) - 1=(((E6 s).length - 1:Nat):Int):=by omega
    rw [Ck (by omega) (by omega),Option.bind_some,ez,Ci h1,Option.bind_some,h2,G0 (by simp only [List.length_singleton];omega),Option.bind_some,Ck (by show -9223372036854775808≤s.2.1+1;omega) (by show s.2.1+1≤9223372036854775807;omega),Option.bind_some,Option.bind_some]
    rw [Int.toNat_natCast];have:(E6 s).set ((E6 s).length - 1) ({ At:=q.At,Old:=q.Old++[x],New:=q.New }:Hunk)=(Ke x s).1:=h3;rw [this];rfl
  unfold Di;simp only;cases hb:s.2.2 with
  | true =>
    have:E6 s=s.1:=by unfold E6;rw [hb,if_pos rfl]
    rw [hb,this] at j4e;rw [if_neg (by decide)];exact j4e
  | false =>
    have:E6 s=s.1++[⟨s.2.1,[],[]⟩]:=by unfold E6;rw [hb,if_neg (by decide)]
    rw [hb] at j4e;rw [if_pos (by decide),G0 (by simp only [List.length_singleton];omega),Option.bind_some,← this];exact j4e
theorem coll_ins {s:Cst} {k:Nat} (h:CInv s k) (hk:k≤1000000) (x:ByteArray):Dg ⟨s.1,s.2.1,s.2.2⟩ x=some ⟨(Kn x s).1,(Kn x s).2.1,(Kn x s).2.2⟩:=by
  obtain ⟨q,hq⟩:=Ql s h.open_;have hlen:=h.len;have hat0:=h.at0;have hat1:=h.at1
  have j4e:Dg.j1 ⟨s.1,s.2.1,s.2.2⟩ x (E6 s) true=some ⟨(Kn x s).1,(Kn x s).2.1,(Kn x s).2.2⟩:=by
    obtain ⟨h1,h2,h3⟩:=Ob hq fun h=>{ h with New:=h.New++[x] };have hol:=O2 s
    have hqm:q.New.length≤k:=by
      rcases Mp (List.mem_of_getLast? hq) with hq | ⟨_,h1⟩
      · exact (h.each q hq).2
      · simp [h1]
    unfold Dg.j1;have ez:((E6 s).length:Int) - 1=(((E6 s).length - 1:Nat):Int):=by omega
    rw [Ck (by omega) (by omega),Option.bind_some,ez,Ci h1,Option.bind_some,h2,G0 (by simp only [List.length_singleton];omega),Option.bind_some,Option.bind_some]
    rw [Int.toNat_natCast];have:(E6 s).set ((E6 s).length - 1) ({ At:=q.At,Old:=q.Old,New:=q.New++[x] }:Hunk)=(Kn x s).1:=h3;rw [this];rfl
  unfold Dg;simp only;cases hb:s.2.2 with
  | true =>
    have:E6 s=s.1:=by unfold E6;rw [hb,if_pos rfl]
    rw [hb,this] at j4e;rw [if_neg (by decide)];exact j4e
  | false =>
    have:E6 s=s.1++[⟨s.2.1,[],[]⟩]:=by unfold E6;rw [hb,if_neg (by decide)]
    rw [hb] at j4e;rw [if_pos (by decide),G0 (by simp only [List.length_singleton];omega),Option.bind_some,← this];exact j4e
section
variable {a b : List ByteArray}
theorem scr_loop (hab:a.length+b.length≤1000):∀ (n i j k:Nat) (s:Cst),i≤a.length→j≤b.length→(a.length - i)+(b.length - j)=n→k≤i+j→(Es a b).drop k=Es (a.drop i) (b.drop j)→CInv s (i+j) →
    Dm (fun s=>C4.l1 a b (Es a b) s.1 s.2.1 s.2.2.1 s.2.2.2.1 s.2.2.2.2.1 s.2.2.2.2.2) ((k:Int),(j:Int),(i:Int),s.1,s.2.1,s.2.2)=some (scr (a.drop i) (b.drop j) s):=by
  intro n
  induction n using Nat.strongRecOn with
  | _ n ih =>
  intro i j k s hi hj hn hk hal hs
  have j2e:∀ (p q:Int) (t:Cst),C4.j2 (k:Int) q p t.1 t.2.1 t.2.2=some (.next (((k+1:Nat):Int),q,p,t.1,t.2.1,t.2.2)):=by
    intro p q t;unfold C4.j2;rw [Ck (by omega) (by omega),Option.bind_some];rfl
  have ed:∀ (x:ByteArray) (r:List Int),(Es a b).drop k=1::r→(hx:∃ h:i < a.length,a[i]=x) →
      C4.l1 a b (Es a b) (k:Int) (j:Int) (i:Int) s.1 s.2.1 s.2.2=some (.next (((k+1:Nat):Int),(j:Int),((i+1:Nat):Int),(Ke x s).1,(Ke x s).2.1,(Ke x s).2.2))∧(Es a b).drop (k+1)=r:=by
    intro x r hr ⟨hx,hxe⟩;obtain ⟨hlt,hk1,hr1⟩:=E0 hr;refine ⟨?_,hr1⟩;unfold C4.l1;rw [Bx,if_pos (by omega),Ci hlt,Option.bind_some,hk1,Bx,if_neg (by decide),Bx,if_pos rfl,Ci hx,Option.bind_some,hxe,coll_del hs (by omega) x,Option.bind_some,Ck (by omega) (by omega),Option.bind_some,j2e]
    rfl
  have ei:∀ (x:ByteArray) (r:List Int),(Es a b).drop k=2::r→(hx:∃ h:j < b.length,b[j]=x) →
      C4.l1 a b (Es a b) (k:Int) (j:Int) (i:Int) s.1 s.2.1 s.2.2=some (.next (((k+1:Nat):Int),((j+1:Nat):Int),(i:Int),(Kn x s).1,(Kn x s).2.1,(Kn x s).2.2))∧(Es a b).drop (k+1)=r:=by
    intro x r hr ⟨hx,hxe⟩;obtain ⟨hlt,hk1,hr1⟩:=E0 hr;refine ⟨?_,hr1⟩;unfold C4.l1;rw [Bx,if_pos (by omega),Ci hlt,Option.bind_some,hk1,Bx,if_neg (by decide),Bx,if_neg (by decide),Ci hx,Option.bind_some,hxe,coll_ins hs (by omega) x,Option.bind_some,Ck (by omega) (by omega),Option.bind_some,j2e]
    rfl
  have ek:∀ (r:List Int),(Es a b).drop k=0::r →
      C4.l1 a b (Es a b) (k:Int) (j:Int) (i:Int) s.1 s.2.1 s.2.2=some (.next (((k+1:Nat):Int),((j+1:Nat):Int),((i+1:Nat):Int),(Hs s).1,(Hs s).2.1,(Hs s).2.2))∧(Es a b).drop (k+1)=r:=by
    intro r hr;obtain ⟨hlt,hk1,hr1⟩:=E0 hr;refine ⟨?_,hr1⟩;have h0:=hs.at0;have h1:=hs.at1;unfold C4.l1;rw [Bx,if_pos (by omega),Ci hlt,Option.bind_some,hk1,Bx,if_pos rfl,coll_keep hs (by omega),Option.bind_some,Ck (by omega) (by omega),Option.bind_some,Ck (by omega) (by omega),Option.bind_some]
    exact j2e _ _ (Hs s)
  by_cases hia:i < a.length
  · have hda:=Gl hia;by_cases hjb:j < b.length
    · have hdb:=Gl hjb;have hal':=hal;rw [hda,hdb,Es,← hda,← hdb] at hal'
      have hsc:scr (a.drop i) (b.drop j) s=if a[i]=b[j] then scr (a.drop (i+1)) (b.drop (j+1)) (Hs s) else if lcs (a.drop (i+1)) (b.drop j) ≥ lcs (a.drop i) (b.drop (j+1)) then scr (a.drop (i+1)) (b.drop j) (Ke a[i] s) else scr (a.drop i) (b.drop (j+1)) (Kn b[j] s):=by
        conv=>lhs;rw [hda,hdb,scr]
        rw [← hda,← hdb]
      rw [hsc];by_cases heq:a[i]=b[j]
      · rw [if_pos heq] at hal' ⊢;obtain ⟨e1,e2⟩:=ek _ hal';rw [B8 e1];exact ih _ (by omega) (i+1) (j+1) (k+1) (Hs s) (by omega) (by omega) rfl (by omega) e2 ⟨hs.keep.open_,by have:=hs.keep.len;omega,hs.keep.at0,by have:=hs.keep.at1;omega,fun q hq=>by have:=hs.keep.each q hq;omega⟩
      · rw [if_neg heq] at hal' ⊢;by_cases hge:lcs (a.drop (i+1)) (b.drop j) ≥ lcs (a.drop i) (b.drop (j+1))
        · rw [if_pos hge] at hal' ⊢;obtain ⟨e1,e2⟩:=ed _ _ hal' ⟨hia,rfl⟩;rw [B8 e1];exact ih _ (by omega) (i+1) j (k+1) (Ke a[i] s) (by omega) (by omega) rfl (by omega) e2 (by have:=hs.del a[i];rwa [show i+j+1=i+1+j by omega] at this)
        · rw [if_neg hge] at hal' ⊢;obtain ⟨e1,e2⟩:=ei _ _ hal' ⟨hjb,rfl⟩;rw [B8 e1];exact ih _ (by omega) i (j+1) (k+1) (Kn b[j] s) (by omega) (by omega) rfl (by omega) e2 (hs.ins b[j])
    · have hj':j=b.length:=by omega
      subst hj';have hal':=hal;rw [hda,List.drop_length,Es] at hal';obtain ⟨e1,e2⟩:=ed _ _ hal' ⟨hia,rfl⟩
      have hsc:scr (a.drop i) (b.drop b.length) s=scr (a.drop (i+1)) (b.drop b.length) (Ke a[i] s):=by
        rw [hda,List.drop_length,scr]
      rw [B8 e1,hsc];exact ih _ (by omega) (i+1) b.length (k+1) (Ke a[i] s) (by omega) (by omega) rfl (by omega) (by rw [e2,List.drop_length]) (by have:=hs.del a[i];rwa [show i+b.length+1=i+1+b.length by omega] at this)
  · have hi':i=a.length:=by omega
    subst hi';by_cases hjb:j < b.length
    · have hdb:=Gl hjb;have hal':=hal;rw [hdb,List.drop_length,Es] at hal';obtain ⟨e1,e2⟩:=ei _ _ hal' ⟨hjb,rfl⟩
      have hsc:scr (a.drop a.length) (b.drop j) s=scr (a.drop a.length) (b.drop (j+1)) (Kn b[j] s):=by
        rw [hdb,List.drop_length,scr]
      rw [B8 e1,hsc];exact ih _ (by omega) a.length (j+1) (k+1) (Kn b[j] s) (by omega) (by omega) rfl (by omega) (by rw [e2,List.drop_length]) (hs.ins b[j])
    · have hj':j=b.length:=by omega
      subst hj';rw [List.drop_length,List.drop_length,Es] at hal;have:=Er hal;rw [List.drop_length,List.drop_length,scr];refine B1 ?_;unfold C4.l1;rw [Bx,if_neg (by omega)]
end
def Lh (a b:List ByteArray):List Hunk:=(scr a b ([],0,false)).1
theorem script_f (a b:List ByteArray):C4 a b=some (if (B6 a).Code≠0 then (⟨[]⟩,B6 a) else if (B6 b).Code≠0 then (⟨[]⟩,⟨(B6 b).Code,-2⟩) else (⟨Lh a b⟩,⟨0,0⟩)):=by
  unfold C4;rw [both_f,Option.bind_some];by_cases ha:(B6 a).Code=0
  · by_cases hb:(B6 b).Code=0
    · simp only [ha,hb,ne_eq,not_true,if_false,if_true];have oa:=(Ha a).2 ((D8 a).2 ha);have ob:=(Ha b).2 ((D8 b).2 hb);have h1:=oa.1;have h2:=ob.1;rw [if_neg (by simp),align_eq (okText_small oa ob),Option.bind_some]
      have:=scr_loop (a:=a) (b:=b) (by omega) _ 0 0 0 ([],0,false) (Nat.zero_le _) (Nat.zero_le _) rfl (Nat.zero_le _) (by simp) ⟨fun h=>(by cases h),by simp,by simp,by simp,fun q hq=>(by cases hq)⟩
      simp only [List.drop_zero] at this;rw [show (0:Int)=((0:Nat):Int) from rfl,show ((([]:List Hunk),((0:Nat):Int),false):Cst)=([],0,false) from rfl,this,Option.bind_some];rfl
    · simp only [ha,hb,ne_eq,not_true,not_false_iff,if_false,if_true];rw [if_pos (by simp)]
  · simp only [ha,ne_eq,not_false_iff,if_true];rw [if_pos (by simp)]
def endS:List Hunk→Nat→Nat
  | [],low=>low
  | h::r,_=>endS r (h.At.toNat+h.Old.length)
def preS:List Hunk→List ByteArray→Nat→List ByteArray
  | [],_,_=>[]
  | h::r,t,low=>(t.drop low).take (h.At.toNat - low)++(h.New++preS r t (h.At.toNat+h.Old.length))
theorem rawS_pre:∀ (hs:List Hunk) (t:List ByteArray) (low:Nat),rawS hs t low=preS hs t low++t.drop (endS hs low)
  | [],t,low=>rfl
  | h::r,t,low=>by rw [rawS,preS,endS,rawS_pre r t _];simp
theorem Hn:∀ (hs:List Hunk) (h:Hunk) (low:Nat),endS (hs++[h]) low=h.At.toNat+h.Old.length
  | [],h,low=>rfl
  | x::r,h,low=>by rw [List.cons_append,endS,Hn r h _]
theorem Ms:∀ (hs:List Hunk) (h:Hunk) (t:List ByteArray) (low:Nat),preS (hs++[h]) t low=preS hs t low++((t.drop (endS hs low)).take (h.At.toNat - endS hs low)++h.New)
  | [],h,t,low=>by simp [preS,endS]
  | x::r,h,t,low=>by rw [List.cons_append,preS,preS,endS,Ms r h t _];simp
def Chn:Int→List Hunk→Prop
  | _,[]=>True
  | e,h::r=>e < h.At∧Chn (h.At+h.Old.length) r
theorem Nw:∀ (l:List Hunk) (h:Hunk) (e:Int),Chn e (l++[h])↔Chn e l∧(l=[]→e < h.At)∧(∀ p q,l=p++[q]→q.At+q.Old.length < h.At)
  | [],h,e=>by simp [Chn]
  | x::r,h,e=>by
    rw [List.cons_append,Chn,Chn,Nw r h _];constructor
    · rintro ⟨h1,h2,h3,h4⟩;refine ⟨⟨h1,h2⟩,by simp,fun p q e=>?_⟩
      cases p with
      | nil=>simp at e;obtain ⟨rfl,rfl⟩:=e;exact h3 rfl
      | cons y p=>simp at e;exact h4 p q e.2
    · rintro ⟨⟨h1,h2⟩,h3,h4⟩;refine ⟨h1,h2,fun e=>?_,fun p q e=>h4 (x::p) q (by rw [e];rfl)⟩
      subst e;exact h4 [] x rfl
def HkOk (a b:List ByteArray) (h:Hunk):Prop:=∃ p q:Nat,h.At=p∧p+h.Old.length≤a.length∧h.Old=(a.drop p).take h.Old.length∧q+h.New.length≤b.length∧h.New=(b.drop q).take h.New.length∧0 < h.Old.length+h.New.length
structure ScI (a b:List ByteArray) (s:Cst) (i j:Nat):Prop where
  pos:s.2.1=i
  low:endS s.1 0≤i
  txt:preS s.1 a 0++(a.drop (endS s.1 0)).take (i - endS s.1 0)=b.take j
  opn:s.2.2=true→∃ hs h q,s.1=hs++[h]∧h.At.toNat+h.Old.length=i∧q+h.New.length=j∧h.New=(b.drop q).take h.New.length
  cls:s.2.2=false→s.1=[]∨endS s.1 0 < i
  chn:Chn (-1) s.1
  each:∀ h∈s.1,HkOk a b h
theorem Np {α:Type} {l:List α} {k:Nat} (h:k < l.length):l.take (k+1)=l.take k++[l[k]]:=by
  rw [List.take_add_one,List.getElem?_eq_getElem h];rfl
theorem Nl (hs:List Hunk) (h:Hunk) (f:Hunk→Hunk):Mc (hs++[h]) f=hs++[f h]:=by
  unfold Mc;simp
theorem ScI.keep {a b:List ByteArray} {s:Cst} {i j:Nat} (h:ScI a b s i j) (hi:i < a.length) (hj:j < b.length) (e:a[i]=b[j]):ScI a b (Hs s) (i+1) (j+1):=by
  have hl:=h.low;refine ⟨by simp only [Hs,h.pos];omega,by simp only [Hs];omega,?_,fun h=>by simp [Hs] at h,fun _=>.inr (by simp only [Hs];omega),h.chn,h.each⟩
  simp only [Hs];rw [Np hj,← h.txt,show i+1 - endS s.1 0=(i - endS s.1 0)+1 by omega,Np (by simp;omega),← e,List.append_assoc]
  congr 3;rw [List.getElem_drop];congr 1;omega
theorem HkOk.old {a b:List ByteArray} {h:Hunk} (hh:HkOk a b h) (hi:h.At.toNat+h.Old.length < a.length):HkOk a b { h with Old:=h.Old++[a[h.At.toNat+h.Old.length]] }:=by
  obtain ⟨p,q,h1,h2,h3,h4,h5,h6⟩:=hh;have hp:h.At.toNat=p:=by omega
  refine ⟨p,q,h1,by simp;omega,?_,h4,h5,by simp;omega⟩
  simp only [List.length_append,List.length_singleton];rw [Np (by simp;omega),← h3]
  congr 2;rw [List.getElem_drop];simp only [hp]
theorem HkOk.new {a b:List ByteArray} {h:Hunk} (hh:HkOk a b h) {q:Nat} (hq:h.New=(b.drop q).take h.New.length) (hi:q+h.New.length < b.length):HkOk a b { h with New:=h.New++[b[q+h.New.length]] }∧h.New++[b[q+h.New.length]]=(b.drop q).take (h.New.length+1):=by
  obtain ⟨p,_,h1,h2,h3,h4,h5,h6⟩:=hh
  have e:h.New++[b[q+h.New.length]]=(b.drop q).take (h.New.length+1):=by
    rw [Np (by simp;omega),← hq]
    congr 2;rw [List.getElem_drop]
  refine ⟨⟨p,q,h1,h2,h3,by simp;omega,?_,by simp;omega⟩,e⟩
  simp only [List.length_append,List.length_singleton];exact e
theorem ScI.del {a b:List ByteArray} {s:Cst} {i j:Nat} (h:ScI a b s i j) (hi:i < a.length) (hj:j≤b.length):ScI a b (Ke a[i] s) (i+1) j:=by
  have hl:=h.low;have ht:=h.txt;have hc:=h.chn;have he:=h.each;have hp:=h.pos;obtain ⟨hs0,at0,op⟩:=s;simp only at hl ht hc he hp;cases op with
  | true =>
    obtain ⟨hs,k,q,e1,e2,e3,e4⟩:=h.opn rfl;simp only at e1;subst e1
    have hcd:Ke a[i] (hs++[k],at0,true)=(hs++[{ k with Old:=k.Old++[a[i]] }],at0+1,true):=by
      unfold Ke E6;simp only [if_true,Nl]
    rw [hcd];rw [Hn,e2,Nat.sub_self,List.take_zero,List.append_nil,Ms] at ht;have hk:=HkOk.old (he k (by simp)) (by omega)
    have hx:a[k.At.toNat+k.Old.length]'(by omega)=a[i]:=by congr 1
    rw [hx] at hk;rw [Nw] at hc;refine ⟨by simp only;omega,by simp only [Hn,List.length_append,List.length_singleton];omega,?_,fun _=>⟨hs,_,q,rfl,by simp only [List.length_append,List.length_singleton];omega,e3,e4⟩,fun h=>by simp at h,(Nw _ _ _).2 hc,?_⟩
    · simp only [Hn,List.length_append,List.length_singleton,Ms];rw [show i+1 - (k.At.toNat+(k.Old.length+1))=0 by omega,List.take_zero,List.append_nil]
      exact ht
    · intro m hm;rcases List.mem_append.1 hm with hm | hm
      · exact he m (List.mem_append_left _ hm)
      · rw [List.mem_singleton] at hm;subst hm;exact hk
  | false =>
    have hcl:=h.cls rfl;simp only at hcl
    have hcd:Ke a[i] (hs0,at0,false)=(hs0++[⟨at0,[a[i]],[]⟩],at0+1,true):=by
      unfold Ke E6;simp only [Bool.false_eq_true,if_false,Nl,List.nil_append]
    rw [hcd];have hat:at0.toNat=i:=by omega
    refine ⟨by simp only;omega,by simp only [Hn,List.length_singleton];omega,?_,fun _=>⟨hs0,_,j,rfl,by simp only [List.length_singleton];omega,by simp,by simp⟩,fun h=>by simp at h,(Nw _ _ _).2 ⟨hc,fun _=>by simp only;omega,fun p q e=>?_⟩,?_⟩
    · simp only [Hn,List.length_singleton,Ms,hat,Nat.sub_self,List.take_zero,List.append_nil];exact ht
    · subst e;rcases hcl with hcl | hcl
      · simp at hcl
      · rw [Hn] at hcl;obtain ⟨p',_,h1,_⟩:=he q (by simp)
        simp only;omega
    · intro m hm;rcases List.mem_append.1 hm with hm | hm
      · exact he m hm
      · rw [List.mem_singleton] at hm;subst hm;refine ⟨i,j,hp,by simp;omega,?_,by simp;omega,by simp,by simp⟩
        simp only [List.length_singleton];rw [List.drop_eq_getElem_cons hi];rfl
theorem ScI.ins {a b:List ByteArray} {s:Cst} {i j:Nat} (h:ScI a b s i j) (hi:i≤a.length) (hj:j < b.length):ScI a b (Kn b[j] s) i (j+1):=by
  have hl:=h.low;have ht:=h.txt;have hc:=h.chn;have he:=h.each;have hp:=h.pos;obtain ⟨hs0,at0,op⟩:=s;simp only at hl ht hc he hp;cases op with
  | true =>
    obtain ⟨hs,k,q,e1,e2,e3,e4⟩:=h.opn rfl;simp only at e1;subst e1
    have hcd:Kn b[j] (hs++[k],at0,true)=(hs++[{ k with New:=k.New++[b[j]] }],at0,true):=by
      unfold Kn E6;simp only [if_true,Nl]
    rw [hcd];rw [Hn,e2,Nat.sub_self,List.take_zero,List.append_nil,Ms] at ht;obtain ⟨hk,hk2⟩:=HkOk.new (he k (by simp)) e4 (by omega)
    have hx:b[q+k.New.length]'(by omega)=b[j]:=by congr 1
    rw [hx] at hk hk2;rw [Nw] at hc;refine ⟨hp,by simp only [Hn];omega,?_,fun _=>⟨hs,_,q,rfl,e2,by simp only [List.length_append,List.length_singleton];omega,by simp only [List.length_append,List.length_singleton];exact hk2⟩,fun h=>by simp at h,(Nw _ _ _).2 hc,?_⟩
    · simp only [Hn,Ms];rw [show i - (k.At.toNat+k.Old.length)=0 by omega,List.take_zero,List.append_nil,Np hj,← ht]
      simp only [List.append_assoc]
    · intro m hm;rcases List.mem_append.1 hm with hm | hm
      · exact he m (List.mem_append_left _ hm)
      · rw [List.mem_singleton] at hm;subst hm;exact hk
  | false =>
    have hcl:=h.cls rfl;simp only at hcl
    have hcd:Kn b[j] (hs0,at0,false)=(hs0++[⟨at0,[],[b[j]]⟩],at0,true):=by
      unfold Kn E6;simp only [Bool.false_eq_true,if_false,Nl,List.nil_append]
    rw [hcd];have hat:at0.toNat=i:=by omega
    have hn:[b[j]]=(b.drop j).take 1:=by rw [List.drop_eq_getElem_cons hj];rfl
    refine ⟨hp,by simp only [Hn,List.length_nil];omega,?_,fun _=>⟨hs0,_,j,rfl,by simp only [List.length_nil];omega,by simp,by simp only [List.length_singleton];exact hn⟩,fun h=>by simp at h,(Nw _ _ _).2 ⟨hc,fun _=>by simp only;omega,fun p q e=>?_⟩,?_⟩
    · simp only [Hn,List.length_nil,Ms,hat,Nat.add_zero,Nat.sub_self,List.take_zero,List.append_nil];rw [Np hj,← ht,List.append_assoc]
    · subst e;rcases hcl with hcl | hcl
      · simp at hcl
      · rw [Hn] at hcl;obtain ⟨p',_,h1,_⟩:=he q (by simp)
        simp only;omega
    · intro m hm;rcases List.mem_append.1 hm with hm | hm
      · exact he m hm
      · rw [List.mem_singleton] at hm;subst hm;exact ⟨i,j,hp,by simp;omega,by simp,by simp;omega,by simp only [List.length_singleton];exact hn,by simp⟩
theorem scr_ok {a b:List ByteArray}:∀ (n i j:Nat) (s:Cst),(a.length - i)+(b.length - j)=n→i≤a.length→j≤b.length→ScI a b s i j→ScI a b (scr (a.drop i) (b.drop j) s) a.length b.length:=by
  intro n
  induction n using Nat.strongRecOn with
  | _ n ih =>
  intro i j s hn hi hj h;by_cases hia:i < a.length
  · have hda:=List.drop_eq_getElem_cons hia;by_cases hjb:j < b.length
    · have hdb:=List.drop_eq_getElem_cons hjb
      have hsc:scr (a.drop i) (b.drop j) s=if a[i]=b[j] then scr (a.drop (i+1)) (b.drop (j+1)) (Hs s) else if lcs (a.drop (i+1)) (b.drop j) ≥ lcs (a.drop i) (b.drop (j+1)) then scr (a.drop (i+1)) (b.drop j) (Ke a[i] s) else scr (a.drop i) (b.drop (j+1)) (Kn b[j] s):=by
        conv=>lhs;rw [hda,hdb,scr]
        rw [← hda,← hdb]
      rw [hsc];split
      · rename_i e
        exact ih _ (by omega) (i+1) (j+1) _ rfl (by omega) (by omega) (h.keep hia hjb e)
      · split
        · exact ih _ (by omega) (i+1) j _ rfl (by omega) (by omega) (h.del hia hj)
        · exact ih _ (by omega) i (j+1) _ rfl (by omega) (by omega) (h.ins hi hjb)
    · have hj':j=b.length:=by omega
      subst hj'
      have hsc:scr (a.drop i) (b.drop b.length) s=scr (a.drop (i+1)) (b.drop b.length) (Ke a[i] s):=by
        rw [hda,List.drop_length,scr]
      rw [hsc];exact ih _ (by omega) (i+1) b.length _ rfl (by omega) (by omega) (h.del hia hj)
  · have hi':i=a.length:=by omega
    subst hi';by_cases hjb:j < b.length
    · have hdb:=List.drop_eq_getElem_cons hjb
      have hsc:scr (a.drop a.length) (b.drop j) s=scr (a.drop a.length) (b.drop (j+1)) (Kn b[j] s):=by
        rw [hdb,List.drop_length,scr]
      rw [hsc];exact ih _ (by omega) a.length (j+1) _ rfl (by omega) (by omega) (h.ins hi hjb)
    · have hj':j=b.length:=by omega
      subst hj';rw [List.drop_length,List.drop_length,scr];exact h
theorem ok_part {l:List ByteArray} (h:Em l) (p k:Nat):(B6 ((l.drop p).take k)).Code=0:=by
  refine (D8 _).1 ((Ha _).1 ⟨?_,fun s hs=>h.2 s (List.mem_of_mem_drop (List.mem_of_mem_take hs))⟩);have:=h.1
  simp;omega
theorem good_of {a b:List ByteArray} (ha:Em a) (hb:Em b):∀ (l:List Hunk) (e:Int),Chn e l→(∀ h∈l,HkOk a b h)→Good e l∧(-1≤e→e≤120→(l.length:Int)≤120 - e)
  | [],e,_,_=>⟨trivial,fun _ _=>by simp;omega⟩
  | h::r,e,hc,he=>by
    obtain ⟨p,q,h1,h2,h3,h4,h5,h6⟩:=he h List.mem_cons_self;obtain ⟨c1,c2⟩:=hc;have hl:=ha.1;obtain ⟨g1,g2⟩:=good_of ha hb r _ c2 fun x hx=>he x (List.mem_cons_of_mem _ hx);refine ⟨⟨?_,g1⟩,fun _ _=>?_⟩
    · unfold Oh;have t1:(B6 h.Old).Code=0:=by rw [h3];exact ok_part ha _ _
      have t2:(B6 h.New).Code=0:=by rw [h5];exact ok_part hb _ _
      rw [if_neg (by omega),if_neg (fun hn=>hn t1),if_neg (fun hn=>hn t2),if_neg (by omega),if_neg (by omega)]
    · have:=g2 (by omega) (by omega)
      rw [List.length_cons];omega
theorem script_ok {a b:List ByteArray} (ha:Em a) (hb:Em b):(C3 ⟨Lh a b⟩).Code=0∧Kw ⟨Lh a b⟩ a=(b,⟨0,0⟩)∧(Lh a b=[]→a=b):=by
  have h0:ScI a b ([],0,false) 0 0:=⟨rfl,Nat.le_refl _,by simp [preS,endS],fun h=>by simp at h,fun _=>.inl rfl,trivial,fun h hh=>by cases hh⟩
  have h:=scr_ok _ 0 0 _ rfl (Nat.zero_le _) (Nat.zero_le _) h0;rw [List.drop_zero,List.drop_zero] at h
  have hraw:rawS (Lh a b) a 0=b:=by
    rw [rawS_pre];have ht:=h.txt;have hl:=h.low;rw [List.take_length,List.take_of_length_le (by simp)] at ht
    exact ht
  obtain ⟨g1,g2⟩:=good_of ha hb (Lh a b) (-1) h.chn h.each;have hlen:=g2 (by omega) (by omega)
  have hp:(C3 ⟨Lh a b⟩).Code=0:=(Lu _).2 ⟨by simp only;omega,g1⟩
  have hf:Fits a (Lh a b):=fun x hx=>by
    obtain ⟨p,q,h1,h2,h3,_⟩:=h.each x hx;rw [h1,Int.toNat_natCast];exact ⟨by omega,h3.symm⟩
  refine ⟨hp,?_,fun e=>?_⟩
  · rw [applyF_of hp ha.2 ha.1 hf];simp only;rw [hraw,if_neg (by have:=hb.1;omega)]
  · rw [e] at hraw;exact hraw
def insF (l:List File) (x:File):List File:=l.take (Eb l x.Path)++[x]++l.drop (Eb l x.Path)
theorem has_pos {l:List File} (h:TSrt l) {p:ByteArray} (hh:Lc l p=true):∃ hp:Eb l p < l.length,l[Eb l p].Path=p:=by
  rw [has_at h] at hh;split at hh
  · rename_i hp;exact ⟨hp,of_decide_eq_true hh⟩
  · cases hh
theorem pos_of {l:List File} (h:TSrt l) {j:Nat} (hj:j < l.length):Eb l l[j].Path=j∧Lc l l[j].Path=true:=by
  have hh:Lc l l[j].Path=true:=by
    unfold Lc;rw [List.any_eq_true];exact ⟨_,List.getElem_mem hj,decide_eq_true rfl⟩
  refine ⟨?_,hh⟩;obtain ⟨hp,he⟩:=has_pos h hh;rcases Nat.lt_trichotomy (Eb l l[j].Path) j with h1 | h1 | h1
  · have:=List.pairwise_iff_getElem.1 h _ _ hp hj h1;rw [he,Od] at this;cases this
  · exact h1
  · have:=List.pairwise_iff_getElem.1 h _ _ hj hp h1;rw [he,Od] at this;cases this
theorem rel_has {l:List File} {p:ByteArray} (h:Gm l p=false):Lc l p=false:=by
  unfold Gm at h;unfold Lc;rw [List.any_eq_false] at h ⊢;intro f hf e;have:=h f hf;rw [of_decide_eq_true e,relB_self] at this;exact this rfl
theorem ins_len (l:List File) (x:File):(insF l x).length=l.length+1:=by
  have:=pos_le l x.Path;unfold insF;simp;omega
theorem ins_srt {l:List File} (h:TSrt l) {x:File} (hn:Lc l x.Path=false):TSrt (insF l x):=by
  unfold TSrt insF
  have hlow:∀ f∈l.take (Eb l x.Path),sLt f.Path x.Path=true:=by
    intro f hf;rw [List.mem_take_iff_getElem] at hf;obtain ⟨i,hi,rfl⟩:=hf;rw [pos_lt h x.Path i (by omega)]
    exact decide_eq_true (by omega)
  have hhigh:∀ f∈l.drop (Eb l x.Path),sLt x.Path f.Path=true:=by
    intro f hf;obtain ⟨i,hi,rfl⟩:=List.getElem_of_mem hf;rw [List.length_drop] at hi;rw [List.getElem_drop];have h1:=pos_lt h x.Path (Eb l x.Path+i) (by omega)
    rw [decide_eq_false (by omega)] at h1
    rcases sLt_tri x.Path l[Eb l x.Path+i].Path with h2 | h2 | h2
    · exact h2
    · unfold Lc at hn;rw [List.any_eq_false] at hn;exact absurd (decide_eq_true h2.symm) (hn _ (List.getElem_mem (by omega)))
    · rw [h1] at h2;cases h2
  rw [List.pairwise_append,List.pairwise_append];refine ⟨⟨h.sublist (List.take_sublist _ _),List.pairwise_singleton _ _,?_⟩,h.sublist (List.drop_sublist _ _),?_⟩
  · intro a ha b hb;rw [List.mem_singleton] at hb;subst hb;exact hlow a ha
  · intro a ha b hb;rcases List.mem_append.1 ha with ha | ha
    · exact Qa (hlow a ha) (hhigh b hb)
    · rw [List.mem_singleton] at ha;subst ha;exact hhigh b hb
theorem ins_mem {l:List File} {x f:File}:f∈insF l x↔f=x∨f∈l:=by
  unfold insF;rw [List.mem_append,List.mem_append,List.mem_singleton]
  conv=>rhs;rw [← List.take_append_drop (Eb l x.Path) l,List.mem_append]
  constructor
  · rintro ((h | h) | h)
    · exact .inr (.inl h)
    · exact .inl h
    · exact .inr (.inr h)
  · rintro (h | h | h)
    · exact .inl (.inr h)
    · exact .inl (.inl h)
    · exact .inr h
theorem Put_f {l:List File} (h:TSrt l) (hl:l.length≤1000) {p:ByteArray} (hn:Lc l p=false) {L:List ByteArray} (hL:L.length≤1000000):E4 ⟨l⟩ p L=some ⟨insF l ⟨p,L⟩⟩:=by
  have hp:=pos_le l p;unfold E4;simp only;rw [Find_f h (by omega),Option.bind_some,hn,if_pos (by rfl)]
  have e:ins? 40 l ((Eb l p:Nat):Int) [⟨p,[]⟩]=some (l.take (Eb l p)++[⟨p,[]⟩]++l.drop (Eb l p)):=by
    unfold ins?;simp only;rw [if_pos (by omega),G0 (by simp;omega),Option.bind_some,Int.toNat_natCast]
  rw [e,Option.bind_some];unfold E4.j1;rw [Qs _ hL,Option.bind_some];simp only;have hlen:(l.take (Eb l p)).length=Eb l p:=by simp;omega
  rw [Ci (by simp;omega),Option.bind_some,Option.bind_some,Int.toNat_natCast]
  have e2:(l.take (Eb l p)++[(⟨p,[]⟩:File)]++l.drop (Eb l p))[Eb l p]'(by simp;omega)=⟨p,[]⟩:=by
    rw [List.getElem_append_left (by simp;omega),List.getElem_append_right (by omega)]
    simp [hlen]
  rw [e2];unfold insF;congr 2;rw [List.append_assoc,List.append_assoc,List.set_append_right _ _ (by omega),hlen,Nat.sub_self]
  rfl
theorem del_f (l:List File) {j:Nat} (hj:j < l.length):del? l (j:Int) ((j+1:Nat):Int)=some (l.eraseIdx j):=by
  unfold del?;rw [if_pos (by omega),Int.toNat_natCast,Int.toNat_natCast,List.eraseIdx_eq_take_drop_succ]
def Me (c:TreeChange) (l:List File):Int×List File :=
  if c.Kind=1 then if Gm l c.Path=true then (7,l) else if 24≤l.length then (14,l) else (0,insF l ⟨c.Path,c.Lines⟩)
  else match (if Lc l c.Path=true then l[Eb l c.Path]? else Option.none) with
  | Option.none=>(6,l)
  | some f =>
    if c.Kind=2 then if f.Lines≠c.Lines then (19,l) else (0,l.eraseIdx (Eb l c.Path))
    else if c.Kind=3 then if Gm (l.eraseIdx (Eb l c.Path)) c.To=true then (7,l) else (0,insF (l.eraseIdx (Eb l c.Path)) ⟨c.To,f.Lines⟩)
    else if (Kw c.Patch f.Lines).2.Code≠0 then ((Kw c.Patch f.Lines).2.Code,l) else (0,l.set (Eb l c.Path) ⟨f.Path,(Kw c.Patch f.Lines).1⟩)
theorem TrOk.text_len {l:List File} (h:TrOk l) {f:File} (hf:f∈l):f.Lines.length≤120:=(h.text f hf).1
theorem make1_f {l:List File} (h:TrOk l) {c:TreeChange} (hc:OkCh c):Eu c ⟨l⟩=some ((Me c l).1,⟨(Me c l).2⟩):=by
  have hl:=h.len;have hps:∀ f∈l,f.Path.size≤1000000:=fun f hf=>by have:=H1 (h.path f hf);omega
  have hcp:=H1 hc.path;have hcl:c.Lines.length≤120:=Ew hc.lines;unfold Eu Me;simp only;rw [Find_f h.srt (by omega),Option.bind_some]
  by_cases k1:c.Kind=1
  · rw [decide_eq_true k1,if_pos rfl,if_pos k1,clash_f hps (by omega) (by omega),Option.bind_some,clO_all]
    cases hr:Gm l c.Path
    · rw [if_neg Bool.false_ne_true,if_neg Bool.false_ne_true];by_cases h24:24≤l.length
      · rw [decide_eq_true (by omega),if_pos rfl,if_pos h24]
      · rw [decide_eq_false (by omega),if_neg Bool.false_ne_true,if_neg h24,Put_f h.srt (by omega) (rel_has hr) (by omega),Option.bind_some]
    · rw [if_pos rfl,if_pos rfl]
  rw [decide_eq_false k1,if_neg Bool.false_ne_true,if_neg k1];cases hh:Lc l c.Path with
  | false =>
    rw [if_pos (by rfl)]
    simp only [Bool.false_eq_true,if_false]
  | true =>
    obtain ⟨hp,he⟩:=has_pos h.srt hh;have hfm:=List.getElem_mem hp;have hft:=h.text_len hfm;rw [if_neg (show ¬ ((!true)=true) by decide),Ci hp,Option.bind_some,if_pos rfl,List.getElem?_eq_getElem hp]
    simp only
    have ez:ckK .i64 (((Eb l c.Path:Nat):Int)+1)=some ((Eb l c.Path+1:Nat):Int):=by
      rw [Ck (by omega) (by omega)];rfl
    by_cases k2:c.Kind=2
    · rw [decide_eq_true k2,if_pos rfl,if_pos k2,sequal_f _ _ (by omega),Option.bind_some]
      by_cases ht:l[Eb l c.Path].Lines=c.Lines
      · rw [decide_eq_true ht,if_neg (show ¬ ((!true)=true) by decide),if_neg (fun hn=>hn ht),ez,Option.bind_some,del_f l hp,Option.bind_some];rfl
      · rw [decide_eq_false ht,if_pos (by rfl),if_pos ht]
    rw [decide_eq_false k2,if_neg Bool.false_ne_true,if_neg k2];by_cases k3:c.Kind=3
    · have hto:=H1 (hc.to k3).1;have hcl3:=clO_ne (p:=c.To) l 0 (Eb l c.Path);rw [Nat.zero_add] at hcl3;rw [decide_eq_true k3,if_pos rfl,if_pos k3,clash_f hps (by omega) (by omega),Option.bind_some,hcl3]
      cases hr:Gm (l.eraseIdx (Eb l c.Path)) c.To
      · rw [if_neg Bool.false_ne_true,if_neg Bool.false_ne_true,ez,Option.bind_some,del_f l hp,Option.bind_some,
          Put_f (h.srt.sublist (List.eraseIdx_sublist _ _)) (by have:=List.length_eraseIdx_le l (Eb l c.Path);omega) (rel_has hr) (by omega),Option.bind_some];rfl
      · rw [if_pos rfl,if_pos rfl]
    · rw [decide_eq_false k3,if_neg Bool.false_ne_true,if_neg k3,apply_f,Option.bind_some];by_cases ha:(Kw c.Patch l[Eb l c.Path].Lines).2.Code=0
      · have hi:(Kw c.Patch l[Eb l c.Path].Lines).2.Index=0:=by rw [(applyF_ok ha).2.2.2.2.2]
        rw [decide_eq_true ha,decide_eq_true hi,if_neg (by decide),if_neg (fun hn=>hn ha),Option.bind_some,Option.bind_some,Int.toNat_natCast];rfl
      · rw [if_pos (by simp [ha]),if_pos ha]
theorem requal_f (a b:List ByteArray) (hb:a.length≤1000000):Ce a b=some (decide (a=b)):=by
  unfold Ce;rw [H0];by_cases hl:a.length=b.length
  · rw [if_pos (by omega)]
    have key:∀ (ra rb:List ByteArray) (k:Nat),a.drop k=ra→b.drop k=rb→ra.length=rb.length→Dm (fun s=>Ce.l1 a b s) (k:Int)=some (if ra=rb then .inr () else .inl false):=by
      intro ra
      induction ra with
      | nil =>
        intro rb k hka hkb hll;have:=Er hka;obtain rfl:rb=[]:=List.eq_nil_of_length_eq_zero (by simpa using hll.symm)
        refine B1 ?_;unfold Ce.l1;rw [Bx,if_neg (by omega)];rfl
      | cons x ra ih =>
        intro rb k hka hkb hll;cases rb with
        | nil=>simp at hll
        | cons y rb =>
          obtain ⟨h1,h2,h3⟩:=E0 hka;obtain ⟨h4,h5,h6⟩:=E0 hkb;by_cases hxy:x=y
          · have e0:Ce.l1 a b (k:Int)=some (.next ((k+1:Nat):Int)):=by
              unfold Ce.l1;rw [Bx,if_pos (by omega),Ci h1,Option.bind_some,h2,Ci h4,Option.bind_some,h5,H0,if_pos hxy,Ck (by omega) (by omega)];rfl
            rw [B8 e0,ih rb (k+1) h3 h6 (by simpa using hll)]
            subst hxy;simp
          · rw [if_neg (by simp [hxy])]
            refine B1 ?_;unfold Ce.l1;rw [Bx,if_pos (by omega),Ci h1,Option.bind_some,h2,Ci h4,Option.bind_some,h5,H0,if_neg hxy]
    rw [show (0:Int)=((0:Nat):Int) from rfl,key a b 0 rfl rfl hl,Option.bind_some];by_cases h:a=b
    · rw [if_pos h,decide_eq_true h];rfl
    · rw [if_neg h,decide_eq_false h]
  · rw [if_neg (by omega),decide_eq_false (fun h=>hl (by rw [h]))]
theorem pos_eq {m:List File} (h:TSrt m) {p:ByteArray} {k:Nat} (hk:k≤m.length) (h1:∀ i (hi:i < m.length),i < k→sLt m[i].Path p=true) (h2:∀ i (hi:i < m.length),k≤i→sLt m[i].Path p=false):Eb m p=k:=by
  have hp:=pos_le m p;rcases Nat.lt_trichotomy (Eb m p) k with h3 | h3 | h3
  · have:=h1 (Eb m p) (by omega) h3
    rw [pos_lt h] at this;simp at this
  · exact h3
  · have:=h2 k (by omega) (Nat.le_refl _)
    rw [pos_lt h] at this;simp at this;omega
theorem FileAt_f {l:List File} (h:TSrt l) (hl:l.length≤900) (p:ByteArray):Cc ⟨l⟩ p=some (if Lc l p=true then ((Eb l p:Nat):Int) else -1):=by
  unfold Cc;rw [scan0 l (fun k f=>if f.Path=p then some ((k:Nat):Int) else Option.none) ?_ ?_,Option.bind_some]
  · cases hs:Gt (fun k f=>if f.Path=p then some ((k:Nat):Int) else Option.none) 0 l with
    | none =>
      rw [Mo] at hs
      have:Lc l p=false:=by
        unfold Lc;rw [List.any_eq_false];intro f hf e;obtain ⟨j,hj,rfl⟩:=List.getElem_of_mem hf;have:=hs j hj;rw [if_pos (of_decide_eq_true e)] at this;cases this
      rw [this,if_neg Bool.false_ne_true];rfl
    | some y =>
      obtain ⟨j,hj,e⟩:=Ly hs;rw [Nat.zero_add] at e;split at e
      · rename_i he
        obtain ⟨h1,h2⟩:=pos_of h hj;rw [he] at h1 h2;rw [h2,if_pos rfl,h1,← Option.some.inj e];rfl
      · cases e
  · intro k hk _;unfold Cc.l1;simp only;rw [decide_eq_true (by omega),if_pos rfl,Ci hk,Option.bind_some]
    by_cases he:l[k].Path=p
    · rw [decide_eq_true he,if_pos rfl,if_pos he]
    · rw [decide_eq_false he,if_neg Bool.false_ne_true,if_neg he,Ck (by omega) (by omega),Option.bind_some];rfl
  · unfold Cc.l1;rw [decide_eq_false (by simp),if_neg Bool.false_ne_true]
theorem erase_rel {l:List File} (h:TrOk l) {j:Nat} (hj:j < l.length):Gm (l.eraseIdx j) l[j].Path=false:=by
  unfold Gm;rw [List.any_eq_false];intro f hf;rw [List.mem_eraseIdx_iff_getElem] at hf;obtain ⟨i,hi,hne,rfl⟩:=hf;rcases Nat.lt_or_gt_of_ne hne with h1 | h1
  · have:=List.pairwise_iff_getElem.1 h.rel i j hi hj h1;rw [this];decide
  · have:=List.pairwise_iff_getElem.1 h.rel j i hj hi h1;rw [relB_comm,this];decide
theorem pos_erase {l:List File} (h:TSrt l) {j:Nat} (hj:j < l.length):Eb (l.eraseIdx j) l[j].Path=j:=by
  have hlen:(l.eraseIdx j).length=l.length - 1:=by rw [List.length_eraseIdx,if_pos hj]
  refine pos_eq (h.sublist (List.eraseIdx_sublist _ _)) (by omega) ?_ ?_
  · intro i hi hij;rw [List.getElem_eraseIdx_of_lt _ hij];exact List.pairwise_iff_getElem.1 h i j (by omega) hj hij
  · intro i hi hij;rw [List.getElem_eraseIdx_of_ge _ hij];exact sLt_asymm (List.pairwise_iff_getElem.1 h j (i+1) hj (by omega) (by omega))
theorem ins_erase {l:List File} (h:TSrt l) {j:Nat} (hj:j < l.length) {x:File} (hx:x.Path=l[j].Path):insF (l.eraseIdx j) x=l.set j x:=by
  unfold insF;rw [hx,pos_erase h hj,List.eraseIdx_eq_take_drop_succ,List.set_eq_take_append_cons_drop,if_pos hj];have h1:(l.take j++l.drop (j+1)).take j=l.take j:=by rw [List.take_append_of_le_length (by simp;omega),List.take_take,Nat.min_self]
  have h2:(l.take j++l.drop (j+1)).drop j=l.drop (j+1):=by
    have hl:(l.take j).length=j:=by simp;omega
    rw [List.drop_append_of_le_length (by omega),List.drop_of_length_le (by omega),List.nil_append]
  rw [h1,h2];simp
theorem ins_ok {l:List File} (h:TrOk l) {x:File} (h1:D0 x.Path=true) (h2:Gm l x.Path=false) (h3:Em x.Lines) (h4:l.length < 24):TrOk (insF l x):=by
  have hrel:∀ f∈l,Lx f.Path x.Path=false:=by
    intro f hf;unfold Gm at h2;rw [List.any_eq_false] at h2;simpa using h2 f hf
  refine ⟨by rw [ins_len];omega,ins_srt h.srt (rel_has h2),?_,?_,?_⟩
  · intro f hf;rcases ins_mem.1 hf with rfl | hf
    · exact h1
    · exact h.path f hf
  · unfold insF;rw [List.pairwise_append,List.pairwise_append];have hr:=h.rel;rw [← List.take_append_drop (Eb l x.Path) l,List.pairwise_append] at hr;refine ⟨⟨hr.1,List.pairwise_singleton _ _,?_⟩,hr.2.1,?_⟩
    · intro a ha b hb;rw [List.mem_singleton] at hb;subst hb;exact hrel a (List.mem_of_mem_take ha)
    · intro a ha b hb;rcases List.mem_append.1 ha with ha | ha
      · exact hr.2.2 a ha b hb
      · rw [List.mem_singleton] at ha;subst ha;rw [relB_comm];exact hrel b (List.mem_of_mem_drop hb)
  · intro f hf;rcases ins_mem.1 hf with rfl | hf
    · exact h3
    · exact h.text f hf
theorem erase_ok {l:List File} (h:TrOk l) (j:Nat):TrOk (l.eraseIdx j):=by
  have hs:=List.eraseIdx_sublist l j;refine ⟨Nat.le_trans hs.length_le h.len,h.srt.sublist hs,fun f hf=>h.path f (hs.subset hf),h.rel.sublist hs,fun f hf=>h.text f (hs.subset hf)⟩
theorem applyF_text {p:Patch} {t:List ByteArray} (h:(Kw p t).2.Code=0):Em (Kw p t).1:=by
  obtain ⟨h1,h2,h3,h4,h5,h6⟩:=applyF_ok h;rw [h6];exact ⟨h5,rawS_lines _ _ _ h3.2 fun x hx=>lines_of (good_at h2 (by omega) x hx).2.2.2.1⟩
theorem makeF_ok {l:List File} (h:TrOk l) {c:TreeChange} (hc:OkCh c) (h0:(Me c l).1=0):TrOk (Me c l).2:=by
  unfold Me at h0 ⊢;by_cases k1:c.Kind=1
  · rw [if_pos k1] at h0 ⊢;cases hr:Gm l c.Path
    · rw [hr,if_neg Bool.false_ne_true] at h0;rw [if_neg Bool.false_ne_true];by_cases h24:24≤l.length
      · rw [if_pos h24] at h0;simp at h0
      · rw [if_neg h24];exact ins_ok h hc.path hr ((Ha _).2 ((D8 _).2 hc.lines)) (by omega)
    · rw [hr,if_pos rfl] at h0;simp at h0
  rw [if_neg k1] at h0 ⊢;cases hh:Lc l c.Path with
  | false=>rw [hh] at h0;simp at h0
  | true =>
    obtain ⟨hp,he⟩:=has_pos h.srt hh;have hfm:=List.getElem_mem hp;have hle:(l.eraseIdx (Eb l c.Path)).length=l.length - 1:=by rw [List.length_eraseIdx,if_pos hp]
    have hl:=h.len;rw [hh,if_pos rfl,List.getElem?_eq_getElem hp] at h0;rw [if_pos rfl,List.getElem?_eq_getElem hp];simp only at h0 ⊢;by_cases k2:c.Kind=2
    · rw [if_pos k2] at h0 ⊢;by_cases ht:l[Eb l c.Path].Lines≠c.Lines
      · rw [if_pos ht] at h0;simp at h0
      · rw [if_neg ht];exact erase_ok h _
    rw [if_neg k2] at h0 ⊢;by_cases k3:c.Kind=3
    · rw [if_pos k3] at h0 ⊢;cases hr:Gm (l.eraseIdx (Eb l c.Path)) c.To
      · rw [if_neg Bool.false_ne_true];exact ins_ok (erase_ok h _) (hc.to k3).1 hr (show Em l[Eb l c.Path].Lines from h.text _ hfm) (by omega)
      · rw [hr,if_pos rfl] at h0;simp at h0
    · rw [if_neg k3] at h0 ⊢;by_cases ha:(Kw c.Patch l[Eb l c.Path].Lines).2.Code=0
      · rw [if_neg (fun hn=>hn ha)];simp only;rw [← ins_erase h.srt hp (x:=⟨l[Eb l c.Path].Path,(Kw c.Patch l[Eb l c.Path].Lines).1⟩) rfl];refine ins_ok (erase_ok h _) (show D0 l[Eb l c.Path].Path=true from h.path _ hfm) (erase_rel h hp) ?_ (by omega)
        exact applyF_text ha
      · rw [if_pos ha] at h0;exact absurd h0 ha
def pcG (k:Nat) (c:TreeChange):Option Fault:=if chF c≠0 then some ⟨chF c,k⟩ else Option.none
def pcF (p:List TreeChange):Fault:=if p.length > 30 then ⟨2,-1⟩ else (Gt pcG 0 p).getD ⟨0,0⟩
theorem VPatch_f (p:TreePatch):Cf p=some (pcF p.Changes):=by
  obtain ⟨l⟩:=p;unfold Cf pcF;simp only;by_cases h:l.length > 30
  · rw [decide_eq_true (by omega),if_pos rfl,if_pos h]
  rw [decide_eq_false (by omega),if_neg Bool.false_ne_true,if_neg h,scan0 l pcG ?_ ?_,Option.bind_some]
  · cases Gt pcG 0 l <;> rfl
  · intro k hk _;unfold Cf.l1 pcG;simp only;rw [decide_eq_true (by omega),if_pos rfl,Ci hk,Option.bind_some,check_f,Option.bind_some]
    by_cases hc:chF l[k]=0
    · rw [decide_eq_true hc,if_neg (show ¬ ((!true)=true) by decide),if_neg (fun hn=>hn hc),Ck (by omega) (by omega),Option.bind_some];rfl
    · rw [decide_eq_false hc,if_pos (by rfl),if_pos hc]
  · unfold Cf.l1;rw [decide_eq_false (by simp),if_neg Bool.false_ne_true]
theorem RVPatch_f (p:TreePatch):Bv p=some (pcF p.Changes):=by
  obtain ⟨l⟩:=p;unfold Bv pcF;simp only;by_cases h:l.length > 30
  · rw [decide_eq_true (by omega),if_pos rfl,if_pos h];rfl
  rw [decide_eq_false (by omega),if_neg Bool.false_ne_true,if_neg h,scan0 l pcG ?_ ?_,Option.bind_some]
  · cases Gt pcG 0 l <;> rfl
  · intro k hk _;unfold Bv.l1 pcG;simp only;rw [decide_eq_true (by omega),if_pos rfl,Ci hk,Option.bind_some,ChangeCode_f,Option.bind_some]
    by_cases hc:chF l[k]=0
    · rw [decide_eq_true hc,if_neg (show ¬ ((!true)=true) by decide),if_neg (fun hn=>hn hc),Ck (by omega) (by omega),Option.bind_some];rfl
    · rw [decide_eq_false hc,if_pos (by rfl),if_pos hc];rfl
  · unfold Bv.l1;rw [decide_eq_false (by simp),if_neg Bool.false_ne_true]
theorem pcG_code {k:Nat} {c:TreeChange} {y:Fault} (h:pcG k c=some y):y.Code≠0:=by
  unfold pcG at h;split at h
  · rename_i hc;cases h;exact hc
  · cases h
theorem pcF_ok (p:List TreeChange):pcF p=⟨0,0⟩∨(pcF p).Code≠0:=by
  unfold pcF;split
  · right;simp
  · cases h:Gt pcG 0 p with
    | none=>left;rfl
    | some y=>right;obtain ⟨j,hj,e⟩:=Ly h;exact pcG_code e
theorem pcF_zero (p:List TreeChange):(pcF p).Code=0↔p.length≤30∧∀ c∈p,OkCh c:=by
  unfold pcF;by_cases h:p.length > 30
  · rw [if_pos h];exact ⟨fun e=>by simp at e,fun e=>by omega⟩
  rw [if_neg h]
  have e1:(((Gt pcG 0 p).getD ⟨0,0⟩).Code=0)↔Gt pcG 0 p=Option.none:=by
    cases h:Gt pcG 0 p with
    | none=>simp
    | some y=>obtain ⟨j,hj,e⟩:=Ly h;simp [pcG_code e]
  rw [e1,Mo];constructor
  · intro hh;refine ⟨by omega,fun c hc=>?_⟩
    obtain ⟨j,hj,rfl⟩:=List.getElem_of_mem hc;have:=hh j hj;unfold pcG at this;split at this
    · cases this
    · rename_i h0;exact chF_ok.1 (by simpa using h0)
  · rintro ⟨_,hh⟩ j hj;unfold pcG;rw [if_neg (by rw [chF_ok.2 (hh _ (List.getElem_mem hj))];simp)]
def runF:Nat→List TreeChange→List File→List File×Fault
  | _,[],l=>(l,⟨0,0⟩)
  | k,c::r,l=>if (Me c l).1≠0 then ([],⟨(Me c l).1,k⟩) else runF (k+1) r (Me c l).2
def applyT (p:List TreeChange) (l:List File):List File×Fault :=
  if (pcF p).Code≠0 then ([],pcF p) else if (Da l).Code≠0 then ([],⟨(Da l).Code,-2⟩) else runF 0 p l
theorem copyT_f {l:List File} (h:∀ f∈l,f.Lines.length≤1000000) (hl:l.length≤1000):Ct ⟨l⟩=some ⟨l⟩:=by
  have key:∀ (n k:Nat),k+n=l.length→Dm (fun s=>Ct.l1 ⟨l⟩ s.1 s.2) ((k:Int),l.take k)=some l:=by
    intro n
    induction n with
    | zero =>
      intro k hk;refine B1 ?_;show Ct.l1 ⟨l⟩ _ _=_;unfold Ct.l1;simp only;rw [decide_eq_false (by omega),if_neg Bool.false_ne_true,List.take_of_length_le (by omega)]
    | succ n ih =>
      intro k hk;have hkl:k < l.length:=by omega
      have hs:Ct.l1 ⟨l⟩ (k:Int) (l.take k)=some (Step.next (((k+1:Nat):Int),l.take (k+1))):=by
        unfold Ct.l1;simp only
        rw [decide_eq_true (by omega),if_pos rfl,Ci hkl,Option.bind_some,Qs _ (h _ (List.getElem_mem hkl)),Option.bind_some,G0 (by simp;omega),Option.bind_some,Ck (by omega) (by omega),Option.bind_some,
          List.take_add_one,List.getElem?_eq_getElem hkl];rfl
      rw [B8 (s':=(((k+1:Nat):Int),l.take (k+1))) hs];exact ih (k+1) (by omega)
  unfold Ct;have:=key l.length 0 (by omega)
  rw [List.take_zero,show ((0:Nat):Int)=0 from rfl] at this;rw [this,Option.bind_some];rfl
theorem run_ok:∀ (r:List TreeChange) (k:Nat) (l:List File),TrOk l→(∀ c∈r,OkCh c)→(runF k r l).2.Code=0→TrOk (runF k r l).1∧(runF k r l).2=⟨0,0⟩
  | [],k,l,h,_,_=>⟨h,rfl⟩
  | c::r,k,l,h,hc,h0=>by
    rw [runF] at h0 ⊢;by_cases hm:(Me c l).1≠0
    · rw [if_pos hm] at h0;exact absurd h0 hm
    · rw [if_neg hm] at h0 ⊢;exact run_ok r (k+1) _ (makeF_ok h (hc c List.mem_cons_self) (by simpa using hm)) (fun d hd=>hc d (List.mem_cons_of_mem _ hd)) h0
theorem run_iter {p:List TreeChange} (hp:∀ c∈p,OkCh c) (hpl:p.length≤30):∀ (r:List TreeChange) (k:Nat) (l:List File),p.drop k=r→TrOk l →
    Dm (fun s=>C8.l1 ⟨p⟩ s.1 s.2) ((k:Int),l)=some (if (runF k r l).2.Code≠0 then .inl (⟨[]⟩,(runF k r l).2) else .inr (runF k r l).1):=by
  intro r
  induction r with
  | nil =>
    intro k l hk h;have:=Er hk;rw [runF,if_neg (by simp)]
    refine B1 ?_;show C8.l1 ⟨p⟩ _ _=_;unfold C8.l1;simp only;rw [decide_eq_false (by omega),if_neg Bool.false_ne_true]
  | cons c r ih =>
    intro k l hk h;obtain ⟨hlt,hx,hr⟩:=E0 hk;have hc:OkCh c:=hp c (hx ▸ List.getElem_mem hlt)
    have hs:C8.l1 ⟨p⟩ (k:Int) l=if (Me c l).1≠0 then some (Step.done (Sum.inl (⟨[]⟩,⟨(Me c l).1,k⟩))) else some (Step.next (((k+1:Nat):Int),(Me c l).2)):=by
      unfold C8.l1;simp only;rw [decide_eq_true (by omega),if_pos rfl,Ci hlt,Option.bind_some,hx,make1_f h hc,Option.bind_some]
      by_cases hm:(Me c l).1=0
      · rw [decide_eq_true hm,if_neg (show ¬ ((!true)=true) by decide),if_neg (fun hn=>hn hm),Ck (by omega) (by omega),Option.bind_some];rfl
      · rw [decide_eq_false hm,if_pos (by rfl),if_pos hm]
    rw [runF];by_cases hm:(Me c l).1≠0
    · rw [if_pos hm] at hs ⊢;rw [if_pos (by simpa using hm)]
      exact B1 hs
    · rw [if_neg hm] at hs ⊢;rw [B8 (s':=(((k+1:Nat):Int),(Me c l).2)) hs];exact ih (k+1) _ hr (makeF_ok h hc (by simpa using hm))
theorem run_fail:∀ (r:List TreeChange) (k:Nat) (l:List File),(runF k r l).2.Code≠0→(runF k r l).1=[]
  | [],k,l,h=>absurd rfl h
  | c::r,k,l,h=>by
    rw [runF] at h ⊢;by_cases hm:(Me c l).1≠0
    · rw [if_pos hm]
    · rw [if_neg hm] at h ⊢;exact run_fail r (k+1) _ h
theorem Apply_f (p:TreePatch) (t:FileTree):C8 p t=some (⟨(applyT p.Changes t.Files).1⟩,(applyT p.Changes t.Files).2):=by
  obtain ⟨p⟩:=p;obtain ⟨l⟩:=t;unfold C8 applyT;rw [VPatch_f,Option.bind_some];simp only;rcases pcF_ok p with h | h
  · have h0:(pcF p).Code=0:=by rw [h]
    obtain ⟨hpl,hp⟩:=(pcF_zero p).1 h0;rw [if_neg (by rw [h];decide),if_neg (fun hn=>hn h0),tsecond_f,Option.bind_some]
    simp only;by_cases ht:(Da l).Code=0
    · have hT:=(Gz l).1 ht;rw [if_pos ht,if_neg (by decide),if_neg (fun hn=>hn ht),copyT_f (fun f hf=>by have:=hT.text_len hf;omega) (by have:=hT.len;omega),Option.bind_some]
      have:=run_iter hp hpl p 0 l rfl hT;rw [show ((0:Nat):Int)=0 from rfl] at this;rw [this,Option.bind_some];by_cases hr:(runF 0 p l).2.Code≠0
      · rw [if_pos hr,run_fail _ _ _ hr]
      · rw [if_neg hr,(run_ok p 0 l hT hp (by simpa using hr)).2];rfl
    · rw [if_neg ht,if_pos (by simp [ht]),if_pos ht]
  · rw [if_pos (by simp [h]),if_pos h]
theorem tree_refl {l:List File} (h:∀ f∈l,f.Lines.length≤1000000) (hl:l.length≤1000000):Cm ⟨l⟩ ⟨l⟩=some true:=by
  unfold Cm;simp only;rw [if_neg (by simp),scan0 l (fun _ _=>(Option.none:Option Bool)) ?_ ?_,Option.bind_some]
  · have:Gt (fun _ _=>(Option.none:Option Bool)) 0 l=Option.none:=by rw [Mo];intro j hj;rfl
    rw [this];rfl
  · intro k hk _;unfold Cm.l1;simp only
    rw [decide_eq_true (by omega),if_pos rfl,Ci hk,Option.bind_some,Option.bind_some,decide_eq_true rfl,if_neg (show ¬ ((!true)=true) by decide),Option.bind_some,Option.bind_some,Qy _ _ (h _ (List.getElem_mem hk)),Option.bind_some,
      decide_eq_true rfl,Option.bind_some,if_neg (by decide),Ck (by omega) (by omega),Option.bind_some];rfl
  · unfold Cm.l1;rw [decide_eq_false (by simp),if_neg Bool.false_ne_true]
theorem tree_ok {l:List File} (h:TrOk l):Cm ⟨l⟩ ⟨l⟩=some true:=tree_refl (fun f hf=>by have:=h.text_len hf;omega) (by have:=h.len;omega)
theorem applyT_of {p:List TreeChange} {l:List File} (h1:p.length≤30) (h2:∀ c∈p,OkCh c) (h3:TrOk l):applyT p l=runF 0 p l:=by
  unfold applyT;rw [if_neg (by rw [(pcF_zero p).2 ⟨h1,h2⟩];simp),if_neg (by rw [(Gz l).2 h3];simp)]
abbrev rnC:TreeChange:=⟨3,⟨#[97]⟩,⟨#[98]⟩,[],⟨[]⟩⟩
theorem rnC_ok:OkCh rnC:=chF_ok.1 (by decide +kernel)
theorem one_ok {p:ByteArray} {L:List ByteArray} (h1:D0 p=true) (h2:Em L):TrOk [⟨p,L⟩] :=
  ⟨by simp,List.pairwise_singleton _ _,by simpa using h1,List.pairwise_singleton _ _,by simpa using h2⟩
theorem x_text:Em [(⟨#[120]⟩:ByteArray)]:=(Ha _).2 ((D8 _).2 (by decide +kernel))
theorem one_a:TrOk [⟨⟨#[97]⟩,[⟨#[120]⟩]⟩]:=one_ok (by decide +kernel) x_text
theorem one_b:TrOk [⟨⟨#[98]⟩,[⟨#[120]⟩]⟩]:=one_ok (by decide +kernel) x_text
theorem rn_make:Me rnC [⟨⟨#[97]⟩,[⟨#[120]⟩]⟩]=(0,[⟨⟨#[98]⟩,[⟨#[120]⟩]⟩]):=by
  have hp:Eb [(⟨⟨#[97]⟩,[⟨#[120]⟩]⟩:File)] ⟨#[97]⟩=0:=by
    unfold Eb;rw [List.takeWhile_cons,Od];rfl
  have hh:Lc [(⟨⟨#[97]⟩,[⟨#[120]⟩]⟩:File)] ⟨#[97]⟩=true:=by simp [Lc]
  unfold Me;simp only [hp,hh];rfl
theorem renamed_f:De=some true:=by
  unfold De;have h1:Hj rnC=some ⟨[rnC]⟩:=rfl;have h2:∀ p L,He p L=some ⟨[⟨p,L⟩]⟩:=fun _ _=>rfl
  have e:applyT [rnC] [⟨⟨#[97]⟩,[⟨#[120]⟩]⟩]=([⟨⟨#[98]⟩,[⟨#[120]⟩]⟩],⟨0,0⟩):=by
    rw [applyT_of (by simp) (by intro c hc;rw [List.mem_singleton] at hc;subst hc;exact rnC_ok) one_a,runF,rn_make];rfl
  have v1:D0 (⟨#[97,47,98,46,103,111]⟩:ByteArray)=true:=by decide +kernel
  have v2:D0 (⟨#[47,97]⟩:ByteArray)=false:=by decide +kernel
  rw [show (⟨3,⟨#[97]⟩,⟨#[98]⟩,[],⟨[]⟩⟩:TreeChange)=rnC from rfl,h1,Option.bind_some,h2,Option.bind_some,Apply_f,Option.bind_some];simp only;rw [e];simp only;rw [if_pos (by simp),h2,Option.bind_some,tree_ok one_b,Option.bind_some,if_pos rfl,Og,v1,Option.bind_some,if_pos rfl,Og,v2,Option.bind_some];rfl
theorem mem_has {l:List File} (h:TSrt l) {P:ByteArray} {L:List ByteArray} (hm:(⟨P,L⟩:File)∈l):∃ hp:Eb l P < l.length,Lc l P=true∧l[Eb l P]=⟨P,L⟩:=by
  obtain ⟨i,hi,e⟩:=List.getElem_of_mem hm;have:=pos_of h hi;rw [e] at this;simp only at this;refine ⟨by omega,this.2,?_⟩
  rw [← e];congr 1;exact this.1
end Go.Dc
