import Derived.Test.YtmhjcomgbfonfaaGreatDoorDcNB
import Derived.Test.YtmhjcomgbfonfaaGreatDoorDcRS
set_option linter.unusedSimpArgs false
set_option linter.unusedVariables false
set_option maxRecDepth 4000
namespace Go.Dc
open Go
theorem end_f (h:Hunk) (h0 : -1000000≤h.At) (h1:h.At≤1000000) (h2:h.Old.length≤1000000):Gm h=some (h.At+h.Old.length):=by
  unfold Gm;rw [Ck (by omega) (by omega)];rfl
def hcode (h:Hunk) (e:Int):Int :=
  if h.At < 0∨h.At > 120 then 3 else if (Bo h.Old).Code≠0 then (Bo h.Old).Code else if (Bo h.New).Code≠0 then (Bo h.New).Code else
  if h.Old.length+h.New.length=0∨h.At≤e then 5 else if h.At+h.Old.length > 120 then 3 else 0
theorem Gl {l:List ByteArray} (h:(Bo l).Code=0):l.length≤120:=((Ga l).2 ((Dr l).2 h)).1
theorem hunk_f (h:Hunk) (e:Int):Cz h e=some (hcode h e):=by
  unfold Cz hcode;by_cases ha:h.At < 0∨h.At > 120
  · rw [if_pos ha]
    have:(if decide (h.At < 0)=true then some true else some (decide (h.At > 120)))=some true:=by
      rw [Bg];by_cases h0:h.At < 0
      · rw [if_pos h0]
      · rw [if_neg h0,decide_eq_true (by omega)]
    rw [this,Option.bind_some,if_pos rfl]
  · rw [if_neg ha]
    have:(if decide (h.At < 0)=true then some true else some (decide (h.At > 120)))=some false:=by
      rw [Bg,if_neg (by omega),decide_eq_false (by omega)]
    rw [this,Option.bind_some,if_neg (by decide)]
    have l0:Cz.l1 h 0=if (Bo h.Old).Code≠0 then some (.done (.inl (Bo h.Old).Code)) else some (.next 1):=by
      unfold Cz.l1;rw [Bg,if_pos (by decide),show at? ([h.Old,h.New]:List (List ByteArray)) 0=some h.Old from rfl,Option.bind_some,Mp,Option.bind_some]
      rcases H7 h.Old with h1 | h1
      · rw [h1,if_neg (by decide),if_neg (by decide),Ck (by omega) (by omega)];rfl
      · rw [if_pos h1,if_pos (K0.2 fun h2=>h1 h2.1)]
    have l1:Cz.l1 h 1=if (Bo h.New).Code≠0 then some (.done (.inl (Bo h.New).Code)) else some (.next 2):=by
      unfold Cz.l1;rw [Bg,if_pos (by decide),show at? ([h.Old,h.New]:List (List ByteArray)) 1=some h.New from rfl,Option.bind_some,Mp,Option.bind_some]
      rcases H7 h.New with h1 | h1
      · rw [h1,if_neg (by decide),if_neg (by decide),Ck (by omega) (by omega)];rfl
      · rw [if_pos h1,if_pos (K0.2 fun h2=>h1 h2.1)]
    have l2:Cz.l1 h 2=some (.done (.inr ())):=by
      unfold Cz.l1;rw [Bg,if_neg (by decide)]
    by_cases ho:(Bo h.Old).Code≠0
    · rw [if_pos ho] at l0 ⊢;rw [Br l0,Option.bind_some]
    · rw [if_neg ho] at l0 ⊢;by_cases hw:(Bo h.New).Code≠0
      · rw [if_pos hw] at l1 ⊢;rw [Cd l0,Br l1,Option.bind_some]
      · rw [if_neg hw] at l1 ⊢;rw [Cd l0,Cd l1,Br l2,Option.bind_some];have s1:=Gl (l:=h.Old) (by omega)
        have s2:=Gl (l:=h.New) (by omega)
        simp only;unfold Cz.j1;rw [Ck (by omega) (by omega),Option.bind_some]
        by_cases hm:h.Old.length+h.New.length=0∨h.At≤e
        · rw [if_pos hm]
          have:(if decide ((h.Old.length:Int)+(h.New.length:Int)=0)=true then some true else some (decide (h.At≤e)))=some true:=by
            rw [Bg];by_cases h0:(h.Old.length:Int)+(h.New.length:Int)=0
            · rw [if_pos h0]
            · rw [if_neg h0,decide_eq_true (by omega)]
          rw [this,Option.bind_some,if_pos rfl]
        · rw [if_neg hm]
          have:(if decide ((h.Old.length:Int)+(h.New.length:Int)=0)=true then some true else some (decide (h.At≤e)))=some false:=by
            rw [Bg,if_neg (by omega),decide_eq_false (by omega)]
          rw [this,Option.bind_some,if_neg (by decide),end_f h (by omega) (by omega) (by omega),Option.bind_some,Bg]
          split <;> rfl
theorem hcode_zero {h:Hunk} {e:Int} (hc:hcode h e=0):0≤h.At∧(Bo h.Old).Code=0∧(Bo h.New).Code=0∧0 < h.Old.length+h.New.length∧e < h.At∧h.At+h.Old.length≤120:=by
  unfold hcode at hc;split at hc
  · cases hc
  · split at hc
    · rename_i h1 h2;exact absurd hc h2
    · split at hc
      · rename_i h1 h2 h3;exact absurd hc h3
      · split at hc
        · cases hc
        · split at hc
          · cases hc
          · omega
def pscan:Int→Int→List Hunk→Option Fault
  | _,_,[]=>Option.none
  | i,e,h::r=>if hcode h e=0 then pscan (i+1) (h.At+h.Old.length) r else some ⟨hcode h e,i⟩
def Ew (p:Patch):Fault:=if p.Hunks.length > 130 then ⟨2,-1⟩ else (pscan 0 (-1) p.Hunks).getD ⟨0,0⟩
theorem pscan_code:∀ (l:List Hunk) (i e:Int) (f:Fault),pscan i e l=some f→f.Code≠0
  | [],_,_,_,h=>by cases h
  | x::r,i,e,f,h=>by
    rw [pscan] at h;split at h
    · exact pscan_code r _ _ f h
    · rename_i h0;cases h;exact h0
theorem patchFault_ok (p:Patch):Ew p=⟨0,0⟩∨(Ew p).Code≠0:=by
  unfold Ew;split
  · right;show (2:Int)≠0;decide
  · cases h:pscan 0 (-1) p.Hunks with
    | none=>left;rfl
    | some f=>right;exact pscan_code _ _ _ f h
theorem patchFault_zero (p:Patch):Ew p=⟨0,0⟩↔(Ew p).Code=0:=by
  rcases patchFault_ok p with h | h
  · rw [h];exact ⟨fun _=>rfl,fun _=>rfl⟩
  · exact ⟨fun h2=>by rw [h2],fun h2=>absurd h2 h⟩
theorem pvalidate_f (p:Patch):Cc p=some (Ew p):=by
  unfold Cc Ew;rw [Bg];by_cases h130:p.Hunks.length > 130
  · rw [if_pos (by omega),if_pos h130]
  · rw [if_neg (by omega),if_neg h130]
    have key:∀ (rest:List Hunk) (k:Nat) (e:Int),p.Hunks.drop k=rest→Dl (fun s=>Cc.l1 p s.1 s.2) ((k:Int),e)=some (orL (pscan k e rest)):=by
      intro rest
      induction rest with
      | nil =>
        intro k e hk;have:=Hi hk;refine Br ?_;unfold Cc.l1;rw [Bg,if_neg (by omega)];rfl
      | cons h r ih =>
        intro k e hk;obtain ⟨hlt,hh,hr⟩:=Hr hk;rw [pscan];by_cases hc:hcode h e=0
        · obtain ⟨z1,z2,z3,z4,z5,z6⟩:=hcode_zero hc
          have e0:Cc.l1 p (k:Int) e=some (.next (((k+1:Nat):Int),h.At+h.Old.length)):=by
            unfold Cc.l1;rw [Bg,if_pos (by omega),C1 hlt,Option.bind_some,hh,hunk_f,Option.bind_some,hc,Kh,if_pos rfl,end_f h (by omega) (by omega) (by omega),Option.bind_some,Ck (by omega) (by omega),Option.bind_some];rfl
          rw [if_pos hc,Cd e0];exact ih (k+1) _ hr
        · rw [if_neg hc];refine Br ?_;unfold Cc.l1;rw [Bg,if_pos (by omega),C1 hlt,Option.bind_some,hh,hunk_f,Option.bind_some,Kh,if_neg hc];rfl
    rw [show (0:Int)=((0:Nat):Int) from rfl,key p.Hunks 0 _ rfl,Option.bind_some];cases pscan ((0:Nat):Int) (-1) p.Hunks <;> rfl
def Good:Int→List Hunk→Prop
  | _,[]=>True
  | e,h::r=>hcode h e=0∧Good (h.At+h.Old.length) r
theorem pscan_good:∀ (l:List Hunk) (i e:Int),pscan i e l=Option.none↔Good e l
  | [],_,_=>by simp [pscan,Good]
  | h::r,i,e=>by
    rw [pscan,Good];by_cases hc:hcode h e=0
    · rw [if_pos hc,pscan_good r];simp [hc]
    · rw [if_neg hc];simp [hc]
theorem Nb (p:Patch):(Ew p).Code=0↔p.Hunks.length≤130∧Good (-1) p.Hunks:=by
  rw [← patchFault_zero,← pscan_good p.Hunks 0 (-1)];unfold Ew;by_cases h:p.Hunks.length > 130
  · rw [if_pos h];constructor
    · intro h2;cases h2
    · intro h2;omega
  · rw [if_neg h];cases hs:pscan 0 (-1) p.Hunks with
    | none=>simp;omega
    | some f =>
      have:=pscan_code _ _ _ f hs;constructor
      · intro h2;simp at h2;rw [h2] at this;exact absurd rfl this
      · intro h2;cases h2.2
def occ (text part:List ByteArray) (k:Nat):Prop:=k≤text.length∧(text.drop k).take part.length=part
instance (text part:List ByteArray) (k:Nat):Decidable (occ text part k):=by unfold occ;infer_instance
theorem occ_len {text part:List ByteArray} {k:Nat} (h:occ text part k):k+part.length≤text.length:=by
  have h1:=congrArg List.length h.2;simp at h1;have:=h.1;omega
theorem sequal_f (a b:List ByteArray) (hb:a.length≤1000000):Da a b=some (decide (a=b)):=by
  unfold Da;rw [Kh];by_cases hl:a.length=b.length
  · rw [if_pos (by omega)]
    have key:∀ (rest:List ByteArray) (k:Nat),a.drop k=rest→a.take k=b.take k→Dl (fun s=>Da.l1 a b s) (k:Int)=some (if a=b then .inr () else .inl false):=by
      intro rest
      induction rest with
      | nil =>
        intro k hk ht;have:=Hi hk;rw [List.take_of_length_le (by omega),List.take_of_length_le (by omega)] at ht
        rw [if_pos ht];refine Br ?_;unfold Da.l1;rw [Bg,if_neg (by omega)]
      | cons x r ih =>
        intro k hk ht;obtain ⟨hlt,hx,hr⟩:=Hr hk;have hlt2:k < b.length:=by omega
        by_cases he:x=b[k]
        · have e0:Da.l1 a b (k:Int)=some (.next ((k+1:Nat):Int)):=by
            unfold Da.l1;rw [Bg,if_pos (by omega),C1 hlt,Option.bind_some,hx,C1 hlt2,Option.bind_some,Kh,if_pos he,Ck (by omega) (by omega),Option.bind_some];rfl
          rw [Cd e0];exact ih (k+1) hr (by rw [List.take_succ_eq_append_getElem hlt,List.take_succ_eq_append_getElem hlt2,ht,hx,he])
        · rw [if_neg (fun e=>he (by rw [← hx];simp only [e]))]
          refine Br ?_;unfold Da.l1;rw [Bg,if_pos (by omega),C1 hlt,Option.bind_some,hx,C1 hlt2,Option.bind_some,Kh,if_neg he]
    rw [show (0:Int)=((0:Nat):Int) from rfl,key a 0 rfl rfl,Option.bind_some];by_cases h:a=b
    · rw [if_pos h,decide_eq_true h];rfl
    · rw [if_neg h,decide_eq_false h]
  · rw [if_neg (by omega),decide_eq_false (fun e=>hl (by rw [e]))]
theorem occurs_f (text part:List ByteArray) (i:Int) (h1:text.length≤1000000) (h2:part.length≤1000000):K2 text part i=some (decide (0≤i∧occ text part i.toNat)):=by
  unfold K2;by_cases hi:0≤i∧i≤text.length
  · have e1:(if decide (i ≥ 0)=true then some (decide (i≤(text.length:Int))) else some false)=some true:=by
      rw [Bg,if_pos hi.1,decide_eq_true hi.2]
    rw [e1,Option.bind_some,if_pos rfl,Ck (by omega) (by omega),Option.bind_some,Option.bind_some,Bg]
    by_cases hp:(part.length:Int)≤text.length - i
    · rw [if_pos hp,Ck (by omega) (by omega),Option.bind_some,Oi (by omega) (by omega) (by omega),Option.bind_some,sequal_f _ _ (by simp;omega),Option.bind_some,Option.bind_some]
      congr 1
      have:(text.take (i+(part.length:Int)).toNat).drop i.toNat=(text.drop i.toNat).take part.length:=by
        rw [List.take_drop];congr 2;omega
      rw [this];rw [decide_eq_decide];unfold occ;constructor
      · intro h;exact ⟨by omega,by omega,h⟩
      · intro h;exact h.2.2
    · rw [if_neg hp,Option.bind_some];congr 1;rw [eq_comm,decide_eq_false_iff_not];rintro ⟨_,h⟩;have:=occ_len h;omega
  · have e1:(if decide (i ≥ 0)=true then some (decide (i≤(text.length:Int))) else some false)=some false:=by
      rw [Bg];by_cases h0:i ≥ 0
      · rw [if_pos h0,decide_eq_false (by omega)]
      · rw [if_neg h0]
    rw [e1];simp only [Option.bind_some,Bool.false_eq_true,if_false];congr 1;rw [eq_comm,decide_eq_false_iff_not];rintro ⟨h0,h⟩;exact hi ⟨h0,by have:=h.1;omega⟩
def M5:List Hunk→List ByteArray→Nat→List ByteArray
  | [],text,low=>text.drop low
  | h::r,text,low=>(text.drop low).take (h.At.toNat - low)++(h.New++M5 r text (h.At.toNat+h.Old.length))
def Fits (text:List ByteArray) (l:List Hunk):Prop:=∀ h∈l,occ text h.Old h.At.toNat
theorem raw_f (text:List ByteArray) (ht:text.length≤120) (hs:List Hunk) (hn:hs.length≤130):∀ (rest:List Hunk) (k low:Nat) (out:List ByteArray) (e:Int),hs.drop k=rest→Good e rest→Fits text rest→(low:Int)≤e+1→low≤text.length→out.length≤k * 240→k≤130 →
    ∃ fin:Nat,fin≤text.length∧∃ o,Dl (fun s=>Ca.l1 hs text s.1 s.2.1 s.2.2) ((k:Int),out,(low:Int))=some (o,(fin:Int))∧o++text.drop fin=out++M5 rest text low∧o.length≤131 * 240:=by
  intro rest
  induction rest with
  | nil =>
    intro k low out e hk _ _ _ hlow hout hk130;have:=Hi hk;refine ⟨low,hlow,out,Br ?_,rfl,?_⟩
    · unfold Ca.l1;rw [Bg,if_neg (by omega)]
    · have:k * 240≤130 * 240:=Nat.mul_le_mul_right _ hk130;omega
  | cons h r ih =>
    intro k low out e hk hg hf hle hlow hout hk130;obtain ⟨hlt,hh,hr⟩:=Hr hk;obtain ⟨hc,hg'⟩:=hg;obtain ⟨z1,z2,z3,z4,z5,z6⟩:=hcode_zero hc;have ho:=occ_len (hf h (by simp))
    have l2:=Gl z3;have hka:k < 130:=by omega
    have hlo:low≤h.At.toNat:=by omega
    have e0:Ca.l1 hs text (k:Int) out (low:Int)=some (.next (((k+1:Nat):Int),out++(text.drop low).take (h.At.toNat - low)++h.New,((h.At.toNat+h.Old.length:Nat):Int))):=by
      unfold Ca.l1
      have hcut:(text.take h.At.toNat).drop (low:Int).toNat=(text.drop low).take (h.At.toNat - low):=by
        rw [Int.toNat_natCast,List.drop_take]
      rw [Bg,if_pos (by omega),C1 hlt,Option.bind_some,hh,Oi (by omega) (by omega) (by omega),Option.bind_some,hcut,
        Es (by simp;omega),Option.bind_some,Es (by simp;omega),Option.bind_some,end_f h (by omega) (by omega) (by omega),Option.bind_some,Ck (by omega) (by omega),Option.bind_some,
        show h.At+(h.Old.length:Int)=((h.At.toNat+h.Old.length:Nat):Int) by omega]
      rfl
    rw [Cd e0];obtain ⟨fin,f1,o,f2,f3,f4⟩:=ih (k+1) (h.At.toNat+h.Old.length) (out++(text.drop low).take (h.At.toNat - low)++h.New) (h.At+h.Old.length) hr hg' (fun q hq=>hf q (List.mem_cons_of_mem _ hq)) (by omega) (by omega) (by simp;omega) (by omega)
    refine ⟨fin,f1,o,f2,?_,f4⟩;rw [f3,M5];simp only [List.append_assoc]
theorem Raw_f {text:List ByteArray} (ht:text.length≤120) {hs:List Hunk} (hn:hs.length≤130) (hg:Good (-1) hs) (hf:Fits text hs):Ca hs text 0 (text.length:Int)=some (M5 hs text 0):=by
  obtain ⟨fin,f1,o,f2,f3,f4⟩:=raw_f text ht hs hn hs 0 0 [] (-1) rfl hg hf (by omega) (Nat.zero_le _) (by simp) (by omega)
  unfold Ca;rw [show ((0:Nat):Int)=0 from rfl] at f2;rw [f2,Option.bind_some];unfold Ca.j1;rw [Oi (by omega) (by omega) (by omega),Option.bind_some,Int.toNat_natCast,Int.toNat_natCast,List.take_length,Es (by simp;omega),Option.bind_some,f3]
  rfl
def oscan (text:List ByteArray):Int→List Hunk→Option Fault
  | _,[]=>Option.none
  | i,h::r=>if occ text h.Old h.At.toNat then oscan text (i+1) r else some ⟨19,i⟩
theorem oscan_fits (text:List ByteArray):∀ (l:List Hunk) (i:Int),oscan text i l=Option.none↔Fits text l
  | [],_=>by simp [oscan,Fits]
  | h::r,i=>by
    rw [oscan];by_cases hc:occ text h.Old h.At.toNat
    · rw [if_pos hc,oscan_fits text r];simp [Fits,hc]
    · rw [if_neg hc];simp [Fits,hc]
theorem oscan_code (text:List ByteArray):∀ (l:List Hunk) (i:Int) (f:Fault),oscan text i l=some f→f.Code=19
  | [],_,_,h=>by cases h
  | x::r,i,f,h=>by
    rw [oscan] at h;split at h
    · exact oscan_code text r _ f h
    · cases h;rfl
def Gp (p:Patch) (text:List ByteArray):List ByteArray×Fault :=
  if (Ew p).Code≠0 then ([],Ew p) else if (Bo text).Code≠0 then ([],⟨(Bo text).Code,-2⟩) else
  match oscan text 0 p.Hunks with
  | some f=>([],f)
  | Option.none=>if (M5 p.Hunks text 0).length > 120 then ([],⟨10,-1⟩) else (M5 p.Hunks text 0,⟨0,0⟩)
theorem good_at:∀ {l:List Hunk} {e:Int},Good e l → -1≤e→∀ h∈l,0≤h.At∧h.At+h.Old.length≤120∧(Bo h.Old).Code=0∧(Bo h.New).Code=0∧0 < h.Old.length+h.New.length
  | x::r,e,hg,he,h,hm=>by
    obtain ⟨hc,hg'⟩:=hg;obtain ⟨z1,z2,z3,z4,z5,z6⟩:=hcode_zero hc;rcases List.mem_cons.1 hm with rfl | hm
    · exact ⟨z1,z6,z2,z3,z4⟩
    · exact good_at hg' (by omega) h hm
theorem apply_f (p:Patch) (text:List ByteArray):Co p text=some (Gp p text):=by
  unfold Co Gp;rw [pvalidate_f,Option.bind_some];rcases patchFault_ok p with hp | hp
  · rw [hp];simp only [ne_eq,not_true,if_false];rw [if_neg (by simp),second_f,Option.bind_some]
    rcases H7 text with ht | ht
    · rw [ht];simp only [ne_eq,not_true,if_false,if_true];rw [if_neg (by simp)]
      obtain ⟨hn,hg⟩:=(Nb p).1 ((patchFault_zero p).1 hp);have hl:=Gl ((Dr text).1 ht)
      have key:∀ (rest:List Hunk) (k:Nat),p.Hunks.drop k=rest→(∀ h∈rest,0≤h.At∧h.Old.length≤120)→Dl (fun s=>Co.l1 p text s) (k:Int)=some (orL ((oscan text k rest).map fun f=>(([]:List ByteArray),f))):=by
        intro rest
        induction rest with
        | nil =>
          intro k hk _;have:=Hi hk;refine Br ?_;unfold Co.l1;rw [Bg,if_neg (by omega)];rfl
        | cons h r ih =>
          intro k hk hall;obtain ⟨hlt,hh,hr⟩:=Hr hk;obtain ⟨h0,h1⟩:=hall h (by simp)
          rw [oscan]
          have eo:K2 text h.Old h.At=some (decide (occ text h.Old h.At.toNat)):=by
            rw [occurs_f _ _ _ (by omega) (by omega)];simp [h0]
          by_cases hc:occ text h.Old h.At.toNat
          · have e0:Co.l1 p text (k:Int)=some (.next ((k+1:Nat):Int)):=by
              unfold Co.l1;rw [Bg,if_pos (by omega),C1 hlt,Option.bind_some,hh,eo,Option.bind_some,decide_eq_true hc,if_neg (by decide),Ck (by omega) (by omega),Option.bind_some];rfl
            rw [if_pos hc,Cd e0];exact ih (k+1) hr (fun q hq=>hall q (List.mem_cons_of_mem _ hq))
          · rw [if_neg hc];refine Br ?_;unfold Co.l1;rw [Bg,if_pos (by omega),C1 hlt,Option.bind_some,hh,eo,Option.bind_some,decide_eq_false hc,if_pos (by decide)];rfl
      rw [show (0:Int)=((0:Nat):Int) from rfl,key p.Hunks 0 rfl (fun h hm=>by
        obtain ⟨z1,_,z2,_⟩:=good_at hg (by omega) h hm
        exact ⟨z1,Gl z2⟩),Option.bind_some,show (((0:Nat):Int))=0 from rfl]
      cases ho:oscan text 0 p.Hunks with
      | some f=>rfl
      | none =>
        have hf:=(oscan_fits text p.Hunks 0).1 ho;simp only [Option.map_none,orL];unfold Co.j1;rw [Raw_f hl hn hg hf,Option.bind_some,Bg];by_cases h120:(M5 p.Hunks text 0).length > 120
        · rw [if_pos (by omega),if_pos h120]
        · rw [if_neg (by omega),if_neg h120]
    · simp only [ne_eq,ht,not_false_iff,if_true,if_false];rw [if_pos (by simp)]
  · simp only [ne_eq,hp,not_false_iff,if_true];rw [if_pos (by simp [hp])]
theorem applyF_ok {p:Patch} {text:List ByteArray} (h:(Gp p text).2.Code=0):p.Hunks.length≤130∧Good (-1) p.Hunks∧C8 text∧Fits text p.Hunks∧(M5 p.Hunks text 0).length≤120∧Gp p text=(M5 p.Hunks text 0,⟨0,0⟩):=by
  unfold Gp at h ⊢;by_cases hp:(Ew p).Code≠0
  · rw [if_pos hp] at h;exact absurd h hp
  · rw [if_neg hp] at h ⊢;by_cases ht:(Bo text).Code≠0
    · rw [if_pos ht] at h;exact absurd h ht
    · rw [if_neg ht] at h ⊢;cases ho:oscan text 0 p.Hunks with
      | some f =>
        rw [ho] at h;have:=oscan_code text _ _ _ ho;simp only at h;rw [this] at h;cases h
      | none =>
        rw [ho] at h;simp only at h ⊢;by_cases h120:(M5 p.Hunks text 0).length > 120
        · rw [if_pos h120] at h;cases h
        · rw [if_neg h120];obtain ⟨a1,a2⟩:=(Nb p).1 (by omega)
          exact ⟨a1,a2,(Ga _).2 ((Dr _).2 (by omega)),(oscan_fits _ _ _).1 ho,by omega,rfl⟩
def gr (h:Hunk):Int:=(h.New.length:Int) - h.Old.length
def rng (h:Hunk):Range_commute:=⟨h.At,h.At+h.Old.length,gr h⟩
def newR:Int→List Hunk→List Range_commute
  | _,[]=>[]
  | s,h::r=>⟨h.At+s,h.At+s+h.New.length,gr h⟩::newR (s+gr h) r
def tch (a b:Range_commute):Bool:=decide (a.High ≥ b.Low) && decide (b.High ≥ a.Low)
def SmH (B:Int) (h:Hunk):Prop:=-B≤h.At∧h.At≤B∧h.Old.length≤120∧h.New.length≤120
def Sm (B:Int) (l:List Hunk):Prop:=l.length≤130∧∀ h∈l,SmH B h
theorem sm_of {p:Patch} (h:(Ew p).Code=0):Sm 120 p.Hunks:=by
  obtain ⟨h1,h2⟩:=(Nb p).1 h;refine ⟨h1,fun x hx=>?_⟩;obtain ⟨a1,a2,a3,a4,_⟩:=good_at h2 (by omega) x hx
  exact ⟨by omega,by omega,Gl a3,Gl a4⟩
theorem growth_f (h:Hunk) (h1:h.Old.length≤120) (h2:h.New.length≤120):Hw h=some (gr h):=by
  unfold Hw;rw [Ck (by omega) (by omega)];rfl
theorem oldRanges_f {B:Int} (hB:B≤20000) (p:Patch) (hp:Sm B p.Hunks):Cm p=some (p.Hunks.map rng):=by
  obtain ⟨hl,hs⟩:=hp
  have key:∀ (rest:List Hunk) (k:Nat) (out:List Range_commute),p.Hunks.drop k=rest→out.length=k→Dl (fun s=>Cm.l1 p s.1 s.2) ((k:Int),out)=some (out++rest.map rng):=by
    intro rest
    induction rest with
    | nil =>
      intro k out hk _;have:=Hi hk;refine Br ?_;simp only;unfold Cm.l1;rw [Bg,if_neg (by omega),List.map_nil,List.append_nil]
    | cons h r ih =>
      intro k out hk h3;obtain ⟨hlt,hh,hr⟩:=Hr hk;obtain ⟨b1,b2,b3,b4⟩:=hs h (hh ▸ List.getElem_mem hlt)
      have e0:Cm.l1 p (k:Int) out=some (.next (((k+1:Nat):Int),out++[rng h])):=by
        unfold Cm.l1
        rw [Bg,if_pos (by omega),C1 hlt,Option.bind_some,hh,end_f h (by omega) (by omega) (by omega),Option.bind_some,growth_f h b3 b4,Option.bind_some,
          Es (by simp only [List.length_singleton];omega),Option.bind_some,Ck (by omega) (by omega),Option.bind_some]
        rfl
      rw [Cd e0,ih (k+1) _ hr (by simp;omega),List.map_cons,List.append_assoc]
      rfl
  unfold Cm;rw [show (0:Int)=((0:Nat):Int) from rfl,key p.Hunks 0 [] rfl rfl,Option.bind_some];rfl
theorem clone_f (l:List ByteArray) (h:l.length≤1000000):Gj l=some l:=by
  unfold Gj
  have e:((app? 16 ([]:List ByteArray) l).bind fun y1=>some y1)=some l:=by
    rw [Es (by simp only [List.length_nil];omega)];rfl
  rw [e,nilIf_same (fun h=>by rw [h])]
theorem copy_f {B:Int} (p:Patch) (hp:Sm B p.Hunks):De p=some p:=by
  obtain ⟨hl,hs⟩:=hp
  have key:∀ (rest:List Hunk) (k:Nat) (out:List Hunk),p.Hunks.drop k=rest→out.length=k→Dl (fun s=>De.l1 p s.1 s.2) ((k:Int),out)=some (out++rest):=by
    intro rest
    induction rest with
    | nil =>
      intro k out hk _;have:=Hi hk;refine Br ?_;simp only;unfold De.l1;rw [Bg,if_neg (by omega),List.append_nil]
    | cons h r ih =>
      intro k out hk h3;obtain ⟨hlt,hh,hr⟩:=Hr hk;obtain ⟨b1,b2,b3,b4⟩:=hs h (hh ▸ List.getElem_mem hlt)
      have e0:De.l1 p (k:Int) out=some (.next (((k+1:Nat):Int),out++[h])):=by
        unfold De.l1
        rw [Bg,if_pos (by omega),C1 hlt,Option.bind_some,hh,clone_f _ (by omega),Option.bind_some,clone_f _ (by omega),Option.bind_some,
          Es (by simp only [List.length_singleton];omega),Option.bind_some,Ck (by omega) (by omega),Option.bind_some]
        rfl
      rw [Cd e0,ih (k+1) _ hr (by simp;omega),List.append_assoc]
      rfl
  unfold De;rw [show (0:Int)=((0:Nat):Int) from rfl,key p.Hunks 0 [] rfl rfl,Option.bind_some];rfl
theorem fless {f:Fault} (h:f=⟨0,0⟩∨f.Code≠0):(!(decide (f.Code=0) && decide (f.Index=0)))=decide (f.Code≠0):=by
  rcases h with h | h
  · rw [h];rfl
  · simp [h]
theorem patch_refl {B:Int} (p:Patch) (hp:Sm B p.Hunks):B4 p p=some true:=by
  obtain ⟨hl,hs⟩:=hp;unfold B4;rw [Kh,if_pos rfl]
  have key:∀ (rest:List Hunk) (k:Nat),p.Hunks.drop k=rest→Dl (fun s=>B4.l1 p p s) (k:Int)=some (.inr ()):=by
    intro rest
    induction rest with
    | nil =>
      intro k hk;have:=Hi hk;refine Br ?_;unfold B4.l1;rw [Bg,if_neg (by omega)]
    | cons h r ih =>
      intro k hk;obtain ⟨hlt,hh,hr⟩:=Hr hk;obtain ⟨b1,b2,b3,b4⟩:=hs h (hh ▸ List.getElem_mem hlt)
      have e0:B4.l1 p p (k:Int)=some (.next ((k+1:Nat):Int)):=by
        unfold B4.l1;rw [Bg,if_pos (by omega)]
        simp only [C1 hlt,Option.bind_some,hh,O7 h.Old h.Old (by omega),O7 h.New h.New (by omega),decide_true,Bool.not_true,Bool.false_eq_true,if_false]
        rw [Ck (by omega) (by omega)];rfl
      rw [Cd e0,ih (k+1) hr]
  rw [show (0:Int)=((0:Nat):Int) from rfl,key p.Hunks 0 rfl];rfl
structure Pc where
  k:Bool
  g:Int
  o:List ByteArray
  n:List ByteArray
def sel (t u:Bool):Int→List Pc→List Hunk
  | _,[]=>[]
  | e,c::r=>if c.k=t then ⟨e+c.g,c.o,c.n⟩::sel t u (e+c.g+c.o.length) r else sel t u (e+c.g+(if u=true then (c.n.length:Int) else c.o.length)) r
theorem sel_s {t u:Bool} {c:Pc} {r:List Pc} {e:Int} (h:c.k=t):sel t u e (c::r)=⟨e+c.g,c.o,c.n⟩::sel t u (e+c.g+c.o.length) r:=by rw [sel,if_pos h]
theorem sel_o {t:Bool} {c:Pc} {r:List Pc} {e:Int} (h:¬ c.k=t):sel t false e (c::r)=sel t false (e+c.g+c.o.length) r:=by rw [sel,if_neg h,if_neg (by decide)]
theorem sel_n {t:Bool} {c:Pc} {r:List Pc} {e:Int} (h:¬ c.k=t):sel t true e (c::r)=sel t true (e+c.g+c.n.length) r:=by rw [sel,if_neg h,if_pos rfl]
def Val (m:List Pc):Prop:=∀ c∈m,1≤c.g
theorem val_nil:Val []:=fun _ hc=>by cases hc
def Srt:Int→List Hunk→Prop
  | _,[]=>True
  | e,h::r=>e < h.At∧Srt (h.At+h.Old.length) r
def NoT (a b:List Range_commute):Prop:=∀ x∈a,∀ y∈b,tch x y=false
theorem lt_of_tch {a b:Range_commute} (h:tch a b=false):a.High < b.Low∨b.High < a.Low:=by
  unfold tch at h;by_cases h1:a.High ≥ b.Low
  · by_cases h2:b.High ≥ a.Low
    · rw [decide_eq_true h1,decide_eq_true h2] at h;cases h
    · right;omega
  · left;omega
theorem pieces:∀ (N:Nat) (pl ql:List Hunk) (e s:Int),pl.length+ql.length≤N→Srt e pl→Srt (e+s) ql→NoT (newR s pl) (ql.map rng)→∃ m,Val m∧pl=sel true false e m∧ql=sel false true (e+s) m:=by
  intro N
  induction N with
  | zero =>
    intro pl ql e s hN _ _ _;have h1:pl=[]:=List.eq_nil_of_length_eq_zero (by omega)
    have h2:ql=[]:=List.eq_nil_of_length_eq_zero (by omega)
    exact ⟨[],val_nil,h1,h2⟩
  | succ N ih =>
    intro pl ql e s hN hp hq hno
    have takeP:∀ (h:Hunk) (pr:List Hunk),pl=h::pr→Srt (h.At+h.Old.length+(s+gr h)) ql→∃ m,Val m∧pl=sel true false e m∧ql=sel false true (e+s) m:=by
      intro h pr hpl hq';subst hpl;obtain ⟨m,m1,m2,m3⟩:=ih pr ql (h.At+h.Old.length) (s+gr h) (by simp at hN;omega) hp.2 hq' (fun x hx y hy=>hno x (by rw [newR];exact List.mem_cons_of_mem _ hx) y hy)
      refine ⟨⟨true,h.At - e,h.Old,h.New⟩::m,?_,?_,?_⟩
      · intro c hc;rcases List.mem_cons.1 hc with rfl | hc
        · have:=hp.1;simp only;omega
        · exact m1 c hc
      · rw [sel_s (c:=⟨true,h.At - e,h.Old,h.New⟩) rfl];simp only;rw [show e+(h.At - e)=h.At by omega,← m2]
      · rw [sel_n (by simp)]
        simp only;rw [show e+s+(h.At - e)+(h.New.length:Int)=h.At+h.Old.length+(s+gr h) by unfold gr;omega]
        exact m3
    have takeQ:∀ (h:Hunk) (qr:List Hunk),ql=h::qr→Srt (h.At+h.Old.length - s) pl→∃ m,Val m∧pl=sel true false e m∧ql=sel false true (e+s) m:=by
      intro h qr hql hp';subst hql;have hq2:=hq.2;rw [show h.At+(h.Old.length:Int)=h.At+h.Old.length - s+s by omega] at hq2
      obtain ⟨m,m1,m2,m3⟩:=ih pl qr (h.At+h.Old.length - s) s (by simp at hN;omega) hp' hq2 (fun x hx y hy=>hno x hx y (by rw [List.map_cons];exact List.mem_cons_of_mem _ hy))
      refine ⟨⟨false,h.At - s - e,h.Old,h.New⟩::m,?_,?_,?_⟩
      · intro c hc;rcases List.mem_cons.1 hc with rfl | hc
        · have:=hq.1;simp only;omega
        · exact m1 c hc
      · rw [sel_o (by simp)]
        simp only;rw [show e+(h.At - s - e)+(h.Old.length:Int)=h.At+h.Old.length - s by omega]
        exact m2
      · rw [sel_s (c:=⟨false,h.At - s - e,h.Old,h.New⟩) rfl];simp only;rw [show e+s+(h.At - s - e)=h.At by omega,show h.At+(h.Old.length:Int)=h.At+h.Old.length - s+s by omega,← m3]
    match hpl:pl,hql:ql with
    | [],[]=>exact ⟨[],val_nil,rfl,rfl⟩
    | h::pr,[]=>exact takeP h pr rfl trivial
    | [],h::qr=>exact takeQ h qr rfl trivial
    | h::pr,y::qr =>
      have ht:=hno ⟨h.At+s,h.At+s+h.New.length,gr h⟩ (by rw [newR];simp) (rng y) (by simp)
      rcases lt_of_tch ht with h1 | h1
      · refine takeP h pr rfl ⟨?_,hq.2⟩;have h1':h.At+s+h.New.length < y.At:=h1;unfold gr;omega
      · refine takeQ y qr rfl ⟨?_,hp.2⟩;have h1':y.At+y.Old.length < h.At+s:=h1;omega
def chF (c:TreeChange):Int :=
  if c.Kind < 1∨c.Kind > 4 then 4
  else if Eq c.Path=false∨(c.Kind=3∧Eq c.To=false) then 12
  else if (c.Kind≠3∧c.To≠⟨#[]⟩)∨(c.Kind=3∧L3 c.Path c.To=true)∨(c.Lines≠[]∧(c.Kind=4∨c.Kind=3))∨(c.Kind=4∧c.Patch.Hunks=[])∨(c.Kind≠4∧c.Patch.Hunks≠[]) then 5
  else if (Bo c.Lines).Code≠0 then (Bo c.Lines).Code else (Ew c.Patch).Code
theorem len_pos_dec {α:Type} (l:List α):decide ((l.length:Int) > 0)=decide (l≠[]):=decide_eq_decide.2 (by cases l <;> simp <;> omega)
theorem rel_ok {c:TreeChange} (h:¬ (Eq c.Path=false∨(c.Kind=3∧Eq c.To=false))) (h3:c.Kind=3):c.Path.size≤1000000∧c.To.size≤1000000:=by
  have h1:Eq c.Path=true:=by cases hh:Eq c.Path with | true=>rfl | false=>exact absurd (Or.inl hh) h
  have h2:Eq c.To=true:=by cases hh:Eq c.To with | true=>rfl | false=>exact absurd (Or.inr ⟨h3,hh⟩) h
  have:=G5 h1;have:=G5 h2;omega
theorem check_f (c:TreeChange):Kd c=some (chF c):=by
  unfold Kd chF;simp only [ValidPath_f,orB,andB,Option.bind_some,len_pos_dec];by_cases h1:c.Kind < 1∨c.Kind > 4
  · rw [if_pos h1,if_pos (by simpa using h1)]
  · rw [if_neg h1,if_neg (by simpa using h1)]
    have e2:(!Eq c.Path || if decide (c.Kind=3)=true then !Eq c.To else false)=decide (Eq c.Path=false∨(c.Kind=3∧Eq c.To=false)):=by
      by_cases h3:c.Kind=3 <;> cases Eq c.Path <;> cases Eq c.To <;> simp [h3]
    have e2':(if !Eq c.Path=true then some true else (if decide (c.Kind=3)=true then some (!Eq c.To) else some false).bind fun x3=>some x3)=some (decide (Eq c.Path=false∨(c.Kind=3∧Eq c.To=false))):=by
      rw [← e2];by_cases h3:c.Kind=3 <;> cases Eq c.Path <;> cases Eq c.To <;> simp [h3]
    by_cases h2:Eq c.Path=false∨(c.Kind=3∧Eq c.To=false)
    · rw [if_pos h2];rw [decide_eq_true h2] at e2';simp only [Option.bind_some,andB,orB] at e2' ⊢;rw [show (!Eq c.Path || (decide (c.Kind=3) && !Eq c.To))=true from by simpa using e2']
      rfl
    · rw [if_neg h2];rw [decide_eq_false h2] at e2';simp only [Option.bind_some,andB,orB] at e2' ⊢;rw [show (!Eq c.Path || (decide (c.Kind=3) && !Eq c.To))=false from by simpa using e2']
      rw [if_neg (by decide)]
      have e3:(if decide (c.Kind=3)=true then (Ek c.Path c.To).bind fun y3=>some y3 else some false)=some (decide (c.Kind=3) && L3 c.Path c.To):=by
        by_cases h3:c.Kind=3
        · obtain ⟨a,b⟩:=rel_ok h2 h3;rw [Related_f a b,decide_eq_true h3];rfl
        · rw [decide_eq_false h3];rfl
      rw [e3];simp only [Option.bind_some,orB];by_cases h5:(c.Kind≠3∧c.To≠⟨#[]⟩)∨(c.Kind=3∧L3 c.Path c.To=true)∨(c.Lines≠[]∧(c.Kind=4∨c.Kind=3))∨(c.Kind=4∧c.Patch.Hunks=[])∨(c.Kind≠4∧c.Patch.Hunks≠[])
      · rw [if_pos h5];by_cases g1:((!decide (c.Kind=3) && !decide (c.To=⟨#[]⟩)) || (decide (c.Kind=3) && L3 c.Path c.To))=true
        · rw [if_pos g1]
        · rw [if_neg g1];by_cases g2:(decide (c.Lines≠[]) && (decide (c.Kind=4) || decide (c.Kind=3)))=true
          · rw [if_pos g2]
          · rw [if_neg g2,if_pos];simp only [Bool.or_eq_true,Bool.and_eq_true,Bool.not_eq_true',decide_eq_true_eq,decide_eq_false_iff_not,ne_eq] at g1 g2 h5 ⊢;by_cases k4:c.Kind=4 <;> by_cases kh:c.Patch.Hunks=[] <;> simp [k4,kh] at h5 g1 g2 ⊢
            all_goals first
              | omega
              | (rcases h5 with ⟨a,b⟩ | ⟨a,b⟩ | ⟨a,b⟩ <;> simp_all)
              | simp_all
      · rw [if_neg h5]
        rw [if_neg (by
          simp only [Bool.or_eq_true,Bool.and_eq_true,Bool.not_eq_true',decide_eq_true_eq,decide_eq_false_iff_not,ne_eq];intro h;rcases h with h | h
          · exact h5 (Or.inl h)
          · exact h5 (Or.inr (Or.inl h)))]
        rw [if_neg (by
          simp only [Bool.or_eq_true,Bool.and_eq_true,decide_eq_true_eq];intro h;exact h5 (Or.inr (Or.inr (Or.inl h))))]
        rw [if_neg (by
          simp only [Bool.not_eq_true',decide_eq_false_iff_not];intro h;by_cases k4:c.Kind=4 <;> by_cases kh:c.Patch.Hunks=[] <;> simp [k4,kh] at h5 h)]
        rw [Mp,Option.bind_some,fless (H7 c.Lines),Bg,pvalidate_f];split <;> rfl
structure OkCh (c:TreeChange):Prop where
  kind:1≤c.Kind∧c.Kind≤4
  path:Eq c.Path=true
  to:c.Kind=3→Eq c.To=true∧L3 c.Path c.To=false
  noTo:c.Kind≠3→c.To=⟨#[]⟩
  noLines:c.Kind=4∨c.Kind=3→c.Lines=[]
  hunks:c.Kind=4→c.Patch.Hunks≠[]
  noHunks:c.Kind≠4→c.Patch.Hunks=[]
  lines:(Bo c.Lines).Code=0
  patch:(Ew c.Patch).Code=0
theorem chF_ok {c:TreeChange}:chF c=0↔OkCh c:=by
  unfold chF;constructor
  · intro h;split at h
    · cases h
    · rename_i h1
      split at h
      · cases h
      · rename_i h2
        split at h
        · cases h
        · rename_i h3
          split at h
          · rename_i h4;exact absurd h h4
          · rename_i h4
            refine ⟨by omega,?_,fun k=>⟨?_,?_⟩,fun k=>?_,fun k=>?_,fun k e=>?_,fun k=>?_,by omega,h⟩
            · cases hh:Eq c.Path with | true=>rfl | false=>exact absurd (Or.inl hh) h2
            · cases hh:Eq c.To with | true=>rfl | false=>exact absurd (Or.inr ⟨k,hh⟩) h2
            · cases hh:L3 c.Path c.To with | false=>rfl | true=>exact absurd (Or.inr (Or.inl ⟨k,hh⟩)) h3
            · exact Decidable.by_contra fun e=>h3 (Or.inl ⟨k,e⟩)
            · exact Decidable.by_contra fun e=>h3 (Or.inr (Or.inr (Or.inl ⟨e,k⟩)))
            · exact h3 (Or.inr (Or.inr (Or.inr (Or.inl ⟨k,e⟩))))
            · exact Decidable.by_contra fun e=>h3 (Or.inr (Or.inr (Or.inr (Or.inr ⟨k,e⟩))))
  · rintro ⟨a1,a2,a3,a4,a5,a6,a7,a8,a9⟩;rw [if_neg (by omega),if_neg,if_neg,if_neg (by omega),a9]
    · rintro (⟨h,e⟩ | ⟨h,e⟩ | ⟨e,h⟩ | ⟨h,e⟩ | ⟨h,e⟩)
      · exact e (a4 h)
      · rw [(a3 h).2] at e;cases e
      · exact e (a5 h)
      · exact a6 h e
      · exact e (a7 h)
    · rintro (h | ⟨h,e⟩)
      · rw [a2] at h;cases h
      · rw [(a3 h).1] at e;cases e
def Ee (c:TreeChange):List ByteArray:=if c.Kind=3 then [c.Path,c.To] else [c.Path]
def Ot (p:ByteArray) (c:TreeChange):Bool:=(Ee c).any fun q=>L3 q p
def indB (a b:TreeChange):Bool:=!(Ee a).any fun p=>Ot p b
theorem paths_f (c:TreeChange):Gs c=some (Ee c):=by
  unfold Gs Ee;rw [Bg];split <;> rfl
theorem OkCh.size {c:TreeChange} (h:OkCh c):∀ p∈Ee c,p.size≤60:=by
  intro p hp;unfold Ee at hp;split at hp
  · rename_i k
    simp only [List.mem_cons,List.not_mem_nil,or_false] at hp;rcases hp with rfl | rfl
    · exact G5 h.path
    · exact G5 (h.to k).1
  · simp only [List.mem_singleton] at hp;subst hp;exact G5 h.path
theorem any_drop {α:Type} (p:α→Bool) {l:List α} {k:Nat} (h:k < l.length):(l.drop k).any p=(p l[k] || (l.drop (k+1)).any p):=by
  rw [List.drop_eq_getElem_cons h,List.any_cons]
theorem paths_len (c:TreeChange):(Ee c).length≤2:=by unfold Ee;split <;> simp
theorem touches_f {p:ByteArray} {c:TreeChange} (hp:p.size≤1000000) (hc:∀ q∈Ee c,q.size≤60):Bc p [c]=some (Ot p c):=by
  have hlen:=paths_len c
  have key:∀ (n k:Nat),k+n=(Ee c).length→(Dl (fun s=>Bc.l2 p (Ee c) s) (k:Int)=some (.inr ())∧((Ee c).drop k).any (fun q=>L3 q p)=false) ∨
      ∃ j:Nat,Dl (fun s=>Bc.l2 p (Ee c) s) (k:Int)=some (.inl (j:Int))∧((Ee c).drop k).any (fun q=>L3 q p)=true:=by
    intro n
    induction n with
    | zero =>
      intro k hk;left;refine ⟨Br ?_,by rw [List.drop_of_length_le (by omega)];rfl⟩
      unfold Bc.l2;rw [Bg,if_neg (by omega)]
    | succ n ih =>
      intro k hk;have hlt:k < (Ee c).length:=by omega
      have hq:=hc _ (List.getElem_mem hlt);rw [any_drop _ hlt]
      have e:Bc.l2 p (Ee c) (k:Int)=if L3 (Ee c)[k] p=true then some (Step.done (Sum.inl (k:Int))) else some (Step.next ((k+1:Nat):Int)):=by
        unfold Bc.l2;rw [Bg,if_pos (by omega),C1 hlt,Option.bind_some,Related_f (by omega) hp,Option.bind_some]
        split
        · rfl
        · rw [Ck (by omega) (by omega)];rfl
      cases hb:L3 (Ee c)[k] p with
      | true =>
        rw [hb,if_pos rfl] at e;exact Or.inr ⟨k,Br e,by rw [Bool.true_or]⟩
      | false =>
        rw [hb,if_neg (by decide)] at e
        rw [Cd e,Bool.false_or];exact ih (k+1) (by omega)
  unfold Bc
  have e1:Bc.l1 p [c] 0=if Ot p c=true then some (Step.done (Sum.inl true)) else some (Step.next 1):=by
    unfold Bc.l1;rw [if_pos (by simp),show at? [c] 0=some c from rfl,Option.bind_some,paths_f,Option.bind_some]
    rcases key (Ee c).length 0 (by omega) with ⟨h1,h2⟩ | ⟨j,h1,h2⟩
    · rw [show (0:Int)=((0:Nat):Int) from rfl,h1,Option.bind_some];rw [List.drop_zero] at h2;unfold Ot;rw [h2,if_neg (by decide)]
      rfl
    · rw [show (0:Int)=((0:Nat):Int) from rfl,h1,Option.bind_some];rw [List.drop_zero] at h2;unfold Ot;rw [h2,if_pos rfl];simp only [Bc.j2];rw [Bg,if_pos (by omega)]
  cases h:Ot p c with
  | true =>
    rw [h,if_pos rfl] at e1;rw [Br e1];rfl
  | false =>
    rw [h,if_neg (by decide)] at e1
    have e2:Bc.l1 p [c] 1=some (Step.done (Sum.inr ())):=by
      unfold Bc.l1;rw [if_neg (by simp)]
    rw [Cd e1,Br e2];rfl
theorem independent_f {a b:TreeChange} (ha:∀ q∈Ee a,q.size≤60) (hb:∀ q∈Ee b,q.size≤60):Bi a b=some (indB a b):=by
  have hlen:=paths_len a
  have key:∀ (n k:Nat),k+n=(Ee a).length→(Dl (fun s=>Bi.l1 b (Ee a) s) (k:Int)=some (.inr ())∧((Ee a).drop k).any (fun q=>Ot q b)=false) ∨
      ∃ j:Nat,Dl (fun s=>Bi.l1 b (Ee a) s) (k:Int)=some (.inl (j:Int))∧((Ee a).drop k).any (fun q=>Ot q b)=true:=by
    intro n
    induction n with
    | zero =>
      intro k hk;left;refine ⟨Br ?_,by rw [List.drop_of_length_le (by omega)];rfl⟩
      unfold Bi.l1;rw [Bg,if_neg (by omega)]
    | succ n ih =>
      intro k hk;have hlt:k < (Ee a).length:=by omega
      have hq:=ha _ (List.getElem_mem hlt);rw [any_drop _ hlt]
      have e:Bi.l1 b (Ee a) (k:Int)=if Ot (Ee a)[k] b=true then some (Step.done (Sum.inl (k:Int))) else some (Step.next ((k+1:Nat):Int)):=by
        unfold Bi.l1;rw [Bg,if_pos (by omega),C1 hlt,Option.bind_some,touches_f (by omega) hb,Option.bind_some]
        split
        · rfl
        · rw [Ck (by omega) (by omega)];rfl
      cases hx:Ot (Ee a)[k] b with
      | true =>
        rw [hx,if_pos rfl] at e;exact Or.inr ⟨k,Br e,by rw [Bool.true_or]⟩
      | false =>
        rw [hx,if_neg (by decide)] at e
        rw [Cd e,Bool.false_or];exact ih (k+1) (by omega)
  unfold Bi indB;rw [paths_f,Option.bind_some];rcases key (Ee a).length 0 (by omega) with ⟨h1,h2⟩ | ⟨j,h1,h2⟩
  · rw [show (0:Int)=((0:Nat):Int) from rfl,h1,Option.bind_some];rw [List.drop_zero] at h2;rw [h2];rfl
  · rw [show (0:Int)=((0:Nat):Int) from rfl,h1,Option.bind_some];rw [List.drop_zero] at h2;rw [h2];simp only [Bi.j1];rw [decide_eq_true (by omega)]
def edF (path:ByteArray) (p:Patch):TreeChange:=⟨4,path,ByteArray.empty,[],p⟩
theorem vpatch1_f (c:TreeChange):Bm ⟨[c]⟩=some (if chF c≠0 then ⟨chF c,0⟩ else ⟨0,0⟩):=by
  unfold Bm;rw [if_neg (by simp)]
  have e1:Bm.l1 ⟨[c]⟩ 0=if chF c≠0 then some (Step.done (Sum.inl ⟨chF c,0⟩)) else some (Step.next 1):=by
    unfold Bm.l1;rw [if_pos (by simp),show at? [c] 0=some c from rfl,Option.bind_some,check_f,Option.bind_some,Kh]
    by_cases h:chF c=0
    · rw [if_pos h,if_neg (by simpa using h)];rfl
    · rw [if_neg h,if_pos h]
  by_cases h:chF c≠0
  · rw [if_pos h] at e1;rw [Br e1,if_pos h];rfl
  · rw [if_neg h] at e1
    have e2:Bm.l1 ⟨[c]⟩ 1=some (Step.done (Sum.inr ())):=by
      unfold Bm.l1;rw [if_neg (by simp)]
    rw [Cd e1,Br e2,if_neg h];rfl
theorem secondPatch1_f (c:TreeChange) (i:Int):Ge ⟨[c]⟩ i=some (if chF c≠0 then ⟨chF c,i⟩ else ⟨0,0⟩):=by
  unfold Ge;rw [vpatch1_f,Option.bind_some];by_cases h:chF c≠0
  · rw [if_pos h,if_pos h,if_pos (by simp [h])]
  · rw [if_neg h,if_neg h,if_neg (by simp)]
theorem OkCh.sm {c:TreeChange} (h:OkCh c):Sm 120 c.Patch.Hunks:=sm_of h.patch
theorem OkCh.len {c:TreeChange} (h:OkCh c):c.Lines.length≤120:=Gl h.lines
theorem copyChange_f {c:TreeChange} {B:Int} (h1:c.Lines.length≤1000000) (h2:Sm B c.Patch.Hunks):Ey c=some c:=by
  unfold Ey;rw [clone_f _ h1,Option.bind_some,copy_f c.Patch h2,Option.bind_some]
theorem edit_f (p:ByteArray) (q:Patch):Gf p q=some (edF p q):=rfl
theorem and3 {p q r:Prop} [Decidable p] [Decidable q] [Decidable r]:((if decide p=true then some (decide q) else some false).bind fun x=>if x=true then some (decide r) else some false)=some (decide (p∧q∧r)):=by
  by_cases h1:p <;> by_cases h2:q <;> by_cases h3:r <;> simp [h1,h2,h3]
theorem and3K {p q r:Prop} [Decidable p] [Decidable q] [Decidable r] {β:Type} (K:Bool→Option β):((if decide p=true then some (decide q) else some false).bind fun x=>(if x=true then some (decide r) else some false).bind K)=K (decide (p∧q∧r)):=by
  rw [← Option.bind_assoc,and3,Option.bind_some]
theorem change_refl {c:TreeChange} {B:Int} (h1:c.Lines.length≤1000000) (h2:Sm B c.Patch.Hunks):Dt c c=some true:=by
  unfold Dt;rw [O7 _ _ h1,patch_refl _ h2];simp
theorem refl_ok {c:TreeChange} (h:OkCh c):Dt c c=some true:=change_refl (by have:=h.len;omega) h.sm
abbrev exR:TreeChange:=⟨3,⟨#[98]⟩,⟨#[97]⟩,[],⟨[]⟩⟩
abbrev exE:TreeChange:=⟨4,⟨#[97]⟩,ByteArray.empty,[],⟨[⟨0,[],[⟨#[120]⟩]⟩]⟩⟩
theorem exR_ok:chF exR=0:=by decide +kernel
theorem exE_ok:chF exE=0:=by decide +kernel
theorem path_mem (c:TreeChange):c.Path∈Ee c:=by unfold Ee;split <;> simp
def Lines (t:List ByteArray):Prop:=∀ s∈t,Na s
theorem lines_of {t:List ByteArray} (h:(Bo t).Code=0):Lines t:=((Ga t).2 ((Dr t).2 h)).2
theorem rawS_lines:∀ (hs:List Hunk) (t:List ByteArray) (b:Nat),Lines t→(∀ h∈hs,Lines h.New)→Lines (M5 hs t b)
  | [],t,b,ht,_=>fun s hs=>ht s (List.mem_of_mem_drop hs)
  | h::r,t,b,ht,hn=>by
    intro s hs;rw [M5] at hs;rcases List.mem_append.1 hs with hs | hs
    · exact ht s (List.mem_of_mem_drop (List.mem_of_mem_take hs))
    · rcases List.mem_append.1 hs with hs | hs
      · exact hn h (by simp) s hs
      · exact rawS_lines r t _ ht (fun x hx=>hn x (List.mem_cons_of_mem _ hx)) s hs
theorem both_f (a b:List ByteArray):Hm a b=some (if (Bo a).Code≠0 then Bo a else if (Bo b).Code=0 then ⟨0,0⟩ else ⟨(Bo b).Code,-2⟩):=by
  unfold Hm;rw [Mp,Option.bind_some];rcases H7 a with h | h
  · rw [h,second_f];rfl
  · rw [if_pos (K0.2 fun h2=>h h2.1),if_pos h]
abbrev Cst:=List Hunk×Int×Bool
def Md (hs:List Hunk) (f:Hunk→Hunk):List Hunk:=match hs.getLast? with
  | some h=>hs.dropLast++[f h]
  | Option.none=>hs
def K5 (s:Cst):Cst:=(s.1,s.2.1+1,false)
def G6 (s:Cst):List Hunk:=if s.2.2 then s.1 else s.1++[⟨s.2.1,[],[]⟩]
def Mg (x:ByteArray) (s:Cst):Cst:=(Md (G6 s) fun h=>{ h with Old:=h.Old++[x] },s.2.1+1,true)
def Mw (y:ByteArray) (s:Cst):Cst:=(Md (G6 s) fun h=>{ h with New:=h.New++[y] },s.2.1,true)
def scr:List ByteArray→List ByteArray→Cst→Cst
  | [],[],s=>s
  | [],y::b,s=>scr [] b (Mw y s)
  | x::a,[],s=>scr a [] (Mg x s)
  | x::a,y::b,s=>if x=y then scr a b (K5 s) else if lcs a (y::b) ≥ lcs (x::a) b then scr a (y::b) (Mg x s) else scr (x::a) b (Mw y s)
 termination_by a b=>a.length+b.length
theorem set_last_eq {hs:List Hunk} {h:Hunk} (hl:hs.getLast? = some h) (f:Hunk→Hunk):∃ hlt:hs.length - 1 < hs.length,hs[hs.length - 1]=h∧hs.set (hs.length - 1) (f h)=Md hs f:=by
  have hne:hs≠[]:=by intro e;subst e;cases hl
  have hlt:hs.length - 1 < hs.length:=by have:=List.length_pos_iff.2 hne;omega
  have hgl:hs[hs.length - 1]=h:=by
    rw [List.getLast?_eq_some_getLast hne] at hl;simp only [Option.some.injEq] at hl;rw [← hl,List.getLast_eq_getElem]
  refine ⟨hlt,hgl,?_⟩;unfold Md;rw [hl];simp only;rw [List.set_eq_take_append_cons_drop,if_pos hlt,List.dropLast_eq_take];have:hs.drop (hs.length - 1+1)=[]:=List.drop_eq_nil_of_le (by omega)
  rw [this]
theorem cOpen_last (s:Cst) (h:s.2.2=true→s.1≠[]):∃ q,(G6 s).getLast? = some q:=by
  unfold G6;cases hb:s.2.2 with
  | true=>rw [if_pos rfl];exact ⟨_,List.getLast?_eq_some_getLast (h hb)⟩
  | false=>rw [if_neg (by decide)];exact ⟨⟨s.2.1,[],[]⟩,by simp⟩
theorem setLast_len (hs:List Hunk) (f:Hunk→Hunk):(Md hs f).length=hs.length:=by
  unfold Md;cases h:hs.getLast? with
  | none=>rfl
  | some q =>
    have hne:hs≠[]:=by intro e;subst e;cases h
    have:=List.length_pos_iff.2 hne
    simp;omega
theorem setLast_ne {hs:List Hunk} {f:Hunk→Hunk} (h:hs≠[]):Md hs f≠[]:=by
  intro e;have:=setLast_len hs f;rw [e] at this;exact h (List.eq_nil_of_length_eq_zero this.symm)
theorem cOpen_ne (s:Cst) (h:s.2.2=true→s.1≠[]):G6 s≠[]:=by
  obtain ⟨q,hq⟩:=cOpen_last s h;intro e;rw [e] at hq;cases hq
structure CInv (s:Cst) (k:Nat):Prop where
  open_:s.2.2=true→s.1≠[]
  len:s.1.length≤k
  at0:0≤s.2.1
  at1:s.2.1≤k
  each:∀ h∈s.1,h.Old.length≤k∧h.New.length≤k
theorem mem_setLast {hs:List Hunk} {f:Hunk→Hunk} {h:Hunk} (hm:h∈Md hs f):h∈hs∨∃ q∈hs,h=f q:=by
  unfold Md at hm;cases hl:hs.getLast? with
  | none=>rw [hl] at hm;exact .inl hm
  | some q =>
    rw [hl] at hm;simp only [List.mem_append,List.mem_singleton] at hm;rcases hm with hm | hm
    · exact .inl ((List.dropLast_sublist hs).subset hm)
    · exact .inr ⟨q,List.mem_of_getLast? hl,hm⟩
theorem Nu {s:Cst} {h:Hunk} (hm:h∈G6 s):h∈s.1∨(h.Old=[]∧h.New=[]):=by
  unfold G6 at hm;split at hm
  · exact .inl hm
  · rcases List.mem_append.1 hm with hm | hm
    · exact .inl hm
    · simp at hm;subst hm;exact .inr ⟨rfl,rfl⟩
theorem cOpen_len (s:Cst):(G6 s).length≤s.1.length+1:=by unfold G6;split <;> simp
theorem CInv.keep {s:Cst} {k:Nat} (h:CInv s k):CInv (K5 s) (k+1):=⟨fun e=>by simp [K5] at e,by have:=h.len;simp only [K5];omega,by have:=h.at0;simp only [K5];omega,by have:=h.at1;simp only [K5];omega,fun q hq=>by have:=h.each q hq;omega⟩
theorem CInv.del {s:Cst} {k:Nat} (h:CInv s k) (x:ByteArray):CInv (Mg x s) (k+1):=by
  refine ⟨fun _=>setLast_ne (cOpen_ne s h.open_),?_,by have:=h.at0;simp only [Mg];omega,by have:=h.at1;simp only [Mg];omega,fun q hq=>?_⟩
  · have:=h.len;have:=cOpen_len s;simp only [Mg,setLast_len];omega
  · simp only [Mg] at hq;rcases mem_setLast hq with hq | ⟨p,hp,rfl⟩
    · rcases Nu hq with hq | ⟨h1,h2⟩
      · have:=h.each q hq;omega
      · simp [h1,h2]
    · rcases Nu hp with hq | ⟨h1,h2⟩
      · have:=h.each p hq;simp;omega
      · simp [h1,h2]
theorem CInv.ins {s:Cst} {k:Nat} (h:CInv s k) (x:ByteArray):CInv (Mw x s) (k+1):=by
  refine ⟨fun _=>setLast_ne (cOpen_ne s h.open_),?_,h.at0,by have:=h.at1;simp only [Mw];omega,fun q hq=>?_⟩
  · have:=h.len;have:=cOpen_len s;simp only [Mw,setLast_len];omega
  · simp only [Mw] at hq;rcases mem_setLast hq with hq | ⟨p,hp,rfl⟩
    · rcases Nu hq with hq | ⟨h1,h2⟩
      · have:=h.each q hq;omega
      · simp [h1,h2]
    · rcases Nu hp with hq | ⟨h1,h2⟩
      · have:=h.each p hq;simp;omega
      · simp [h1,h2]
theorem coll_keep {s:Cst} {k:Nat} (h:CInv s k) (hk:k≤1000000):Gn ⟨s.1,s.2.1,s.2.2⟩ 1=some ⟨(K5 s).1,(K5 s).2.1,(K5 s).2.2⟩:=by
  have hat0:=h.at0;have hat1:=h.at1;unfold Gn;rw [if_pos (by decide),Ck (x:=s.2.1+1) (by omega) (by omega),Option.bind_some];rfl
theorem coll_del {s:Cst} {k:Nat} (h:CInv s k) (hk:k≤1000000) (x:ByteArray):C7 ⟨s.1,s.2.1,s.2.2⟩ x=some ⟨(Mg x s).1,(Mg x s).2.1,(Mg x s).2.2⟩:=by
  obtain ⟨q,hq⟩:=cOpen_last s h.open_;have hlen:=h.len;have hat0:=h.at0;have hat1:=h.at1
  have j4e:C7.j1 ⟨s.1,s.2.1,s.2.2⟩ x (G6 s) true=some ⟨(Mg x s).1,(Mg x s).2.1,(Mg x s).2.2⟩:=by
    obtain ⟨h1,h2,h3⟩:=set_last_eq hq fun h=>{ h with Old:=h.Old++[x] };have hol:=cOpen_len s
    have hqm:q.Old.length≤k:=by
      rcases Nu (List.mem_of_getLast? hq) with hq | ⟨h1,_⟩
      · exact (h.each q hq).1
      · simp [h1]
    unfold C7.j1;have ez:((G6 s).length:Int) - 1=(((G6 s).length - 1:Nat):Int):=by omega
    rw [Ck (by omega) (by omega),Option.bind_some,ez,C1 h1,Option.bind_some,h2,Es (by simp only [List.length_singleton];omega),Option.bind_some,Ck (by show -9223372036854775808≤s.2.1+1;omega) (by show s.2.1+1≤9223372036854775807;omega),Option.bind_some,Option.bind_some]
    rw [Int.toNat_natCast];have:(G6 s).set ((G6 s).length - 1) ({ At:=q.At,Old:=q.Old++[x],New:=q.New }:Hunk)=(Mg x s).1:=h3;rw [this];rfl
  unfold C7;simp only;cases hb:s.2.2 with
  | true =>
    have:G6 s=s.1:=by unfold G6;rw [hb,if_pos rfl]
    rw [hb,this] at j4e;rw [if_neg (by decide)];exact j4e
  | false =>
    have:G6 s=s.1++[⟨s.2.1,[],[]⟩]:=by unfold G6;rw [hb,if_neg (by decide)]
    rw [hb] at j4e;rw [if_pos (by decide),Es (by simp only [List.length_singleton];omega),Option.bind_some,← this];exact j4e
theorem coll_ins {s:Cst} {k:Nat} (h:CInv s k) (hk:k≤1000000) (x:ByteArray):C9 ⟨s.1,s.2.1,s.2.2⟩ x=some ⟨(Mw x s).1,(Mw x s).2.1,(Mw x s).2.2⟩:=by
  obtain ⟨q,hq⟩:=cOpen_last s h.open_;have hlen:=h.len;have hat0:=h.at0;have hat1:=h.at1
  have j4e:C9.j1 ⟨s.1,s.2.1,s.2.2⟩ x (G6 s) true=some ⟨(Mw x s).1,(Mw x s).2.1,(Mw x s).2.2⟩:=by
    obtain ⟨h1,h2,h3⟩:=set_last_eq hq fun h=>{ h with New:=h.New++[x] };have hol:=cOpen_len s
    have hqm:q.New.length≤k:=by
      rcases Nu (List.mem_of_getLast? hq) with hq | ⟨_,h1⟩
      · exact (h.each q hq).2
      · simp [h1]
    unfold C9.j1;have ez:((G6 s).length:Int) - 1=(((G6 s).length - 1:Nat):Int):=by omega
    rw [Ck (by omega) (by omega),Option.bind_some,ez,C1 h1,Option.bind_some,h2,Es (by simp only [List.length_singleton];omega),Option.bind_some,Option.bind_some]
    rw [Int.toNat_natCast];have:(G6 s).set ((G6 s).length - 1) ({ At:=q.At,Old:=q.Old,New:=q.New++[x] }:Hunk)=(Mw x s).1:=h3;rw [this];rfl
  unfold C9;simp only;cases hb:s.2.2 with
  | true =>
    have:G6 s=s.1:=by unfold G6;rw [hb,if_pos rfl]
    rw [hb,this] at j4e;rw [if_neg (by decide)];exact j4e
  | false =>
    have:G6 s=s.1++[⟨s.2.1,[],[]⟩]:=by unfold G6;rw [hb,if_neg (by decide)]
    rw [hb] at j4e;rw [if_pos (by decide),Es (by simp only [List.length_singleton];omega),Option.bind_some,← this];exact j4e
section
variable {a b : List ByteArray}
theorem scr_loop (hab:a.length+b.length≤1000):∀ (n i j k:Nat) (s:Cst),i≤a.length→j≤b.length→(a.length - i)+(b.length - j)=n→k≤i+j→(El a b).drop k=El (a.drop i) (b.drop j)→CInv s (i+j) →
    Dl (fun s=>Cp.l1 a b (El a b) s.1 s.2.1 s.2.2.1 s.2.2.2.1 s.2.2.2.2.1 s.2.2.2.2.2) ((k:Int),(j:Int),(i:Int),s.1,s.2.1,s.2.2)=some (scr (a.drop i) (b.drop j) s):=by
  intro n
  induction n using Nat.strongRecOn with
  | _ n ih =>
  intro i j k s hi hj hn hk hal hs
  have j2e:∀ (p q:Int) (t:Cst),Cp.j2 (k:Int) q p t.1 t.2.1 t.2.2=some (.next (((k+1:Nat):Int),q,p,t.1,t.2.1,t.2.2)):=by
    intro p q t;unfold Cp.j2;rw [Ck (by omega) (by omega),Option.bind_some];rfl
  have ed:∀ (x:ByteArray) (r:List Int),(El a b).drop k=1::r→(hx:∃ h:i < a.length,a[i]=x) →
      Cp.l1 a b (El a b) (k:Int) (j:Int) (i:Int) s.1 s.2.1 s.2.2=some (.next (((k+1:Nat):Int),(j:Int),((i+1:Nat):Int),(Mg x s).1,(Mg x s).2.1,(Mg x s).2.2))∧(El a b).drop (k+1)=r:=by
    intro x r hr ⟨hx,hxe⟩;obtain ⟨hlt,hk1,hr1⟩:=Hr hr;refine ⟨?_,hr1⟩;unfold Cp.l1;rw [Bg,if_pos (by omega),C1 hlt,Option.bind_some,hk1,Bg,if_neg (by decide),Bg,if_pos rfl,C1 hx,Option.bind_some,hxe,coll_del hs (by omega) x,Option.bind_some,Ck (by omega) (by omega),Option.bind_some,j2e]
    rfl
  have ei:∀ (x:ByteArray) (r:List Int),(El a b).drop k=2::r→(hx:∃ h:j < b.length,b[j]=x) →
      Cp.l1 a b (El a b) (k:Int) (j:Int) (i:Int) s.1 s.2.1 s.2.2=some (.next (((k+1:Nat):Int),((j+1:Nat):Int),(i:Int),(Mw x s).1,(Mw x s).2.1,(Mw x s).2.2))∧(El a b).drop (k+1)=r:=by
    intro x r hr ⟨hx,hxe⟩;obtain ⟨hlt,hk1,hr1⟩:=Hr hr;refine ⟨?_,hr1⟩;unfold Cp.l1;rw [Bg,if_pos (by omega),C1 hlt,Option.bind_some,hk1,Bg,if_neg (by decide),Bg,if_neg (by decide),C1 hx,Option.bind_some,hxe,coll_ins hs (by omega) x,Option.bind_some,Ck (by omega) (by omega),Option.bind_some,j2e]
    rfl
  have ek:∀ (r:List Int),(El a b).drop k=0::r →
      Cp.l1 a b (El a b) (k:Int) (j:Int) (i:Int) s.1 s.2.1 s.2.2=some (.next (((k+1:Nat):Int),((j+1:Nat):Int),((i+1:Nat):Int),(K5 s).1,(K5 s).2.1,(K5 s).2.2))∧(El a b).drop (k+1)=r:=by
    intro r hr;obtain ⟨hlt,hk1,hr1⟩:=Hr hr;refine ⟨?_,hr1⟩;have h0:=hs.at0;have h1:=hs.at1;unfold Cp.l1;rw [Bg,if_pos (by omega),C1 hlt,Option.bind_some,hk1,Bg,if_pos rfl,coll_keep hs (by omega),Option.bind_some,Ck (by omega) (by omega),Option.bind_some,Ck (by omega) (by omega),Option.bind_some]
    exact j2e _ _ (K5 s)
  by_cases hia:i < a.length
  · have hda:=Hu hia;by_cases hjb:j < b.length
    · have hdb:=Hu hjb;have hal':=hal;rw [hda,hdb,El,← hda,← hdb] at hal'
      have hsc:scr (a.drop i) (b.drop j) s=if a[i]=b[j] then scr (a.drop (i+1)) (b.drop (j+1)) (K5 s) else if lcs (a.drop (i+1)) (b.drop j) ≥ lcs (a.drop i) (b.drop (j+1)) then scr (a.drop (i+1)) (b.drop j) (Mg a[i] s) else scr (a.drop i) (b.drop (j+1)) (Mw b[j] s):=by
        conv=>lhs;rw [hda,hdb,scr]
        rw [← hda,← hdb]
      rw [hsc];by_cases heq:a[i]=b[j]
      · rw [if_pos heq] at hal' ⊢;obtain ⟨e1,e2⟩:=ek _ hal';rw [Cd e1];exact ih _ (by omega) (i+1) (j+1) (k+1) (K5 s) (by omega) (by omega) rfl (by omega) e2 ⟨hs.keep.open_,by have:=hs.keep.len;omega,hs.keep.at0,by have:=hs.keep.at1;omega,fun q hq=>by have:=hs.keep.each q hq;omega⟩
      · rw [if_neg heq] at hal' ⊢;by_cases hge:lcs (a.drop (i+1)) (b.drop j) ≥ lcs (a.drop i) (b.drop (j+1))
        · rw [if_pos hge] at hal' ⊢;obtain ⟨e1,e2⟩:=ed _ _ hal' ⟨hia,rfl⟩;rw [Cd e1];exact ih _ (by omega) (i+1) j (k+1) (Mg a[i] s) (by omega) (by omega) rfl (by omega) e2 (by have:=hs.del a[i];rwa [show i+j+1=i+1+j by omega] at this)
        · rw [if_neg hge] at hal' ⊢;obtain ⟨e1,e2⟩:=ei _ _ hal' ⟨hjb,rfl⟩;rw [Cd e1];exact ih _ (by omega) i (j+1) (k+1) (Mw b[j] s) (by omega) (by omega) rfl (by omega) e2 (hs.ins b[j])
    · have hj':j=b.length:=by omega
      subst hj';have hal':=hal;rw [hda,List.drop_length,El] at hal';obtain ⟨e1,e2⟩:=ed _ _ hal' ⟨hia,rfl⟩
      have hsc:scr (a.drop i) (b.drop b.length) s=scr (a.drop (i+1)) (b.drop b.length) (Mg a[i] s):=by
        rw [hda,List.drop_length,scr]
      rw [Cd e1,hsc];exact ih _ (by omega) (i+1) b.length (k+1) (Mg a[i] s) (by omega) (by omega) rfl (by omega) (by rw [e2,List.drop_length]) (by have:=hs.del a[i];rwa [show i+b.length+1=i+1+b.length by omega] at this)
  · have hi':i=a.length:=by omega
    subst hi';by_cases hjb:j < b.length
    · have hdb:=Hu hjb;have hal':=hal;rw [hdb,List.drop_length,El] at hal';obtain ⟨e1,e2⟩:=ei _ _ hal' ⟨hjb,rfl⟩
      have hsc:scr (a.drop a.length) (b.drop j) s=scr (a.drop a.length) (b.drop (j+1)) (Mw b[j] s):=by
        rw [hdb,List.drop_length,scr]
      rw [Cd e1,hsc];exact ih _ (by omega) a.length (j+1) (k+1) (Mw b[j] s) (by omega) (by omega) rfl (by omega) (by rw [e2,List.drop_length]) (hs.ins b[j])
    · have hj':j=b.length:=by omega
      subst hj';rw [List.drop_length,List.drop_length,El] at hal;have:=Hi hal;rw [List.drop_length,List.drop_length,scr];refine Br ?_;unfold Cp.l1;rw [Bg,if_neg (by omega)]
end
def G8 (a b:List ByteArray):List Hunk:=(scr a b ([],0,false)).1
theorem script_f (a b:List ByteArray):Cp a b=some (if (Bo a).Code≠0 then (⟨[]⟩,Bo a) else if (Bo b).Code≠0 then (⟨[]⟩,⟨(Bo b).Code,-2⟩) else (⟨G8 a b⟩,⟨0,0⟩)):=by
  unfold Cp;rw [both_f,Option.bind_some];by_cases ha:(Bo a).Code=0
  · by_cases hb:(Bo b).Code=0
    · simp only [ha,hb,ne_eq,not_true,if_false,if_true];have oa:=(Ga a).2 ((Dr a).2 ha);have ob:=(Ga b).2 ((Dr b).2 hb);have h1:=oa.1;have h2:=ob.1;rw [if_neg (by simp),align_eq (okText_small oa ob),Option.bind_some]
      have:=scr_loop (a:=a) (b:=b) (by omega) _ 0 0 0 ([],0,false) (Nat.zero_le _) (Nat.zero_le _) rfl (Nat.zero_le _) (by simp) ⟨fun h=>(by cases h),by simp,by simp,by simp,fun q hq=>(by cases hq)⟩
      simp only [List.drop_zero] at this;rw [show (0:Int)=((0:Nat):Int) from rfl,show ((([]:List Hunk),((0:Nat):Int),false):Cst)=([],0,false) from rfl,this,Option.bind_some];rfl
    · simp only [ha,hb,ne_eq,not_true,not_false_iff,if_false,if_true];rw [if_pos (by simp)]
  · simp only [ha,ne_eq,not_false_iff,if_true];rw [if_pos (by simp)]
def endS:List Hunk→Nat→Nat
  | [],low=>low
  | h::r,_=>endS r (h.At.toNat+h.Old.length)
def preS:List Hunk→List ByteArray→Nat→List ByteArray
  | [],_,_=>[]
  | h::r,t,low=>(t.drop low).take (h.At.toNat - low)++(h.New++preS r t (h.At.toNat+h.Old.length))
theorem rawS_pre:∀ (hs:List Hunk) (t:List ByteArray) (low:Nat),M5 hs t low=preS hs t low++t.drop (endS hs low)
  | [],t,low=>rfl
  | h::r,t,low=>by rw [M5,preS,endS,rawS_pre r t _];simp
theorem G3:∀ (hs:List Hunk) (h:Hunk) (low:Nat),endS (hs++[h]) low=h.At.toNat+h.Old.length
  | [],h,low=>rfl
  | x::r,h,low=>by rw [List.cons_append,endS,G3 r h _]
theorem Mt:∀ (hs:List Hunk) (h:Hunk) (t:List ByteArray) (low:Nat),preS (hs++[h]) t low=preS hs t low++((t.drop (endS hs low)).take (h.At.toNat - endS hs low)++h.New)
  | [],h,t,low=>by simp [preS,endS]
  | x::r,h,t,low=>by rw [List.cons_append,preS,preS,endS,Mt r h t _];simp
def Chn:Int→List Hunk→Prop
  | _,[]=>True
  | e,h::r=>e < h.At∧Chn (h.At+h.Old.length) r
theorem Nx:∀ (l:List Hunk) (h:Hunk) (e:Int),Chn e (l++[h])↔Chn e l∧(l=[]→e < h.At)∧(∀ p q,l=p++[q]→q.At+q.Old.length < h.At)
  | [],h,e=>by simp [Chn]
  | x::r,h,e=>by
    rw [List.cons_append,Chn,Chn,Nx r h _];constructor
    · rintro ⟨h1,h2,h3,h4⟩;refine ⟨⟨h1,h2⟩,by simp,fun p q e=>?_⟩
      cases p with
      | nil=>simp at e;obtain ⟨rfl,rfl⟩:=e;exact h3 rfl
      | cons y p=>simp at e;exact h4 p q e.2
    · rintro ⟨⟨h1,h2⟩,h3,h4⟩;refine ⟨h1,h2,fun e=>?_,fun p q e=>h4 (x::p) q (by rw [e];rfl)⟩
      subst e;exact h4 [] x rfl
def HkOk (a b:List ByteArray) (h:Hunk):Prop:=∃ p q:Nat,h.At=p∧p+h.Old.length≤a.length∧h.Old=(a.drop p).take h.Old.length∧q+h.New.length≤b.length∧h.New=(b.drop q).take h.New.length∧0 < h.Old.length+h.New.length
structure ScI (a b:List ByteArray) (s:Cst) (i j:Nat):Prop where
  pos:s.2.1=i
  low:endS s.1 0≤i
  txt:preS s.1 a 0++(a.drop (endS s.1 0)).take (i - endS s.1 0)=b.take j
  opn:s.2.2=true→∃ hs h q,s.1=hs++[h]∧h.At.toNat+h.Old.length=i∧q+h.New.length=j∧h.New=(b.drop q).take h.New.length
  cls:s.2.2=false→s.1=[]∨endS s.1 0 < i
  chn:Chn (-1) s.1
  each:∀ h∈s.1,HkOk a b h
theorem Nv {α:Type} {l:List α} {k:Nat} (h:k < l.length):l.take (k+1)=l.take k++[l[k]]:=by
  rw [List.take_add_one,List.getElem?_eq_getElem h];rfl
theorem Nq (hs:List Hunk) (h:Hunk) (f:Hunk→Hunk):Md (hs++[h]) f=hs++[f h]:=by
  unfold Md;simp
theorem ScI.keep {a b:List ByteArray} {s:Cst} {i j:Nat} (h:ScI a b s i j) (hi:i < a.length) (hj:j < b.length) (e:a[i]=b[j]):ScI a b (K5 s) (i+1) (j+1):=by
  have hl:=h.low;refine ⟨by simp only [K5,h.pos];omega,by simp only [K5];omega,?_,fun h=>by simp [K5] at h,fun _=>.inr (by simp only [K5];omega),h.chn,h.each⟩
  simp only [K5];rw [Nv hj,← h.txt,show i+1 - endS s.1 0=(i - endS s.1 0)+1 by omega,Nv (by simp;omega),← e,List.append_assoc]
  congr 3;rw [List.getElem_drop];congr 1;omega
theorem HkOk.old {a b:List ByteArray} {h:Hunk} (hh:HkOk a b h) (hi:h.At.toNat+h.Old.length < a.length):HkOk a b { h with Old:=h.Old++[a[h.At.toNat+h.Old.length]] }:=by
  obtain ⟨p,q,h1,h2,h3,h4,h5,h6⟩:=hh;have hp:h.At.toNat=p:=by omega
  refine ⟨p,q,h1,by simp;omega,?_,h4,h5,by simp;omega⟩
  simp only [List.length_append,List.length_singleton];rw [Nv (by simp;omega),← h3]
  congr 2;rw [List.getElem_drop];simp only [hp]
theorem HkOk.new {a b:List ByteArray} {h:Hunk} (hh:HkOk a b h) {q:Nat} (hq:h.New=(b.drop q).take h.New.length) (hi:q+h.New.length < b.length):HkOk a b { h with New:=h.New++[b[q+h.New.length]] }∧h.New++[b[q+h.New.length]]=(b.drop q).take (h.New.length+1):=by
  obtain ⟨p,_,h1,h2,h3,h4,h5,h6⟩:=hh
  have e:h.New++[b[q+h.New.length]]=(b.drop q).take (h.New.length+1):=by
    rw [Nv (by simp;omega),← hq]
    congr 2;rw [List.getElem_drop]
  refine ⟨⟨p,q,h1,h2,h3,by simp;omega,?_,by simp;omega⟩,e⟩
  simp only [List.length_append,List.length_singleton];exact e
theorem ScI.del {a b:List ByteArray} {s:Cst} {i j:Nat} (h:ScI a b s i j) (hi:i < a.length) (hj:j≤b.length):ScI a b (Mg a[i] s) (i+1) j:=by
  have hl:=h.low;have ht:=h.txt;have hc:=h.chn;have he:=h.each;have hp:=h.pos;obtain ⟨hs0,at0,op⟩:=s;simp only at hl ht hc he hp;cases op with
  | true =>
    obtain ⟨hs,k,q,e1,e2,e3,e4⟩:=h.opn rfl;simp only at e1;subst e1
    have hcd:Mg a[i] (hs++[k],at0,true)=(hs++[{ k with Old:=k.Old++[a[i]] }],at0+1,true):=by
      unfold Mg G6;simp only [if_true,Nq]
    rw [hcd];rw [G3,e2,Nat.sub_self,List.take_zero,List.append_nil,Mt] at ht;have hk:=HkOk.old (he k (by simp)) (by omega)
    have hx:a[k.At.toNat+k.Old.length]'(by omega)=a[i]:=by congr 1
    rw [hx] at hk;rw [Nx] at hc;refine ⟨by simp only;omega,by simp only [G3,List.length_append,List.length_singleton];omega,?_,fun _=>⟨hs,_,q,rfl,by simp only [List.length_append,List.length_singleton];omega,e3,e4⟩,fun h=>by simp at h,(Nx _ _ _).2 hc,?_⟩
    · simp only [G3,List.length_append,List.length_singleton,Mt];rw [show i+1 - (k.At.toNat+(k.Old.length+1))=0 by omega,List.take_zero,List.append_nil]
      exact ht
    · intro m hm;rcases List.mem_append.1 hm with hm | hm
      · exact he m (List.mem_append_left _ hm)
      · rw [List.mem_singleton] at hm;subst hm;exact hk
  | false =>
    have hcl:=h.cls rfl;simp only at hcl
    have hcd:Mg a[i] (hs0,at0,false)=(hs0++[⟨at0,[a[i]],[]⟩],at0+1,true):=by
      unfold Mg G6;simp only [Bool.false_eq_true,if_false,Nq,List.nil_append]
    rw [hcd];have hat:at0.toNat=i:=by omega
    refine ⟨by simp only;omega,by simp only [G3,List.length_singleton];omega,?_,fun _=>⟨hs0,_,j,rfl,by simp only [List.length_singleton];omega,by simp,by simp⟩,fun h=>by simp at h,(Nx _ _ _).2 ⟨hc,fun _=>by simp only;omega,fun p q e=>?_⟩,?_⟩
    · simp only [G3,List.length_singleton,Mt,hat,Nat.sub_self,List.take_zero,List.append_nil];exact ht
    · subst e;rcases hcl with hcl | hcl
      · simp at hcl
      · rw [G3] at hcl;obtain ⟨p',_,h1,_⟩:=he q (by simp)
        simp only;omega
    · intro m hm;rcases List.mem_append.1 hm with hm | hm
      · exact he m hm
      · rw [List.mem_singleton] at hm;subst hm;refine ⟨i,j,hp,by simp;omega,?_,by simp;omega,by simp,by simp⟩
        simp only [List.length_singleton];rw [List.drop_eq_getElem_cons hi];rfl
theorem ScI.ins {a b:List ByteArray} {s:Cst} {i j:Nat} (h:ScI a b s i j) (hi:i≤a.length) (hj:j < b.length):ScI a b (Mw b[j] s) i (j+1):=by
  have hl:=h.low;have ht:=h.txt;have hc:=h.chn;have he:=h.each;have hp:=h.pos;obtain ⟨hs0,at0,op⟩:=s;simp only at hl ht hc he hp;cases op with
  | true =>
    obtain ⟨hs,k,q,e1,e2,e3,e4⟩:=h.opn rfl;simp only at e1;subst e1
    have hcd:Mw b[j] (hs++[k],at0,true)=(hs++[{ k with New:=k.New++[b[j]] }],at0,true):=by
      unfold Mw G6;simp only [if_true,Nq]
    rw [hcd];rw [G3,e2,Nat.sub_self,List.take_zero,List.append_nil,Mt] at ht;obtain ⟨hk,hk2⟩:=HkOk.new (he k (by simp)) e4 (by omega)
    have hx:b[q+k.New.length]'(by omega)=b[j]:=by congr 1
    rw [hx] at hk hk2;rw [Nx] at hc;refine ⟨hp,by simp only [G3];omega,?_,fun _=>⟨hs,_,q,rfl,e2,by simp only [List.length_append,List.length_singleton];omega,by simp only [List.length_append,List.length_singleton];exact hk2⟩,fun h=>by simp at h,(Nx _ _ _).2 hc,?_⟩
    · simp only [G3,Mt];rw [show i - (k.At.toNat+k.Old.length)=0 by omega,List.take_zero,List.append_nil,Nv hj,← ht]
      simp only [List.append_assoc]
    · intro m hm;rcases List.mem_append.1 hm with hm | hm
      · exact he m (List.mem_append_left _ hm)
      · rw [List.mem_singleton] at hm;subst hm;exact hk
  | false =>
    have hcl:=h.cls rfl;simp only at hcl
    have hcd:Mw b[j] (hs0,at0,false)=(hs0++[⟨at0,[],[b[j]]⟩],at0,true):=by
      unfold Mw G6;simp only [Bool.false_eq_true,if_false,Nq,List.nil_append]
    rw [hcd];have hat:at0.toNat=i:=by omega
    have hn:[b[j]]=(b.drop j).take 1:=by rw [List.drop_eq_getElem_cons hj];rfl
    refine ⟨hp,by simp only [G3,List.length_nil];omega,?_,fun _=>⟨hs0,_,j,rfl,by simp only [List.length_nil];omega,by simp,by simp only [List.length_singleton];exact hn⟩,fun h=>by simp at h,(Nx _ _ _).2 ⟨hc,fun _=>by simp only;omega,fun p q e=>?_⟩,?_⟩
    · simp only [G3,List.length_nil,Mt,hat,Nat.add_zero,Nat.sub_self,List.take_zero,List.append_nil];rw [Nv hj,← ht,List.append_assoc]
    · subst e;rcases hcl with hcl | hcl
      · simp at hcl
      · rw [G3] at hcl;obtain ⟨p',_,h1,_⟩:=he q (by simp)
        simp only;omega
    · intro m hm;rcases List.mem_append.1 hm with hm | hm
      · exact he m hm
      · rw [List.mem_singleton] at hm;subst hm;exact ⟨i,j,hp,by simp;omega,by simp,by simp;omega,by simp only [List.length_singleton];exact hn,by simp⟩
theorem scr_ok {a b:List ByteArray}:∀ (n i j:Nat) (s:Cst),(a.length - i)+(b.length - j)=n→i≤a.length→j≤b.length→ScI a b s i j→ScI a b (scr (a.drop i) (b.drop j) s) a.length b.length:=by
  intro n
  induction n using Nat.strongRecOn with
  | _ n ih =>
  intro i j s hn hi hj h;by_cases hia:i < a.length
  · have hda:=List.drop_eq_getElem_cons hia;by_cases hjb:j < b.length
    · have hdb:=List.drop_eq_getElem_cons hjb
      have hsc:scr (a.drop i) (b.drop j) s=if a[i]=b[j] then scr (a.drop (i+1)) (b.drop (j+1)) (K5 s) else if lcs (a.drop (i+1)) (b.drop j) ≥ lcs (a.drop i) (b.drop (j+1)) then scr (a.drop (i+1)) (b.drop j) (Mg a[i] s) else scr (a.drop i) (b.drop (j+1)) (Mw b[j] s):=by
        conv=>lhs;rw [hda,hdb,scr]
        rw [← hda,← hdb]
      rw [hsc];split
      · rename_i e
        exact ih _ (by omega) (i+1) (j+1) _ rfl (by omega) (by omega) (h.keep hia hjb e)
      · split
        · exact ih _ (by omega) (i+1) j _ rfl (by omega) (by omega) (h.del hia hj)
        · exact ih _ (by omega) i (j+1) _ rfl (by omega) (by omega) (h.ins hi hjb)
    · have hj':j=b.length:=by omega
      subst hj'
      have hsc:scr (a.drop i) (b.drop b.length) s=scr (a.drop (i+1)) (b.drop b.length) (Mg a[i] s):=by
        rw [hda,List.drop_length,scr]
      rw [hsc];exact ih _ (by omega) (i+1) b.length _ rfl (by omega) (by omega) (h.del hia hj)
  · have hi':i=a.length:=by omega
    subst hi';by_cases hjb:j < b.length
    · have hdb:=List.drop_eq_getElem_cons hjb
      have hsc:scr (a.drop a.length) (b.drop j) s=scr (a.drop a.length) (b.drop (j+1)) (Mw b[j] s):=by
        rw [hdb,List.drop_length,scr]
      rw [hsc];exact ih _ (by omega) a.length (j+1) _ rfl (by omega) (by omega) (h.ins hi hjb)
    · have hj':j=b.length:=by omega
      subst hj';rw [List.drop_length,List.drop_length,scr];exact h
theorem ok_part {l:List ByteArray} (h:C8 l) (p k:Nat):(Bo ((l.drop p).take k)).Code=0:=by
  refine (Dr _).1 ((Ga _).1 ⟨?_,fun s hs=>h.2 s (List.mem_of_mem_drop (List.mem_of_mem_take hs))⟩);have:=h.1
  simp;omega
theorem good_of {a b:List ByteArray} (ha:C8 a) (hb:C8 b):∀ (l:List Hunk) (e:Int),Chn e l→(∀ h∈l,HkOk a b h)→Good e l∧(-1≤e→e≤120→(l.length:Int)≤120 - e)
  | [],e,_,_=>⟨trivial,fun _ _=>by simp;omega⟩
  | h::r,e,hc,he=>by
    obtain ⟨p,q,h1,h2,h3,h4,h5,h6⟩:=he h List.mem_cons_self;obtain ⟨c1,c2⟩:=hc;have hl:=ha.1;obtain ⟨g1,g2⟩:=good_of ha hb r _ c2 fun x hx=>he x (List.mem_cons_of_mem _ hx);refine ⟨⟨?_,g1⟩,fun _ _=>?_⟩
    · unfold hcode;have t1:(Bo h.Old).Code=0:=by rw [h3];exact ok_part ha _ _
      have t2:(Bo h.New).Code=0:=by rw [h5];exact ok_part hb _ _
      rw [if_neg (by omega),if_neg (fun hn=>hn t1),if_neg (fun hn=>hn t2),if_neg (by omega),if_neg (by omega)]
    · have:=g2 (by omega) (by omega)
      rw [List.length_cons];omega
def Qk (l:List File) (x:File):List File:=l.take (D4 l x.Path)++[x]++l.drop (D4 l x.Path)
theorem has_pos {l:List File} (h:H2 l) {p:ByteArray} (hh:Gy l p=true):∃ hp:D4 l p < l.length,l[D4 l p].Path=p:=by
  rw [has_at h] at hh;split at hh
  · rename_i hp;exact ⟨hp,of_decide_eq_true hh⟩
  · cases hh
theorem pos_of {l:List File} (h:H2 l) {j:Nat} (hj:j < l.length):D4 l l[j].Path=j∧Gy l l[j].Path=true:=by
  have hh:Gy l l[j].Path=true:=by
    unfold Gy;rw [List.any_eq_true];exact ⟨_,List.getElem_mem hj,decide_eq_true rfl⟩
  refine ⟨?_,hh⟩;obtain ⟨hp,he⟩:=has_pos h hh;rcases Nat.lt_trichotomy (D4 l l[j].Path) j with h1 | h1 | h1
  · have:=List.pairwise_iff_getElem.1 h _ _ hp hj h1;rw [he,Lo] at this;cases this
  · exact h1
  · have:=List.pairwise_iff_getElem.1 h _ _ hj hp h1;rw [he,Lo] at this;cases this
theorem rel_has {l:List File} {p:ByteArray} (h:Ep l p=false):Gy l p=false:=by
  unfold Ep at h;unfold Gy;rw [List.any_eq_false] at h ⊢;intro f hf e;have:=h f hf;rw [of_decide_eq_true e,relB_self] at this;exact this rfl
theorem ins_len (l:List File) (x:File):(Qk l x).length=l.length+1:=by
  have:=pos_le l x.Path;unfold Qk;simp;omega
theorem ins_srt {l:List File} (h:H2 l) {x:File} (hn:Gy l x.Path=false):H2 (Qk l x):=by
  unfold H2 Qk
  have hlow:∀ f∈l.take (D4 l x.Path),sLt f.Path x.Path=true:=by
    intro f hf;rw [List.mem_take_iff_getElem] at hf;obtain ⟨i,hi,rfl⟩:=hf;rw [pos_lt h x.Path i (by omega)]
    exact decide_eq_true (by omega)
  have hhigh:∀ f∈l.drop (D4 l x.Path),sLt x.Path f.Path=true:=by
    intro f hf;obtain ⟨i,hi,rfl⟩:=List.getElem_of_mem hf;rw [List.length_drop] at hi;rw [List.getElem_drop];have h1:=pos_lt h x.Path (D4 l x.Path+i) (by omega)
    rw [decide_eq_false (by omega)] at h1
    rcases sLt_tri x.Path l[D4 l x.Path+i].Path with h2 | h2 | h2
    · exact h2
    · unfold Gy at hn;rw [List.any_eq_false] at hn;exact absurd (decide_eq_true h2.symm) (hn _ (List.getElem_mem (by omega)))
    · rw [h1] at h2;cases h2
  rw [List.pairwise_append,List.pairwise_append];refine ⟨⟨h.sublist (List.take_sublist _ _),List.pairwise_singleton _ _,?_⟩,h.sublist (List.drop_sublist _ _),?_⟩
  · intro a ha b hb;rw [List.mem_singleton] at hb;subst hb;exact hlow a ha
  · intro a ha b hb;rcases List.mem_append.1 ha with ha | ha
    · exact Nt (hlow a ha) (hhigh b hb)
    · rw [List.mem_singleton] at ha;subst ha;exact hhigh b hb
theorem ins_mem {l:List File} {x f:File}:f∈Qk l x↔f=x∨f∈l:=by
  unfold Qk;rw [List.mem_append,List.mem_append,List.mem_singleton]
  conv=>rhs;rw [← List.take_append_drop (D4 l x.Path) l,List.mem_append]
  constructor
  · rintro ((h | h) | h)
    · exact .inr (.inl h)
    · exact .inl h
    · exact .inr (.inr h)
  · rintro (h | h | h)
    · exact .inl (.inr h)
    · exact .inl (.inl h)
    · exact .inr h
theorem Put_f {l:List File} (h:H2 l) (hl:l.length≤1000) {p:ByteArray} (hn:Gy l p=false) {L:List ByteArray} (hL:L.length≤1000000):Dx ⟨l⟩ p L=some ⟨Qk l ⟨p,L⟩⟩:=by
  have hp:=pos_le l p;unfold Dx;simp only;rw [Find_f h (by omega),Option.bind_some,hn,if_pos (by rfl)]
  have e:ins? 40 l ((D4 l p:Nat):Int) [⟨p,[]⟩]=some (l.take (D4 l p)++[⟨p,[]⟩]++l.drop (D4 l p)):=by
    unfold ins?;simp only;rw [if_pos (by omega),Es (by simp;omega),Option.bind_some,Int.toNat_natCast]
  rw [e,Option.bind_some];unfold Dx.j1;rw [clone_f _ hL,Option.bind_some];simp only;have hlen:(l.take (D4 l p)).length=D4 l p:=by simp;omega
  rw [C1 (by simp;omega),Option.bind_some,Option.bind_some,Int.toNat_natCast]
  have e2:(l.take (D4 l p)++[(⟨p,[]⟩:File)]++l.drop (D4 l p))[D4 l p]'(by simp;omega)=⟨p,[]⟩:=by
    rw [List.getElem_append_left (by simp;omega),List.getElem_append_right (by omega)]
    simp [hlen]
  rw [e2];unfold Qk;congr 2;rw [List.append_assoc,List.append_assoc,List.set_append_right _ _ (by omega),hlen,Nat.sub_self]
  rfl
theorem del_f (l:List File) {j:Nat} (hj:j < l.length):del? l (j:Int) ((j+1:Nat):Int)=some (l.eraseIdx j):=by
  unfold del?;rw [if_pos (by omega),Int.toNat_natCast,Int.toNat_natCast,List.eraseIdx_eq_take_drop_succ]
def L6 (c:TreeChange) (l:List File):Int×List File :=
  if c.Kind=1 then if Ep l c.Path=true then (7,l) else if 24≤l.length then (14,l) else (0,Qk l ⟨c.Path,c.Lines⟩)
  else match (if Gy l c.Path=true then l[D4 l c.Path]? else Option.none) with
  | Option.none=>(6,l)
  | some f =>
    if c.Kind=2 then if f.Lines≠c.Lines then (19,l) else (0,l.eraseIdx (D4 l c.Path))
    else if c.Kind=3 then if Ep (l.eraseIdx (D4 l c.Path)) c.To=true then (7,l) else (0,Qk (l.eraseIdx (D4 l c.Path)) ⟨c.To,f.Lines⟩)
    else if (Gp c.Patch f.Lines).2.Code≠0 then ((Gp c.Patch f.Lines).2.Code,l) else (0,l.set (D4 l c.Path) ⟨f.Path,(Gp c.Patch f.Lines).1⟩)
theorem TrOk.text_len {l:List File} (h:TrOk l) {f:File} (hf:f∈l):f.Lines.length≤120:=(h.text f hf).1
theorem make1_f {l:List File} (h:TrOk l) {c:TreeChange} (hc:OkCh c):Eb c ⟨l⟩=some ((L6 c l).1,⟨(L6 c l).2⟩):=by
  have hl:=h.len;have hps:∀ f∈l,f.Path.size≤1000000:=fun f hf=>by have:=G5 (h.path f hf);omega
  have hcp:=G5 hc.path;have hcl:c.Lines.length≤120:=Gl hc.lines;unfold Eb L6;simp only;rw [Find_f h.srt (by omega),Option.bind_some]
  by_cases k1:c.Kind=1
  · rw [decide_eq_true k1,if_pos rfl,if_pos k1,clash_f hps (by omega) (by omega),Option.bind_some,clO_all]
    cases hr:Ep l c.Path
    · rw [if_neg Bool.false_ne_true,if_neg Bool.false_ne_true];by_cases h24:24≤l.length
      · rw [decide_eq_true (by omega),if_pos rfl,if_pos h24]
      · rw [decide_eq_false (by omega),if_neg Bool.false_ne_true,if_neg h24,Put_f h.srt (by omega) (rel_has hr) (by omega),Option.bind_some]
    · rw [if_pos rfl,if_pos rfl]
  rw [decide_eq_false k1,if_neg Bool.false_ne_true,if_neg k1];cases hh:Gy l c.Path with
  | false =>
    rw [if_pos (by rfl)]
    simp only [Bool.false_eq_true,if_false]
  | true =>
    obtain ⟨hp,he⟩:=has_pos h.srt hh;have hfm:=List.getElem_mem hp;have hft:=h.text_len hfm;rw [if_neg (show ¬ ((!true)=true) by decide),C1 hp,Option.bind_some,if_pos rfl,List.getElem?_eq_getElem hp]
    simp only
    have ez:ckK .i64 (((D4 l c.Path:Nat):Int)+1)=some ((D4 l c.Path+1:Nat):Int):=by
      rw [Ck (by omega) (by omega)];rfl
    by_cases k2:c.Kind=2
    · rw [decide_eq_true k2,if_pos rfl,if_pos k2,sequal_f _ _ (by omega),Option.bind_some]
      by_cases ht:l[D4 l c.Path].Lines=c.Lines
      · rw [decide_eq_true ht,if_neg (show ¬ ((!true)=true) by decide),if_neg (fun hn=>hn ht),ez,Option.bind_some,del_f l hp,Option.bind_some];rfl
      · rw [decide_eq_false ht,if_pos (by rfl),if_pos ht]
    rw [decide_eq_false k2,if_neg Bool.false_ne_true,if_neg k2];by_cases k3:c.Kind=3
    · have hto:=G5 (hc.to k3).1;have hcl3:=clO_ne (p:=c.To) l 0 (D4 l c.Path);rw [Nat.zero_add] at hcl3;rw [decide_eq_true k3,if_pos rfl,if_pos k3,clash_f hps (by omega) (by omega),Option.bind_some,hcl3]
      cases hr:Ep (l.eraseIdx (D4 l c.Path)) c.To
      · rw [if_neg Bool.false_ne_true,if_neg Bool.false_ne_true,ez,Option.bind_some,del_f l hp,Option.bind_some,
          Put_f (h.srt.sublist (List.eraseIdx_sublist _ _)) (by have:=List.length_eraseIdx_le l (D4 l c.Path);omega) (rel_has hr) (by omega),Option.bind_some];rfl
      · rw [if_pos rfl,if_pos rfl]
    · rw [decide_eq_false k3,if_neg Bool.false_ne_true,if_neg k3,apply_f,Option.bind_some];by_cases ha:(Gp c.Patch l[D4 l c.Path].Lines).2.Code=0
      · have hi:(Gp c.Patch l[D4 l c.Path].Lines).2.Index=0:=by rw [(applyF_ok ha).2.2.2.2.2]
        rw [decide_eq_true ha,decide_eq_true hi,if_neg (by decide),if_neg (fun hn=>hn ha),Option.bind_some,Option.bind_some,Int.toNat_natCast];rfl
      · rw [if_pos (by simp [ha]),if_pos ha]
theorem pos_eq {m:List File} (h:H2 m) {p:ByteArray} {k:Nat} (hk:k≤m.length) (h1:∀ i (hi:i < m.length),i < k→sLt m[i].Path p=true) (h2:∀ i (hi:i < m.length),k≤i→sLt m[i].Path p=false):D4 m p=k:=by
  have hp:=pos_le m p;rcases Nat.lt_trichotomy (D4 m p) k with h3 | h3 | h3
  · have:=h1 (D4 m p) (by omega) h3
    rw [pos_lt h] at this;simp at this
  · exact h3
  · have:=h2 k (by omega) (Nat.le_refl _)
    rw [pos_lt h] at this;simp at this;omega
theorem tw_all {α:Type} {p:α→Bool}:∀ {l:List α},(∀ f∈l,p f=true)→l.takeWhile p=l
  | [],_=>rfl
  | f::l,h=>by rw [List.takeWhile_cons,h f List.mem_cons_self,if_pos rfl,tw_all fun g hg=>h g (List.mem_cons_of_mem _ hg)]
theorem ins_end {m:List File} {x:File} (h:∀ f∈m,sLt f.Path x.Path=true):Qk m x=m++[x]:=by
  have:D4 m x.Path=m.length:=by
    unfold D4;rw [tw_all fun f hf=>h f hf]
  unfold Qk;rw [this];simp
theorem erase_rel {l:List File} (h:TrOk l) {j:Nat} (hj:j < l.length):Ep (l.eraseIdx j) l[j].Path=false:=by
  unfold Ep;rw [List.any_eq_false];intro f hf;rw [List.mem_eraseIdx_iff_getElem] at hf;obtain ⟨i,hi,hne,rfl⟩:=hf;rcases Nat.lt_or_gt_of_ne hne with h1 | h1
  · have:=List.pairwise_iff_getElem.1 h.rel i j hi hj h1;rw [this];decide
  · have:=List.pairwise_iff_getElem.1 h.rel j i hj hi h1;rw [relB_comm,this];decide
theorem pos_erase {l:List File} (h:H2 l) {j:Nat} (hj:j < l.length):D4 (l.eraseIdx j) l[j].Path=j:=by
  have hlen:(l.eraseIdx j).length=l.length - 1:=by rw [List.length_eraseIdx,if_pos hj]
  refine pos_eq (h.sublist (List.eraseIdx_sublist _ _)) (by omega) ?_ ?_
  · intro i hi hij;rw [List.getElem_eraseIdx_of_lt _ hij];exact List.pairwise_iff_getElem.1 h i j (by omega) hj hij
  · intro i hi hij;rw [List.getElem_eraseIdx_of_ge _ hij];exact Lw (List.pairwise_iff_getElem.1 h j (i+1) hj (by omega) (by omega))
theorem ins_erase {l:List File} (h:H2 l) {j:Nat} (hj:j < l.length) {x:File} (hx:x.Path=l[j].Path):Qk (l.eraseIdx j) x=l.set j x:=by
  unfold Qk;rw [hx,pos_erase h hj,List.eraseIdx_eq_take_drop_succ,List.set_eq_take_append_cons_drop,if_pos hj];have h1:(l.take j++l.drop (j+1)).take j=l.take j:=by rw [List.take_append_of_le_length (by simp;omega),List.take_take,Nat.min_self]
  have h2:(l.take j++l.drop (j+1)).drop j=l.drop (j+1):=by
    have hl:(l.take j).length=j:=by simp;omega
    rw [List.drop_append_of_le_length (by omega),List.drop_of_length_le (by omega),List.nil_append]
  rw [h1,h2];simp
theorem ins_ok {l:List File} (h:TrOk l) {x:File} (h1:Eq x.Path=true) (h2:Ep l x.Path=false) (h3:C8 x.Lines) (h4:l.length < 24):TrOk (Qk l x):=by
  have hrel:∀ f∈l,L3 f.Path x.Path=false:=by
    intro f hf;unfold Ep at h2;rw [List.any_eq_false] at h2;simpa using h2 f hf
  refine ⟨by rw [ins_len];omega,ins_srt h.srt (rel_has h2),?_,?_,?_⟩
  · intro f hf;rcases ins_mem.1 hf with rfl | hf
    · exact h1
    · exact h.path f hf
  · unfold Qk;rw [List.pairwise_append,List.pairwise_append];have hr:=h.rel;rw [← List.take_append_drop (D4 l x.Path) l,List.pairwise_append] at hr;refine ⟨⟨hr.1,List.pairwise_singleton _ _,?_⟩,hr.2.1,?_⟩
    · intro a ha b hb;rw [List.mem_singleton] at hb;subst hb;exact hrel a (List.mem_of_mem_take ha)
    · intro a ha b hb;rcases List.mem_append.1 ha with ha | ha
      · exact hr.2.2 a ha b hb
      · rw [List.mem_singleton] at ha;subst ha;rw [relB_comm];exact hrel b (List.mem_of_mem_drop hb)
  · intro f hf;rcases ins_mem.1 hf with rfl | hf
    · exact h3
    · exact h.text f hf
theorem erase_ok {l:List File} (h:TrOk l) (j:Nat):TrOk (l.eraseIdx j):=by
  have hs:=List.eraseIdx_sublist l j;refine ⟨Nat.le_trans hs.length_le h.len,h.srt.sublist hs,fun f hf=>h.path f (hs.subset hf),h.rel.sublist hs,fun f hf=>h.text f (hs.subset hf)⟩
theorem applyF_text {p:Patch} {t:List ByteArray} (h:(Gp p t).2.Code=0):C8 (Gp p t).1:=by
  obtain ⟨h1,h2,h3,h4,h5,h6⟩:=applyF_ok h;rw [h6];exact ⟨h5,rawS_lines _ _ _ h3.2 fun x hx=>lines_of (good_at h2 (by omega) x hx).2.2.2.1⟩
theorem makeF_ok {l:List File} (h:TrOk l) {c:TreeChange} (hc:OkCh c) (h0:(L6 c l).1=0):TrOk (L6 c l).2:=by
  unfold L6 at h0 ⊢;by_cases k1:c.Kind=1
  · rw [if_pos k1] at h0 ⊢;cases hr:Ep l c.Path
    · rw [hr,if_neg Bool.false_ne_true] at h0;rw [if_neg Bool.false_ne_true];by_cases h24:24≤l.length
      · rw [if_pos h24] at h0;simp at h0
      · rw [if_neg h24];exact ins_ok h hc.path hr ((Ga _).2 ((Dr _).2 hc.lines)) (by omega)
    · rw [hr,if_pos rfl] at h0;simp at h0
  rw [if_neg k1] at h0 ⊢;cases hh:Gy l c.Path with
  | false=>rw [hh] at h0;simp at h0
  | true =>
    obtain ⟨hp,he⟩:=has_pos h.srt hh;have hfm:=List.getElem_mem hp;have hle:(l.eraseIdx (D4 l c.Path)).length=l.length - 1:=by rw [List.length_eraseIdx,if_pos hp]
    have hl:=h.len;rw [hh,if_pos rfl,List.getElem?_eq_getElem hp] at h0;rw [if_pos rfl,List.getElem?_eq_getElem hp];simp only at h0 ⊢;by_cases k2:c.Kind=2
    · rw [if_pos k2] at h0 ⊢;by_cases ht:l[D4 l c.Path].Lines≠c.Lines
      · rw [if_pos ht] at h0;simp at h0
      · rw [if_neg ht];exact erase_ok h _
    rw [if_neg k2] at h0 ⊢;by_cases k3:c.Kind=3
    · rw [if_pos k3] at h0 ⊢;cases hr:Ep (l.eraseIdx (D4 l c.Path)) c.To
      · rw [if_neg Bool.false_ne_true];exact ins_ok (erase_ok h _) (hc.to k3).1 hr (show C8 l[D4 l c.Path].Lines from h.text _ hfm) (by omega)
      · rw [hr,if_pos rfl] at h0;simp at h0
    · rw [if_neg k3] at h0 ⊢;by_cases ha:(Gp c.Patch l[D4 l c.Path].Lines).2.Code=0
      · rw [if_neg (fun hn=>hn ha)];simp only;rw [← ins_erase h.srt hp (x:=⟨l[D4 l c.Path].Path,(Gp c.Patch l[D4 l c.Path].Lines).1⟩) rfl];refine ins_ok (erase_ok h _) (show Eq l[D4 l c.Path].Path=true from h.path _ hfm) (erase_rel h hp) ?_ (by omega)
        exact applyF_text ha
      · rw [if_pos ha] at h0;exact absurd h0 ha
def pcG (k:Nat) (c:TreeChange):Option Fault:=if chF c≠0 then some ⟨chF c,k⟩ else Option.none
def pcF (p:List TreeChange):Fault:=if p.length > 30 then ⟨2,-1⟩ else (G2 pcG 0 p).getD ⟨0,0⟩
theorem VPatch_f (p:TreePatch):Bm p=some (pcF p.Changes):=by
  obtain ⟨l⟩:=p;unfold Bm pcF;simp only;by_cases h:l.length > 30
  · rw [decide_eq_true (by omega),if_pos rfl,if_pos h]
  rw [decide_eq_false (by omega),if_neg Bool.false_ne_true,if_neg h,scan0 l pcG ?_ ?_,Option.bind_some]
  · cases G2 pcG 0 l <;> rfl
  · intro k hk _;unfold Bm.l1 pcG;simp only;rw [decide_eq_true (by omega),if_pos rfl,C1 hk,Option.bind_some,check_f,Option.bind_some]
    by_cases hc:chF l[k]=0
    · rw [decide_eq_true hc,if_neg (show ¬ ((!true)=true) by decide),if_neg (fun hn=>hn hc),Ck (by omega) (by omega),Option.bind_some];rfl
    · rw [decide_eq_false hc,if_pos (by rfl),if_pos hc]
  · unfold Bm.l1;rw [decide_eq_false (by simp),if_neg Bool.false_ne_true]
theorem pcG_code {k:Nat} {c:TreeChange} {y:Fault} (h:pcG k c=some y):y.Code≠0:=by
  unfold pcG at h;split at h
  · rename_i hc;cases h;exact hc
  · cases h
theorem pcF_ok (p:List TreeChange):pcF p=⟨0,0⟩∨(pcF p).Code≠0:=by
  unfold pcF;split
  · right;simp
  · cases h:G2 pcG 0 p with
    | none=>left;rfl
    | some y=>right;obtain ⟨j,hj,e⟩:=Mr h;exact pcG_code e
theorem pcF_zero (p:List TreeChange):(pcF p).Code=0↔p.length≤30∧∀ c∈p,OkCh c:=by
  unfold pcF;by_cases h:p.length > 30
  · rw [if_pos h];exact ⟨fun e=>by simp at e,fun e=>by omega⟩
  rw [if_neg h]
  have e1:(((G2 pcG 0 p).getD ⟨0,0⟩).Code=0)↔G2 pcG 0 p=Option.none:=by
    cases h:G2 pcG 0 p with
    | none=>simp
    | some y=>obtain ⟨j,hj,e⟩:=Mr h;simp [pcG_code e]
  rw [e1,Qe];constructor
  · intro hh;refine ⟨by omega,fun c hc=>?_⟩
    obtain ⟨j,hj,rfl⟩:=List.getElem_of_mem hc;have:=hh j hj;unfold pcG at this;split at this
    · cases this
    · rename_i h0;exact chF_ok.1 (by simpa using h0)
  · rintro ⟨_,hh⟩ j hj;unfold pcG;rw [if_neg (by rw [chF_ok.2 (hh _ (List.getElem_mem hj))];simp)]
def runF:Nat→List TreeChange→List File→List File×Fault
  | _,[],l=>(l,⟨0,0⟩)
  | k,c::r,l=>if (L6 c l).1≠0 then ([],⟨(L6 c l).1,k⟩) else runF (k+1) r (L6 c l).2
def E5 (p:List TreeChange) (l:List File):List File×Fault :=
  if (pcF p).Code≠0 then ([],pcF p) else if (Gt l).Code≠0 then ([],⟨(Gt l).Code,-2⟩) else runF 0 p l
theorem copyT_f {l:List File} (h:∀ f∈l,f.Lines.length≤1000000) (hl:l.length≤1000):Cf ⟨l⟩=some ⟨l⟩:=by
  have key:∀ (n k:Nat),k+n=l.length→Dl (fun s=>Cf.l1 ⟨l⟩ s.1 s.2) ((k:Int),l.take k)=some l:=by
    intro n
    induction n with
    | zero =>
      intro k hk;refine Br ?_;show Cf.l1 ⟨l⟩ _ _=_;unfold Cf.l1;simp only;rw [decide_eq_false (by omega),if_neg Bool.false_ne_true,List.take_of_length_le (by omega)]
    | succ n ih =>
      intro k hk;have hkl:k < l.length:=by omega
      have hs:Cf.l1 ⟨l⟩ (k:Int) (l.take k)=some (Step.next (((k+1:Nat):Int),l.take (k+1))):=by
        unfold Cf.l1;simp only
        rw [decide_eq_true (by omega),if_pos rfl,C1 hkl,Option.bind_some,clone_f _ (h _ (List.getElem_mem hkl)),Option.bind_some,Es (by simp;omega),Option.bind_some,Ck (by omega) (by omega),Option.bind_some,
          List.take_add_one,List.getElem?_eq_getElem hkl];rfl
      rw [Cd (s':=(((k+1:Nat):Int),l.take (k+1))) hs];exact ih (k+1) (by omega)
  unfold Cf;have:=key l.length 0 (by omega)
  rw [List.take_zero,show ((0:Nat):Int)=0 from rfl] at this;rw [this,Option.bind_some];rfl
theorem run_ok:∀ (r:List TreeChange) (k:Nat) (l:List File),TrOk l→(∀ c∈r,OkCh c)→(runF k r l).2.Code=0→TrOk (runF k r l).1∧(runF k r l).2=⟨0,0⟩
  | [],k,l,h,_,_=>⟨h,rfl⟩
  | c::r,k,l,h,hc,h0=>by
    rw [runF] at h0 ⊢;by_cases hm:(L6 c l).1≠0
    · rw [if_pos hm] at h0;exact absurd h0 hm
    · rw [if_neg hm] at h0 ⊢;exact run_ok r (k+1) _ (makeF_ok h (hc c List.mem_cons_self) (by simpa using hm)) (fun d hd=>hc d (List.mem_cons_of_mem _ hd)) h0
theorem run_iter {p:List TreeChange} (hp:∀ c∈p,OkCh c) (hpl:p.length≤30):∀ (r:List TreeChange) (k:Nat) (l:List File),p.drop k=r→TrOk l →
    Dl (fun s=>Cw.l1 ⟨p⟩ s.1 s.2) ((k:Int),l)=some (if (runF k r l).2.Code≠0 then .inl (⟨[]⟩,(runF k r l).2) else .inr (runF k r l).1):=by
  intro r
  induction r with
  | nil =>
    intro k l hk h;have:=Hi hk;rw [runF,if_neg (by simp)]
    refine Br ?_;show Cw.l1 ⟨p⟩ _ _=_;unfold Cw.l1;simp only;rw [decide_eq_false (by omega),if_neg Bool.false_ne_true]
  | cons c r ih =>
    intro k l hk h;obtain ⟨hlt,hx,hr⟩:=Hr hk;have hc:OkCh c:=hp c (hx ▸ List.getElem_mem hlt)
    have hs:Cw.l1 ⟨p⟩ (k:Int) l=if (L6 c l).1≠0 then some (Step.done (Sum.inl (⟨[]⟩,⟨(L6 c l).1,k⟩))) else some (Step.next (((k+1:Nat):Int),(L6 c l).2)):=by
      unfold Cw.l1;simp only;rw [decide_eq_true (by omega),if_pos rfl,C1 hlt,Option.bind_some,hx,make1_f h hc,Option.bind_some]
      by_cases hm:(L6 c l).1=0
      · rw [decide_eq_true hm,if_neg (show ¬ ((!true)=true) by decide),if_neg (fun hn=>hn hm),Ck (by omega) (by omega),Option.bind_some];rfl
      · rw [decide_eq_false hm,if_pos (by rfl),if_pos hm]
    rw [runF];by_cases hm:(L6 c l).1≠0
    · rw [if_pos hm] at hs ⊢;rw [if_pos (by simpa using hm)]
      exact Br hs
    · rw [if_neg hm] at hs ⊢;rw [Cd (s':=(((k+1:Nat):Int),(L6 c l).2)) hs];exact ih (k+1) _ hr (makeF_ok h hc (by simpa using hm))
theorem run_fail:∀ (r:List TreeChange) (k:Nat) (l:List File),(runF k r l).2.Code≠0→(runF k r l).1=[]
  | [],k,l,h=>absurd rfl h
  | c::r,k,l,h=>by
    rw [runF] at h ⊢;by_cases hm:(L6 c l).1≠0
    · rw [if_pos hm]
    · rw [if_neg hm] at h ⊢;exact run_fail r (k+1) _ h
theorem Apply_f (p:TreePatch) (t:FileTree):Cw p t=some (⟨(E5 p.Changes t.Files).1⟩,(E5 p.Changes t.Files).2):=by
  obtain ⟨p⟩:=p;obtain ⟨l⟩:=t;unfold Cw E5;rw [VPatch_f,Option.bind_some];simp only;rcases pcF_ok p with h | h
  · have h0:(pcF p).Code=0:=by rw [h]
    obtain ⟨hpl,hp⟩:=(pcF_zero p).1 h0;rw [if_neg (by rw [h];decide),if_neg (fun hn=>hn h0),tsecond_f,Option.bind_some]
    simp only;by_cases ht:(Gt l).Code=0
    · have hT:=(Mf l).1 ht;rw [if_pos ht,if_neg (by decide),if_neg (fun hn=>hn ht),copyT_f (fun f hf=>by have:=hT.text_len hf;omega) (by have:=hT.len;omega),Option.bind_some]
      have:=run_iter hp hpl p 0 l rfl hT;rw [show ((0:Nat):Int)=0 from rfl] at this;rw [this,Option.bind_some];by_cases hr:(runF 0 p l).2.Code≠0
      · rw [if_pos hr,run_fail _ _ _ hr]
      · rw [if_neg hr,(run_ok p 0 l hT hp (by simpa using hr)).2];rfl
    · rw [if_neg ht,if_pos (by simp [ht]),if_pos ht]
  · rw [if_pos (by simp [h]),if_pos h]
theorem tree_refl {l:List File} (h:∀ f∈l,f.Lines.length≤1000000) (hl:l.length≤1000000):B2 ⟨l⟩ ⟨l⟩=some true:=by
  unfold B2;simp only;rw [if_neg (by simp),scan0 l (fun _ _=>(Option.none:Option Bool)) ?_ ?_,Option.bind_some]
  · have:G2 (fun _ _=>(Option.none:Option Bool)) 0 l=Option.none:=by rw [Qe];intro j hj;rfl
    rw [this];rfl
  · intro k hk _;unfold B2.l1;simp only
    rw [decide_eq_true (by omega),if_pos rfl,C1 hk,Option.bind_some,Option.bind_some,decide_eq_true rfl,if_neg (show ¬ ((!true)=true) by decide),Option.bind_some,Option.bind_some,O7 _ _ (h _ (List.getElem_mem hk)),Option.bind_some,
      decide_eq_true rfl,Option.bind_some,if_neg (by decide),Ck (by omega) (by omega),Option.bind_some];rfl
  · unfold B2.l1;rw [decide_eq_false (by simp),if_neg Bool.false_ne_true]
theorem Ly {p:List TreeChange} {l:List File} (h:(E5 p l).2.Code=0):p.length≤30∧(∀ c∈p,OkCh c)∧TrOk l∧E5 p l=runF 0 p l∧TrOk (E5 p l).1:=by
  unfold E5 at h ⊢;by_cases hp:(pcF p).Code≠0
  · rw [if_pos hp] at h;exact absurd h hp
  rw [if_neg hp] at h ⊢;have hp0:=(pcF_zero p).1 (by simpa using hp)
  by_cases ht:(Gt l).Code≠0
  · rw [if_pos ht] at h;exact absurd h ht
  rw [if_neg ht] at h ⊢;have hT:=(Mf l).1 (by simpa using ht)
  exact ⟨hp0.1,hp0.2,hT,rfl,(run_ok p 0 l hT hp0.2 h).1⟩
theorem mem_has {l:List File} (h:H2 l) {P:ByteArray} {L:List ByteArray} (hm:(⟨P,L⟩:File)∈l):∃ hp:D4 l P < l.length,Gy l P=true∧l[D4 l P]=⟨P,L⟩:=by
  obtain ⟨i,hi,e⟩:=List.getElem_of_mem hm;have:=pos_of h hi;rw [e] at this;simp only at this;refine ⟨by omega,this.2,?_⟩
  rw [← e];congr 1;exact this.1
theorem sLt_not {a b:ByteArray} (h:sLt a b=false):a=b∨sLt b a=true:=by
  rcases sLt_tri a b with h1 | h1 | h1
  · rw [h1] at h;cases h
  · exact .inl h1
  · exact .inr h1
theorem sLt_not_trans {a b c:ByteArray} (h1:sLt a b=false) (h2:sLt b c=false):sLt a c=false:=by
  rcases sLt_not h1 with rfl | h1
  · exact h2
  rcases sLt_not h2 with rfl | h2
  · exact Lw h1
  · exact Lw (Nt h2 h1)
def SAsc (l:List ByteArray):Prop:=l.Pairwise fun x y=>sLt x y=true
theorem sasc_uniq:∀ {l m:List ByteArray},SAsc l→SAsc m→(∀ z,z∈l↔z∈m)→l=m
  | [],[],_,_,_=>rfl
  | [],y::m,_,_,h=>by have:=(h y).2 (by simp);cases this
  | x::l,[],_,_,h=>by have:=(h x).1 (by simp);cases this
  | x::l,y::m,hl,hm,h=>by
    unfold SAsc at hl hm;rw [List.pairwise_cons] at hl hm
    have e:x=y:=by
      rcases List.mem_cons.1 ((h x).1 (by simp)) with e | hx
      · exact e
      · rcases List.mem_cons.1 ((h y).2 (by simp)) with e | hy
        · exact e.symm
        · have h1:=hm.1 x hx;have h2:=hl.1 y hy;rw [Lw h2] at h1;cases h1
    subst e;rw [sasc_uniq (l:=l) (m:=m) hl.2 hm.2 (fun z=>?_)];constructor
    · intro hz;rcases List.mem_cons.1 ((h z).1 (by simp [hz])) with rfl | h1
      · have:=hl.1 z hz;rw [Lo] at this;cases this
      · exact h1
    · intro hz;rcases List.mem_cons.1 ((h z).2 (by simp [hz])) with rfl | h1
      · have:=hm.1 z hz;rw [Lo] at this;cases this
      · exact h1
theorem sortS_pw (l:List ByteArray):(Nf l).Pairwise fun x y=>sLt y x=false:=by
  have h:=List.pairwise_mergeSort (le:=fun x y=>!sLt y x) (l:=l)
    (fun a b c h1 h2=>by simp only [Bool.not_eq_true'] at h1 h2 ⊢;exact sLt_not_trans h2 h1)
    (fun a b=>by
      cases h1:sLt b a with
      | false=>rfl
      | true=>rw [Lw h1];rfl)
  exact h.imp (fun {a b} hab=>by simpa using hab)
theorem sortS_perm (l:List ByteArray):(Nf l).Perm l:=List.mergeSort_perm _ _
def sdq (p:ByteArray):List ByteArray→List ByteArray
  | []=>[]
  | y::r=>if y=p then sdq p r else y::sdq y r
def sdd:List ByteArray→List ByteArray
  | []=>[]
  | x::r=>x::sdq x r
theorem sdq_snoc:∀ (m:List ByteArray) (p y:ByteArray),sdq p (m++[y])=if y=(m.getLast?).getD p then sdq p m else sdq p m++[y]
  | [],p,y=>by
    by_cases h:y=p <;> simp [sdq,h]
  | x::m,p,y=>by
    rw [List.cons_append,sdq,sdq,sdq_snoc m,sdq_snoc m]
    have hl:((x::m).getLast?).getD p=(m.getLast?).getD x:=by
      rw [List.getLast?_cons];cases m.getLast? <;> rfl
    rw [hl];by_cases h:x=p
    · rw [if_pos h,if_pos h,h]
    · rw [if_neg h,if_neg h];split <;> rfl
theorem sdd_snoc {m:List ByteArray} {x y:ByteArray} (hx:m.getLast? = some x):sdd (m++[y])=if y=x then sdd m else sdd m++[y]:=by
  cases m with
  | nil=>cases hx
  | cons z m =>
    rw [List.cons_append,sdd,sdd,sdq_snoc];rw [List.getLast?_cons] at hx
    have:(m.getLast?).getD z=x:=by
      cases h:m.getLast? with
      | none=>rw [h] at hx;cases hx;rfl
      | some w=>rw [h] at hx;cases hx;rfl
    rw [this];split <;> rfl
theorem slast_at {l:List ByteArray} (h:0 < l.length):l.getLast? = some l[l.length - 1]:=by
  rw [List.getLast?_eq_getElem?,List.getElem?_eq_getElem (by omega)]
theorem sdd_take {l:List ByteArray} {k:Nat} (h:k < l.length) (h0:0 < k):sdd (l.take (k+1))=if l[k]=l[k - 1] then sdd (l.take k) else sdd (l.take k)++[l[k]]:=by
  rw [List.take_succ_eq_append_getElem h];refine sdd_snoc ?_;have hlen:(l.take k).length=k:=by rw [List.length_take];omega
  rw [slast_at (by omega),List.getElem_take]
  congr 2;omega
theorem sdd_none {l:List ByteArray}:∀ k,k≤l.length→(∀ j (h:j < l.length),0 < j→j < k→l[j]≠l[j - 1])→sdd (l.take k)=l.take k
  | 0,_,_=>by rw [List.take_zero];rfl
  | 1,h1,_=>by
    cases l with
    | nil=>rfl
    | cons x l=>simp [sdd,sdq]
  | k+2,hk,h=>by
    rw [sdd_take (by omega) (by omega),if_neg (h (k+1) (by omega) (by omega) (by omega)),sdd_none (k+1) (by omega) (fun j hj h1 h2=>h j hj h1 (by omega))]
    rw [← List.take_succ_eq_append_getElem]
def scG (l:List ByteArray) (k:Nat) (v:ByteArray):Option (List ByteArray):=if 0 < k∧l[k - 1]? = some v then some (sdd l) else Option.none
theorem sc2_f {l:List ByteArray} (hl:l.length≤100000) {k:Nat} (hk:k < l.length) (h0:0 < k) (hd:sdd (l.take (k+1))=l.take k) :
    ∃ r,Dl (fun s=>Bk.l2 (k:Int) ((l.length:Int) - k) s.1 s.2.1 s.2.2) (1,(k:Int),l)=some r∧∃ p:Nat,r.1=p∧p≤r.2.length∧r.2.length=l.length∧r.2.take p=sdd l:=by
  refine inv_loopE (f:=fun s=>Bk.l2 (k:Int) ((l.length:Int) - k) s.1 s.2.1 s.2.2) 1 (l.length - k) (by omega)
    (fun j t=>t.2.length=l.length∧∃ p:Nat,t.1=p∧p≤k+j - 1∧t.2.take p=sdd (l.take (k+j))∧t.2.drop (k+j - 1)=l.drop (k+j - 1)) _ ?_ ?_ ((k:Int),l) ⟨rfl,k,rfl,by omega,hd.symm,rfl⟩
  · rintro j ⟨_,t⟩ hj1 hj ⟨ht,p,hp,hpk,htake,hdrop⟩;simp only at ht hp htake hdrop;subst hp;left;have hkj:k+j < l.length:=by omega
    have g1:t[k+j]'(by omega)=l[k+j]:=by
      have h1:=List.getElem_drop (xs:=t) (i:=k+j - 1) (j:=1) (h:=by rw [List.length_drop];omega)
      have h2:=List.getElem_drop (xs:=l) (i:=k+j - 1) (j:=1) (h:=by rw [List.length_drop];omega)
      have e:k+j - 1+1=k+j:=by omega
      simp only [hdrop,e] at h1 h2;rw [← h1,← h2]
    have g2:t[k+j - 1]'(by omega)=l[k+j - 1]:=by
      have h1:=List.getElem_drop (xs:=t) (i:=k+j - 1) (j:=0) (h:=by rw [List.length_drop];omega)
      have h2:=List.getElem_drop (xs:=l) (i:=k+j - 1) (j:=0) (h:=by rw [List.length_drop];omega)
      simp only [hdrop,Nat.add_zero] at h1 h2;rw [← h1,← h2]
    have a1:atA? t (k:Int) ((l.length:Int) - k) (j:Int)=some l[k+j]:=by
      unfold atA?;rw [if_pos (by omega),show ((k:Int)+(j:Int))=((k+j:Nat):Int) by omega,C1 (by omega),g1]
    have a2:atA? t (k:Int) ((l.length:Int) - k) ((j:Int) - 1)=some l[k+j - 1]:=by
      unfold atA?;rw [if_pos (by omega),show ((k:Int)+((j:Int) - 1))=((k+j - 1:Nat):Int) by omega,C1 (by omega),g2]
    unfold Bk.l2;simp only;rw [Bg,if_pos (by omega),a1,Option.bind_some,Ck (by omega) (by omega),Option.bind_some,a2,Option.bind_some,Kh]
    have hdd:=sdd_take (l:=l) (k:=k+j) hkj (by omega)
    unfold Bk.j4;by_cases hc:l[k+j]=l[k+j - 1]
    · rw [if_pos hc,Ck (by omega) (by omega),Option.bind_some]
      rw [if_pos hc] at hdd;refine ⟨_,rfl,ht,p,rfl,by omega,?_,?_⟩
      · rw [show k+(j+1)=k+j+1 by omega,hdd];exact htake
      · have e:k+(j+1) - 1=(k+j - 1)+1:=by omega
        rw [e,← List.drop_drop,← List.drop_drop,hdrop]
    · rw [if_neg hc];rw [if_neg hc] at hdd;simp only [Option.bind_some];rw [C1 (by omega),Option.bind_some,Ck (by omega) (by omega),Option.bind_some,Ck (by omega) (by omega),Option.bind_some,Int.toNat_natCast]
      refine ⟨_,rfl,by simpa using ht,p+1,by omega,by omega,?_,?_⟩
      · rw [show k+(j+1)=k+j+1 by omega,hdd,← htake]
        have hpl:p < t.length:=by omega
        rw [List.take_succ_eq_append_getElem (by simpa using hpl),List.getElem_set_self,List.take_set_of_le (Nat.le_refl _)]
      · have e:k+(j+1) - 1=(k+j - 1)+1:=by omega
        rw [e,List.drop_set_of_lt (by omega),← List.drop_drop,← List.drop_drop,hdrop]
  · rintro ⟨_,t⟩ ⟨ht,p,hp,hpk,htake,hdrop⟩;simp only at ht hp htake hdrop;subst hp;unfold Bk.l2;simp only;rw [Bg,if_neg (by omega)]
    refine ⟨_,rfl,p,rfl,?_,ht,?_⟩
    · simp only;omega
    · have e:k+(l.length - k)=l.length:=by omega
      rw [e,List.take_length] at htake;exact htake
theorem scompact_f {l:List ByteArray} (hl:l.length≤100000):Bk l=some (sdd l):=by
  unfold Bk;rw [Bg];by_cases h2:l.length < 2
  · rw [if_pos (by omega)]
    congr 1
    match l,h2 with
    | [],_=>rfl
    | [x],_=>rfl
    | _::_::_,h=>simp at h;omega
  rw [if_neg (by omega)]
  have hg:∀ k (h:k < l.length),scG l k l[k]=if 0 < k∧l[k - 1]=l[k] then some (sdd l) else Option.none:=by
    intro k h;unfold scG;rw [List.getElem?_eq_getElem (by omega)]
    simp only [Option.some.injEq]
  have hi:=scn_iter (f:=fun s=>Bk.l1 l s) (dn:=Sum.inl) (e:=.inr ()) 1 l (scG l) ?_ ?_ (l.drop 1) 1 rfl (by omega) (Nat.le_refl _) (fun j hj h=>by
    have:j=0:=by omega
    subst this;unfold scG;rw [if_neg (by omega)])
  · rw [show ((1:Nat):Int)=1 from rfl] at hi;rw [hi,Option.bind_some];cases hs:scn (scG l) 1 (l.drop 1) with
    | some r =>
      obtain ⟨j,hj,he⟩:=scn_some hs;unfold scG at he;split at he
      · cases he;rfl
      · cases he
    | none =>
      show Bk.j1 l=_;unfold Bk.j1
      have:=sdd_none (l:=l) l.length (Nat.le_refl _) (fun j hj h0 _=>by
        have:=scn_none.1 hs (j - 1) (by rw [List.length_drop];omega)
        rw [List.getElem_drop] at this;have e:1+(j - 1)=j:=by omega
        simp only [e] at this;rw [hg j hj] at this;split at this
        · cases this
        · rename_i hn
          exact fun h=>hn ⟨h0,h.symm⟩)
      rw [List.take_length] at this;rw [this]
  · intro k h hk0 hp;rw [hg k h]
    · unfold Bk.l1;rw [Bg,if_pos (by omega),C1 h,Option.bind_some,Ck (by omega) (by omega),Option.bind_some,show ((k:Int) - 1)=((k - 1:Nat):Int) by omega,C1 (by omega),Option.bind_some,Bg]
      by_cases hc:l[k]=l[k - 1]
      · rw [if_pos hc,if_pos ⟨by omega,hc.symm⟩]
        have hd:sdd (l.take (k+1))=l.take k:=by
          rw [sdd_take h (by omega),if_pos hc,sdd_none k (by omega)]
          intro j hj h0 hjk;have:=hp j hj hjk;rw [hg j hj] at this;split at this
          · cases this
          · rename_i hn
            exact fun h=>hn ⟨h0,h.symm⟩
        obtain ⟨r,e,p,hr1,hpl,hlen,htk⟩:=sc2_f hl h (by omega) hd
        have e1:als? l (k:Int)=some ((l.length:Int) - k):=by
          unfold als?;rw [if_pos (by omega)]
        rw [e1,Option.bind_some,e,Option.bind_some];unfold Bk.j3
        have e2:als? r.2 r.1=some ((r.2.length:Int) - p):=by
          unfold als?;rw [hr1,if_pos (by omega)]
        rw [e2,Option.bind_some]
        have e3:clr? r.2 r.1 ((r.2.length:Int) - p) ByteArray.empty=some (r.2.take p++List.replicate ((r.2.length:Int) - p).toNat ByteArray.empty):=by
          unfold clr?;rw [hr1,if_pos (by omega),Int.toNat_natCast]
        rw [e3,Option.bind_some,hr1,Oi (by omega) (by omega) (by simp;omega),Option.bind_some]
        simp only [Int.toNat_natCast,Int.toNat_zero,List.drop_zero];rw [List.take_append_of_le_length (by simp;omega),List.take_take,Nat.min_self,htk]
      · rw [if_neg hc,if_neg (fun h=>hc h.2.symm)];unfold Bk.j2;rw [Ck (by omega) (by omega),Option.bind_some];rfl
  · unfold Bk.l1;rw [Bg,if_neg (by omega)]
theorem sdq_spec:∀ (l:List ByteArray) (p:ByteArray),(∀ y∈l,sLt y p=false)→l.Pairwise (fun x y=>sLt y x=false) →
    (sdq p l).Pairwise (fun x y=>sLt x y=true)∧(∀ z∈sdq p l,sLt p z=true)∧∀ z,z∈sdq p l↔z∈l∧z≠p
  | [],p,_,_=>by simp [sdq]
  | y::r,p,hge,hs=>by
    rw [List.pairwise_cons] at hs;rw [sdq];by_cases h:y=p
    · rw [if_pos h];obtain ⟨h1,h2,h3⟩:=sdq_spec r p (fun z hz=>hge z (by simp [hz])) hs.2
      refine ⟨h1,h2,fun z=>?_⟩;rw [h3,List.mem_cons];constructor
      · rintro ⟨a,b⟩;exact ⟨.inr a,b⟩
      · rintro ⟨rfl | a,b⟩
        · exact absurd h b
        · exact ⟨a,b⟩
    · rw [if_neg h];obtain ⟨h1,h2,h3⟩:=sdq_spec r y (fun z hz=>hs.1 z hz) hs.2
      have hpy:sLt p y=true:=by
        rcases sLt_not (hge y (by simp)) with h4 | h4
        · exact absurd h4 h
        · exact h4
      refine ⟨List.pairwise_cons.2 ⟨h2,h1⟩,?_,fun z=>?_⟩
      · intro z hz;rcases List.mem_cons.1 hz with rfl | hz
        · exact hpy
        · exact Nt hpy (h2 z hz)
      · rw [List.mem_cons,h3,List.mem_cons];constructor
        · rintro (rfl | ⟨a,b⟩)
          · exact ⟨.inl rfl,h⟩
          · refine ⟨.inr a,fun e=>?_⟩;have h4:=h2 z ((h3 z).2 ⟨a,b⟩);rw [e,Lw hpy] at h4;cases h4
        · rintro ⟨rfl | a,b⟩
          · exact .inl rfl
          · by_cases e:z=y
            · exact .inl e
            · exact .inr ⟨a,e⟩
theorem sdd_spec {l:List ByteArray} (hs:l.Pairwise (fun x y=>sLt y x=false)):SAsc (sdd l)∧∀ z,z∈sdd l↔z∈l:=by
  cases l with
  | nil=>simp [sdd,SAsc]
  | cons x r =>
    rw [List.pairwise_cons] at hs;obtain ⟨h1,h2,h3⟩:=sdq_spec r x hs.1 hs.2;rw [sdd];refine ⟨List.pairwise_cons.2 ⟨h2,h1⟩,fun z=>?_⟩;rw [List.mem_cons,h3,List.mem_cons];constructor
    · rintro (rfl | ⟨a,_⟩)
      · exact .inl rfl
      · exact .inr a
    · rintro (rfl | a)
      · exact .inl rfl
      · by_cases e:z=x
        · exact .inl e
        · exact .inr ⟨a,e⟩
theorem sdq_len:∀ (l:List ByteArray) (p:ByteArray),(sdq p l).length≤l.length
  | [],_=>Nat.le_refl _
  | y::r,p=>by
    rw [sdq];split
    · have:=sdq_len r p;simp only [List.length_cons];omega
    · have:=sdq_len r y;simp only [List.length_cons];omega
theorem sdd_len (l:List ByteArray):(sdd l).length≤l.length:=by
  cases l with
  | nil=>exact Nat.le_refl _
  | cons x r=>have:=sdq_len r x;simp only [sdd,List.length_cons];omega
def ksort (l:List ByteArray):List ByteArray:=sdd (Nf l)
theorem ksort_asc (l:List ByteArray):SAsc (ksort l):=(sdd_spec (sortS_pw l)).1
theorem ksort_mem (l:List ByteArray) (z:ByteArray):z∈ksort l↔z∈l:=by
  unfold ksort;rw [(sdd_spec (sortS_pw l)).2,(sortS_perm l).mem_iff]
theorem ksort_len (l:List ByteArray):(ksort l).length≤l.length:=by
  have:=sdd_len (Nf l);rw [(sortS_perm l).length_eq] at this;exact this
end Go.Dc
