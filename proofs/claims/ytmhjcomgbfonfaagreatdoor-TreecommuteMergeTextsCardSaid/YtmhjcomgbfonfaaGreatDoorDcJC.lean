import Derived.Test.YtmhjcomgbfonfaaGreatDoorDcJB
set_option linter.unusedSimpArgs false
set_option linter.unusedVariables false
set_option maxRecDepth 4000
namespace Go.Dc
open Go
theorem scr_self:∀ (a:List ByteArray) (s:Cst),(scr a a s).1=s.1
  | [],s=>by simp [scr]
  | x::a,s=>by
    rw [scr,if_pos rfl,scr_self a];rfl
theorem script_self (a:List ByteArray):G8 a a=[]:=scr_self a _
theorem script_raw {a b:List ByteArray} (ha:C8 a) (hb:C8 b):M5 (G8 a b) a 0=b:=by
  have h0:ScI a b ([],0,false) 0 0:=⟨rfl,Nat.le_refl _,by simp [preS,endS],fun h=>by simp at h,fun _=>.inl rfl,trivial,fun h hh=>by cases hh⟩
  have h:=scr_ok _ 0 0 _ rfl (Nat.zero_le _) (Nat.zero_le _) h0;rw [List.drop_zero,List.drop_zero] at h;show M5 (G8 a b) a 0=b;rw [rawS_pre];have ht:=h.txt;have hl:=h.low;rw [List.take_length,List.take_of_length_le (by simp)] at ht
  exact ht
theorem take_split {t:List ByteArray} {lo mid hi:Nat} (h1:lo≤mid) (h2:mid≤hi):(t.drop lo).take (hi - lo)=(t.drop lo).take (mid - lo)++(t.drop mid).take (hi - mid):=by
  have e:hi - lo=(mid - lo)+(hi - mid):=by omega
  rw [e,List.take_add,List.drop_drop];congr 3;omega
theorem drop_split {t:List ByteArray} {lo mid:Nat} (h1:lo≤mid):t.drop lo=(t.drop lo).take (mid - lo)++t.drop mid:=by
  have:=(List.take_append_drop (mid - lo) (t.drop lo)).symm;rw [List.drop_drop] at this;rw [show lo+(mid - lo)=mid from by omega] at this
  exact this
theorem rawS_split {t:List ByteArray} {P:List Hunk} {lo mid:Nat} (h1:lo≤mid) (h2:∀ h∈P,(mid:Int)≤h.At):M5 P t lo=(t.drop lo).take (mid - lo)++M5 P t mid:=by
  cases P with
  | nil=>rw [M5,M5];exact drop_split h1
  | cons h r =>
    have:=h2 h List.mem_cons_self;rw [M5,M5,take_split h1 (show mid≤h.At.toNat by omega),List.append_assoc]
def catT (t:List ByteArray) (P:List Hunk):List RX→Nat→List ByteArray
  | [],at_=>t.drop at_
  | r::R,at_=>(t.drop at_).take (r.Low.toNat - at_)++(AA t P r++catT t P R r.High.toNat)
theorem cmT_cat {t:List ByteArray} {P Q:List Hunk}:∀ (R:List RX) (at_:Nat),(∀ r∈R,wi Q r=[]∨AA t P r=AA t Q r)→cmT t P Q R at_=some (catT t P R at_)
  | [],at_,_=>rfl
  | r::R,at_,h=>by
    rw [cmT,if_pos (h r List.mem_cons_self),cmT_cat R _ fun x hx=>h x (List.mem_cons_of_mem _ hx)];rfl
theorem chn_lt:∀ {P:List Hunk} {e:Int},Chn e P→(∀ h∈P,0≤h.At)→∀ h∈P,e < h.At
  | [],_,_,_,h,hh=>by cases hh
  | x::P,e,hc,hp,h,hh=>by
    obtain ⟨c1,c2⟩:=hc;rcases List.mem_cons.1 hh with rfl | hh
    · exact c1
    · have:=chn_lt c2 (fun y hy=>hp y (List.mem_cons_of_mem _ hy)) h hh;omega
theorem chn_filter {p:Hunk→Bool}:∀ {P:List Hunk} {e:Int},Chn e P→Chn e (P.filter p)
  | [],_,_=>trivial
  | x::P,e,hc=>by
    obtain ⟨c1,c2⟩:=hc;rw [List.filter_cons];have:=chn_filter (p:=p) c2;cases p x
    · rw [if_neg Bool.false_ne_true]
      have mono:∀ {Q:List Hunk} {e e':Int},e'≤e→Chn e Q→Chn e' Q:=by
        intro Q e e' hle h;cases Q with
        | nil=>trivial
        | cons y Q=>exact ⟨by have:=h.1;omega,h.2⟩
      exact mono (by omega) this
    · rw [if_pos rfl];exact ⟨c1,this⟩
theorem rawS_region {t:List ByteArray} {r:RX} (h0:0≤r.High):∀ (P:List Hunk) (e:Int) (lo:Nat),Chn e P→(∀ h∈P,0≤h.At)→(∀ h∈P,inB r h=true∨r.High < h.At)→(lo:Int)≤r.High →
    M5 P t lo=Of t (wi P r) lo r.High.toNat++M5 (P.filter fun h=>!inB r h) t r.High.toNat
  | [],e,lo,_,_,_,hlo=>by
    show t.drop lo=(t.drop lo).take (r.High.toNat - lo)++t.drop r.High.toNat;exact drop_split (by omega)
  | h::P,e,lo,hc,hp,hr,hlo=>by
    obtain ⟨c1,c2⟩:=hc;have hp':∀ x∈P,0≤x.At:=fun x hx=>hp x (List.mem_cons_of_mem _ hx);have hp0:=hp h List.mem_cons_self;cases hb:inB r h
    · have hgt:r.High < h.At:=by
        rcases hr h List.mem_cons_self with h1 | h1
        · rw [hb] at h1;cases h1
        · exact h1
      have hno:∀ x∈h::P,inB r x=false:=by
        intro x hx;rcases List.mem_cons.1 hx with rfl | hx
        · exact hb
        · have:=chn_lt c2 hp' x hx;unfold inB;rw [show decide (x.At+(x.Old.length:Int)≤r.High)=false from decide_eq_false (by omega),Bool.and_false]
      have e1:wi (h::P) r=[]:=by
        unfold wi;rw [List.filter_eq_nil_iff];intro x hx;rw [hno x hx];simp
      have e2:(h::P).filter (fun x=>!inB r x)=h::P:=List.filter_eq_self.2 fun x hx=>by rw [hno x hx];rfl
      rw [e1,e2,Of];refine rawS_split (by omega) fun x hx=>?_
      rcases List.mem_cons.1 hx with rfl | hx
      · omega
      · have:=chn_lt c2 hp' x hx;omega
    · have hb2:=hb;unfold inB at hb2;simp only [Bool.and_eq_true,decide_eq_true_eq] at hb2;have e1:wi (h::P) r=h::wi P r:=by unfold wi;rw [List.filter_cons,if_pos hb]
      have e2:(h::P).filter (fun x=>!inB r x)=P.filter fun x=>!inB r x:=by rw [List.filter_cons,hb];rfl
      rw [e1,e2,M5,Of,rawS_region h0 P _ (h.At.toNat+h.Old.length) c2 hp' (fun x hx=>hr x (List.mem_cons_of_mem _ hx)) (by omega)]
      simp only [List.append_assoc]
theorem catT_raw {t:List ByteArray}:∀ (R:List RX) (at_:Nat) (P:List Hunk) (e:Int),R.Pairwise (fun a b=>a.High < b.Low)→(∀ r∈R,(at_:Int)≤r.Low∧r.Low≤r.High)→Chn e P→(∀ h∈P,0≤h.At) →
    (∀ h∈P,∃ r∈R,r.Low≤h.At∧h.At+h.Old.length≤r.High)→catT t P R at_=M5 P t at_
  | [],at_,P,e,_,_,_,_,hcov=>by
    cases P with
    | nil=>rfl
    | cons h P=>obtain ⟨r,hr,_⟩:=hcov h List.mem_cons_self;cases hr
  | r::R,at_,P,e,hsep,hbd,hc,hp,hcov=>by
    rw [List.pairwise_cons] at hsep;obtain ⟨b1,b2⟩:=hbd r List.mem_cons_self
    have hin:∀ h∈P,inB r h=true∨r.High < h.At:=by
      intro h hh;obtain ⟨x,hx,h1,h2⟩:=hcov h hh;rcases List.mem_cons.1 hx with rfl | hx
      · left;unfold inB;simp [h1,h2]
      · right;have:=hsep.1 x hx;omega
    have hlow:∀ h∈P,((r.Low.toNat:Nat):Int)≤h.At:=by
      intro h hh;obtain ⟨x,hx,h1,h2⟩:=hcov h hh;rcases List.mem_cons.1 hx with rfl | hx
      · omega
      · have:=hsep.1 x hx;omega
    have hrest:catT t P R r.High.toNat=catT t (P.filter fun h=>!inB r h) R r.High.toNat:=by
      have hw:∀ x∈R,AA t P x=AA t (P.filter fun h=>!inB r h) x:=by
        intro x hx;have:=hsep.1 x hx;unfold AA;congr 1;unfold wi;rw [List.filter_filter];refine List.filter_congr fun h hh=>?_;cases hb:inB x h
        · rfl
        · unfold inB at hb;simp only [Bool.and_eq_true,decide_eq_true_eq] at hb
          have:inB r h=false:=by
            unfold inB;rw [show decide (h.At+(h.Old.length:Int)≤r.High)=false from decide_eq_false (by omega),Bool.and_false]
          rw [this];rfl
      have cg:∀ (R':List RX) (a:Nat),(∀ x∈R',AA t P x=AA t (P.filter fun h=>!inB r h) x)→catT t P R' a=catT t (P.filter fun h=>!inB r h) R' a:=by
        intro R'
        induction R' with
        | nil=>intro a _;rfl
        | cons x R' ih=>intro a h;rw [catT,catT,h x List.mem_cons_self,ih _ fun y hy=>h y (List.mem_cons_of_mem _ hy)]
      exact cg R _ hw
    have ih:=catT_raw (t:=t) R r.High.toNat (P.filter fun h=>!inB r h) e hsep.2 (fun x hx=>⟨by have:=hsep.1 x hx;omega,(hbd x (List.mem_cons_of_mem _ hx)).2⟩) (chn_filter hc) (fun h hh=>hp h (List.mem_filter.1 hh).1) (fun h hh=>by
      obtain ⟨hh1,hh2⟩:=List.mem_filter.1 hh;obtain ⟨x,hx,h1,h2⟩:=hcov h hh1;rcases List.mem_cons.1 hx with rfl | hx
      · have:inB x h=true:=by unfold inB;simp [h1,h2]
        rw [this] at hh2;cases hh2
      · exact ⟨x,hx,h1,h2⟩)
    rw [catT,hrest,ih,rawS_split (t:=t) (P:=P) (lo:=at_) (mid:=r.Low.toNat) (by omega) hlow,rawS_region (by omega) P e r.Low.toNat hc hp hin (by omega)]
    rfl
theorem clean3_pick {b l r:List ByteArray} (hb:C8 b) (hl:C8 l) (hr:C8 r) (h:∀ x,wi (G8 b r) x=[]∨AA b (G8 b l) x=AA b (G8 b r) x):Lt b l r=some l:=by
  have hP:=H3 hb hl;have hQ:=H3 hb hr;have h1:=regF_ok hb.1 hP hQ;have h2:=(reg_cov hb.1 hP hQ).1;unfold Lt;rw [cmT_cat _ _ fun x _=>h x,catT_raw _ 0 _ (-1) h1.sep (fun x hx=>⟨(h1.bd x hx).1,(h1.bd x hx).2.1⟩) hP.chn (fun x hx=>(hP.ins x hx).1) h2,script_raw hb hl];simp only;rw [if_pos hl.1]
theorem clean3_base {b l:List ByteArray} (hb:C8 b) (hl:C8 l):Lt b l b=some l :=
  clean3_pick hb hl hb fun x=>.inl (by rw [script_self];rfl)
theorem clean3_same {b l:List ByteArray} (hb:C8 b) (hl:C8 l):Lt b l l=some l :=
  clean3_pick hb hl hl fun x=>.inr rfl
theorem clean3_left {b r:List ByteArray} (hb:C8 b) (hr:C8 r):Lt b b r=some r:=by
  rw [clean3_comm hb hb hr,clean3_base hb hr]
end Go.Dc
