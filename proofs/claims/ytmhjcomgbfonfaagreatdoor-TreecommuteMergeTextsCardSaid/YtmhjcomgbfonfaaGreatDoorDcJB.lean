import Derived.Test.YtmhjcomgbfonfaaGreatDoorDcJA
set_option linter.unusedSimpArgs false
set_option linter.unusedVariables false
set_option maxRecDepth 4000
namespace Go.Dc
open Go
def N3 (l:List ByteArray):Chunk:=⟨false,l,[],[],[]⟩
def Hp (out:List Chunk) (l:List ByteArray):List Chunk :=
  if l=[] then out else match out.getLast? with
  | Option.none=>[N3 l]
  | some c=>if c.Conflict=true then out++[N3 l] else out.dropLast++[{ c with Lines:=c.Lines++l }]
structure Csm (k B:Nat) (out:List Chunk):Prop where
  len:out.length≤k
  lin:∀ c∈out,c.Lines.length≤B
  oth:∀ c∈out,c.Base.length≤40000∧c.Left.length≤40000∧c.Right.length≤40000
theorem Csm.le {k B k' B':Nat} {o:List Chunk} (h:Csm k B o) (hk:k≤k') (hB:B≤B'):Csm k' B' o :=
  ⟨Nat.le_trans h.len hk,fun c hc=>Nat.le_trans (h.lin c hc) hB,h.oth⟩
theorem plain_f {k B:Nat} {out:List Chunk} (h:Csm k B out) (hk:k≤100000) (hB:B≤100000000) {l:List ByteArray} (hl:l.length≤40000):Cy ⟨out⟩ l=some ⟨Hp out l⟩∧Csm (k+1) (B+l.length) (Hp out l):=by
  have hlen:=h.len;unfold Cy Hp;by_cases h0:l=[]
  · subst h0;rw [if_pos (by simp),if_pos rfl]
    exact ⟨rfl,by omega,fun c hc=>by have:=h.lin c hc;omega,h.oth⟩
  rw [if_neg (by simpa using h0),if_neg h0]
  have hj:∀ (o:List Chunk) (c:Chunk),o.length≤100000→c.Lines.length≤100000000→Cy.j1 l (o++[c])=some ⟨o++[{ c with Lines:=c.Lines++l }]⟩:=by
    intro o c ho hc;unfold Cy.j1;have e1:(((o++[c]).length:Nat):Int) - 1=(o.length:Int):=by rw [List.length_append,List.length_singleton];omega
    have e2:at? (o++[c]) (o.length:Int)=some c:=by rw [C1 (by simp)];simp
    rw [e1,Ck (by omega) (by omega),Option.bind_some,e2,Option.bind_some,Es (by omega),Option.bind_some,Option.bind_some,Int.toNat_natCast]
    simp
  rcases List.eq_nil_or_concat out with rfl | ⟨o,c,rfl⟩
  · rw [if_pos (by simp),Option.bind_some,if_pos rfl,Es (by simp),Option.bind_some,hj [] _ (by simp) (by simp)]
    refine ⟨rfl,by simp,fun c hc=>?_,fun c hc=>?_⟩
    · rw [show (([]:List Chunk).getLast?)=Option.none from rfl] at hc;rw [List.mem_singleton] at hc;subst hc;simp only [N3];omega
    · rw [show (([]:List Chunk).getLast?)=Option.none from rfl] at hc;rw [List.mem_singleton] at hc;subst hc;simp [N3]
  · rw [List.concat_eq_append] at *;rw [List.length_append,List.length_singleton] at *;have e1:((o.length+1:Nat):Int) - 1=(o.length:Int):=by omega
    have e2:at? (o++[c]) (o.length:Int)=some c:=by rw [C1 (by simp)];simp
    have hc:=h.lin c (by simp)
    have hco:=h.oth c (by simp)
    have hgl:(o++[c]).getLast? = some c:=by simp
    have ho:∀ x∈o,x.Lines.length≤B:=fun x hx=>h.lin x (List.mem_append_left _ hx);have hoo:∀ x∈o,x.Base.length≤40000∧x.Left.length≤40000∧x.Right.length≤40000:=fun x hx=>h.oth x (List.mem_append_left _ hx);rw [Bg,if_neg (by omega),Ck (by omega) (by omega),Option.bind_some,e1,e2,Option.bind_some,Option.bind_some,hgl]
    simp only [List.dropLast_concat];cases hcc:c.Conflict
    · rw [if_neg Bool.false_ne_true,if_neg Bool.false_ne_true,hj o c (by omega) (by omega)]
      refine ⟨by rw [hcc],by rw [List.length_append,List.length_singleton];omega,fun x hx=>?_,fun x hx=>?_⟩
      · rcases List.mem_append.1 hx with hx | hx
        · have:=ho x hx;omega
        · rw [List.mem_singleton] at hx;subst hx;simp only [List.length_append];omega
      · rcases List.mem_append.1 hx with hx | hx
        · exact hoo x hx
        · rw [List.mem_singleton] at hx;subst hx;exact hco
    · rw [if_pos rfl,if_pos rfl,Es (by rw [List.length_append,List.length_singleton,List.length_singleton];omega),Option.bind_some,hj (o++[c]) _ (by rw [List.length_append,List.length_singleton];omega) (by simp)]
      refine ⟨rfl,by rw [List.length_append,List.length_append,List.length_singleton,List.length_singleton];omega,fun x hx=>?_,fun x hx=>?_⟩
      · rcases List.mem_append.1 hx with hx | hx
        · have:=h.lin x hx;omega
        · rw [List.mem_singleton] at hx;subst hx;simp only [N3];omega
      · rcases List.mem_append.1 hx with hx | hx
        · exact h.oth x hx
        · rw [List.mem_singleton] at hx;subst hx;simp [N3]
def AA (t:List ByteArray) (P:List Hunk) (r:RX):List ByteArray:=Of t (wi P r) r.Low.toNat r.High.toNat
def mchk (t:List ByteArray) (P Q:List Hunk):List RX→Nat→List Chunk→List Chunk
  | [],at_,o=>Hp o (t.drop at_)
  | r::R,at_,o =>
    if wi Q r=[]∨AA t P r=AA t Q r then mchk t P Q R r.High.toNat (Hp (Hp o ((t.drop at_).take (r.Low.toNat - at_))) (AA t P r))
    else if wi P r=[] then mchk t P Q R r.High.toNat (Hp (Hp o ((t.drop at_).take (r.Low.toNat - at_))) (AA t Q r))
    else mchk t P Q R r.High.toNat (Hp o ((t.drop at_).take (r.Low.toNat - at_))++[⟨true,[],(t.drop r.Low.toNat).take (r.High.toNat - r.Low.toNat),AA t P r,AA t Q r⟩])
theorem AA_len {t:List ByteArray} (ht:t.length≤120) {P:List Hunk} (hP:Side t P) (r:RX):(AA t P r).length≤40000:=by
  have h1:(wi P r).length≤130:=Nat.le_trans (List.length_filter_le _ _) hP.len;have:=rawIn_len t (wi P r) r.Low.toNat r.High.toNat fun h hh=>(hP.ins h (List.mem_filter.1 hh).1).2.2.1;have:((wi P r).length+1) * (120+t.length)≤131 * 240:=Nat.mul_le_mul (by omega) (by omega)
  unfold AA;omega
theorem AA_line {t:List ByteArray} (ht:∀ s∈t,Na s) {P:List Hunk} (hP:Side t P) (r:RX):∀ s∈AA t P r,Na s :=
  rawIn_line ht _ _ _ fun h hh=>(hP.ins h (List.mem_filter.1 hh).1).2.2.2
theorem AA_f {t:List ByteArray} (ht:t.length≤120) {P:List Hunk} (hP:Side t P) {r:RX} (hr:0≤r.Low∧r.Low≤r.High∧r.High≤t.length):Ca (wi P r) t r.Low r.High=some (AA t P r):=by
  have h1:(wi P r).length≤130:=Nat.le_trans (List.length_filter_le _ _) hP.len;have h2:=wi_in (r:=r) hr.1 P (-1) r.Low.toNat hP.chn (fun h hh=>(hP.ins h hh).1) (by omega) (by omega)
  have:=RawIn_f ht h1 (fun h hh=>(hP.ins h (List.mem_filter.1 hh).1).2.2.1) (lo:=r.Low.toNat) (hi:=r.High.toNat) (by omega) h2
  rw [show ((r.Low.toNat:Nat):Int)=r.Low from by omega,show ((r.High.toNat:Nat):Int)=r.High from by omega] at this
  exact this
theorem len0 {α:Type} (l:List α):decide ((l.length:Int)=0)=decide (l=[]):=decide_eq_decide.2 (by cases l <;> simp <;> omega)
theorem b9 (k n:Nat) (hn:n≤40000):k * 90000+120+n≤(k+1) * 90000:=by omega
theorem merge_loop {t:List ByteArray} (ht:t.length≤120) {P Q:List Hunk} (hP:Side t P) (hQ:Side t Q) {f1 f2:Fault} {R:List RX} (hsep:R.Pairwise fun a b=>a.High < b.Low) (hbd:∀ r∈R,0≤r.Low∧r.Low≤r.High∧r.High≤t.length) (hRl:R.length≤260) :
    ∀ (rest:List RX) (k at_:Nat) (o:List Chunk),R.drop k=rest→(∀ r∈rest,(at_:Int)≤r.Low)→at_≤t.length→Csm (3 * k) (k * 90000) o→k≤260 →
      ∃ (a2:Nat) (o2:List Chunk),Dl (fun s=>Ci.l1 t (⟨P⟩,f1) (⟨Q⟩,f2) R s.1 s.2.1 s.2.2) ((k:Int),(at_:Int),o)=some ((a2:Int),o2)∧a2≤t.length∧Csm 1000 30000000 o2∧Hp o2 (t.drop a2)=mchk t P Q rest at_ o
  | [],k,at_,o,hk,_,hat,hc,hk2=>by
    have:=Hi hk;refine ⟨at_,o,Br ?_,hat,⟨by have:=hc.len;omega,fun c hh=>by have:=hc.lin c hh;have:k * 90000≤260 * 90000:=Nat.mul_le_mul_right _ hk2;omega,hc.oth⟩,rfl⟩
    unfold Ci.l1;simp only;rw [Bg,if_neg (by omega)]
  | r::rest,k,at_,o,hk,hle,hat,hc,hk2=>by
    obtain ⟨hlt,hh,hr⟩:=Hr hk;have hb:=hbd r (by rw [← hh];exact List.getElem_mem hlt)
    have hlo:=hle r List.mem_cons_self;have hcl:=hc.len;have hkB:k * 90000≤260 * 90000:=Nat.mul_le_mul_right _ hk2
    have hnext:∀ x∈rest,((r.High.toNat:Nat):Int)≤x.Low:=by
      intro x hx;have hd:(R.drop k).Pairwise fun a b=>a.High < b.Low:=hsep.sublist (List.drop_sublist _ _);rw [hk,List.pairwise_cons] at hd;have:=hd.1 x hx;omega
    have hpre:((t.take r.Low.toNat).drop at_)=(t.drop at_).take (r.Low.toNat - at_):=by rw [List.take_drop];congr 2;omega
    have hbase:((t.take r.High.toNat).drop r.Low.toNat)=(t.drop r.Low.toNat).take (r.High.toNat - r.Low.toNat):=by rw [List.take_drop];congr 2;omega
    have l1:((t.drop at_).take (r.Low.toNat - at_)).length≤120:=by simp;omega
    obtain ⟨p1,p20⟩:=plain_f hc (by omega) (by omega) (l:=(t.drop at_).take (r.Low.toNat - at_)) (by omega)
    have p3:Csm (3 * k+1) (k * 90000+120) (Hp o ((t.drop at_).take (r.Low.toNat - at_))):=Csm.le p20 (Nat.le_refl _) (Nat.add_le_add_left l1 _);clear p20;have hk9:k * 90000+120≤100000000:=Nat.le_trans (Nat.add_le_add_right hkB 120) (by decide)
    have h3k:3 * k+1≤100000:=by omega
    generalize hO:Hp o ((t.drop at_).take (r.Low.toNat - at_))=o1 at p1 p3;have lA:=AA_len ht hP r;have lB:=AA_len ht hQ r;have hB9:∀ n,n≤40000→k * 90000+120+n≤(k+1) * 90000:=fun n hn=>b9 k n hn;obtain ⟨q1,q2⟩:=plain_f p3 h3k hk9 lA;obtain ⟨q3,q4⟩:=plain_f p3 h3k hk9 lB
    have hj:∀ w,Ci.j2 (k:Int) r.High w=some (.next (((k+1:Nat):Int),((r.High.toNat:Nat):Int),w)):=by
      intro w;unfold Ci.j2;rw [Ck (by omega) (by omega),Option.bind_some,show ((r.High.toNat:Nat):Int)=r.High from by omega];rfl
    have key:∀ w,Csm (3 * (k+1)) ((k+1) * 90000) w→Ci.l1 t (⟨P⟩,f1) (⟨Q⟩,f2) R (k:Int) (at_:Int) o=some (.next (((k+1:Nat):Int),((r.High.toNat:Nat):Int),w))→mchk t P Q (r::rest) at_ o=mchk t P Q rest r.High.toNat w →
        ∃ (a2:Nat) (o2:List Chunk),Dl (fun s=>Ci.l1 t (⟨P⟩,f1) (⟨Q⟩,f2) R s.1 s.2.1 s.2.2) ((k:Int),(at_:Int),o)=some ((a2:Int),o2)∧a2≤t.length∧Csm 1000 30000000 o2∧Hp o2 (t.drop a2)=mchk t P Q (r::rest) at_ o:=by
      intro w hw e1 e2;obtain ⟨a2,o2,g1,g2,g3,g4⟩:=merge_loop ht hP hQ hsep hbd hRl rest (k+1) r.High.toNat w hr hnext (by omega) hw (by omega)
      exact ⟨a2,o2,by rw [Cd (m:=fun s:Int×Int×List Chunk=>Ci.l1 t (⟨P⟩,f1) (⟨Q⟩,f2) R s.1 s.2.1 s.2.2) e1];exact g1,g2,g3,by rw [e2];exact g4⟩
    have ho1:=p3.len
    have hstep:Ci.l1 t (⟨P⟩,f1) (⟨Q⟩,f2) R (k:Int) (at_:Int) o=if wi Q r=[]∨AA t P r=AA t Q r then some (.next (((k+1:Nat):Int),((r.High.toNat:Nat):Int),Hp o1 (AA t P r)))
        else if wi P r=[] then some (.next (((k+1:Nat):Int),((r.High.toNat:Nat):Int),Hp o1 (AA t Q r)))
        else some (.next (((k+1:Nat):Int),((r.High.toNat:Nat):Int),o1++[⟨true,[],(t.drop r.Low.toNat).take (r.High.toNat - r.Low.toNat),AA t P r,AA t Q r⟩])):=by
      unfold Ci.l1;simp only
      rw [Bg,if_pos (by omega),C1 hlt,Option.bind_some,hh,Oi (by omega) (by omega) (by omega),Option.bind_some,Int.toNat_natCast,hpre,p1,Option.bind_some,within_f ht hP,Option.bind_some,within_f ht hQ,Option.bind_some,AA_f ht hP hb,Option.bind_some,AA_f ht hQ hb,Option.bind_some,
        sequal_f _ _ (by omega),Option.bind_some,len0,len0]
      have ec:(if decide (wi Q r=[])=true then some true else some (decide (AA t P r=AA t Q r)))=some (decide (wi Q r=[]∨AA t P r=AA t Q r)):=by
        by_cases h:wi Q r=[] <;> simp [h]
      rw [ec,Option.bind_some,Bg,Bg,q1,Option.bind_some,q3,Option.bind_some];simp only;rw [hj,hj,Oi (by omega) (by omega) (by omega),Option.bind_some,hbase,clone_f _ (by simp;omega),Option.bind_some,Es (by rw [List.length_singleton];omega),Option.bind_some,hj]
    by_cases c1:wi Q r=[]∨AA t P r=AA t Q r
    · exact key (Hp o1 (AA t P r)) (Csm.le q2 (by omega) (hB9 _ lA)) (by rw [hstep,if_pos c1]) (by rw [mchk,if_pos c1,hO])
    · by_cases c2:wi P r=[]
      · exact key (Hp o1 (AA t Q r)) (Csm.le q4 (by omega) (hB9 _ lB)) (by rw [hstep,if_neg c1,if_pos c2]) (by rw [mchk,if_neg c1,if_pos c2,hO])
      · refine key (o1++[⟨true,[],(t.drop r.Low.toNat).take (r.High.toNat - r.Low.toNat),AA t P r,AA t Q r⟩]) ⟨by rw [List.length_append,List.length_singleton];omega,fun c hh=>?_,fun c hh=>?_⟩ (by rw [hstep,if_neg c1,if_neg c2]) (by rw [mchk,if_neg c1,if_neg c2,hO])
        · rcases List.mem_append.1 hh with hh | hh
          · exact Nat.le_trans (p3.lin c hh) (Nat.le_trans (Nat.le_add_right _ 0) (hB9 0 (by decide)))
          · rw [List.mem_singleton] at hh;subst hh;simp
        · rcases List.mem_append.1 hh with hh | hh
          · exact p3.oth c hh
          · rw [List.mem_singleton] at hh;subst hh;exact ⟨by simp;omega,lA,lB⟩
noncomputable def chunksF (b l r:List ByteArray):List Chunk:=mchk b (G8 b l) (G8 b r) (regF (G8 b l) (G8 b r)) 0 []
theorem Merge_f {b l r:List ByteArray} (hb:C8 b) (hl:C8 l) (hr:C8 r):Ci b l r=some (chunksF b l r,⟨0,0⟩)∧Csm 1001 40000000 (chunksF b l r):=by
  have ht:=hb.1;have hP:=H3 hb hl;have hQ:=H3 hb hr;have tb:=(Dr b).1 ((Ga b).1 hb);have tl:=(Dr l).1 ((Ga l).1 hl);have tr:=(Dr r).1 ((Ga r).1 hr);have h1:=regF_ok ht hP hQ;obtain ⟨a2,o2,g1,g2,g3,g4⟩:=merge_loop ht hP hQ (f1:=⟨0,0⟩) (f2:=⟨0,0⟩) h1.sep h1.bd (reg_len ht hP hQ) _ 0 0 [] rfl (fun r hr=>(h1.bd r hr).1) (Nat.zero_le _) ⟨by simp,by simp,by simp⟩ (by omega)
  obtain ⟨p1,p2⟩:=plain_f g3 (by omega) (by omega) (l:=b.drop a2) (by simp;omega)
  have e1:Hm b l=some ⟨0,0⟩:=by rw [both_f,if_neg (fun h=>h tb),if_pos tl]
  have e2:Er r (-3)=some ⟨0,0⟩:=by rw [second_f,if_pos tr]
  have e3:Cp b l=some (⟨G8 b l⟩,⟨0,0⟩):=by rw [script_f,if_neg (fun h=>h tb),if_neg (fun h=>h tl)]
  have e4:Cp b r=some (⟨G8 b r⟩,⟨0,0⟩):=by rw [script_f,if_neg (fun h=>h tb),if_neg (fun h=>h tr)]
  unfold Ci;rw [e1,Option.bind_some,if_neg (by simp),e2,Option.bind_some,if_neg (by simp),e3,Option.bind_some,e4,Option.bind_some]
  simp only;rw [regions_f ht hP hQ,Option.bind_some];rw [show ((0:Nat):Int)=0 from rfl] at g1;rw [g1,Option.bind_some];unfold Ci.j1;simp only;rw [Oi (by omega) (by omega) (by omega),Option.bind_some,Int.toNat_natCast,Int.toNat_natCast,List.take_length,p1,Option.bind_some,g4]
  rw [g4] at p2;have:(b.drop a2).length≤120:=by simp;omega
  exact ⟨rfl,Csm.le p2 (by omega) (by omega)⟩
def nrm (s:List ByteArray):List Chunk:=if s=[] then [] else [N3 s]
def hasC (o:List Chunk):Bool:=o.any (·.Conflict)
theorem O1 (x l:List ByteArray):Hp (nrm x) l=nrm (x++l):=by
  unfold Hp nrm;by_cases hl:l=[]
  · subst hl;rw [if_pos rfl,List.append_nil]
  rw [if_neg hl];by_cases hx:x=[]
  · subst hx;show [N3 l]=if l=[] then [] else [N3 l]
    rw [if_neg hl]
  · rw [if_neg hx,if_neg (by simp [hx])];rfl
theorem Mn {o:List Chunk} (l:List ByteArray) (h:hasC o=true):hasC (Hp o l)=true:=by
  unfold Hp;by_cases hl:l=[]
  · rw [if_pos hl];exact h
  rw [if_neg hl];rcases List.eq_nil_or_concat o with rfl | ⟨q,c,rfl⟩
  · cases h
  · rw [List.concat_eq_append] at *;unfold hasC at *;simp only [List.getLast?_append,List.getLast?_singleton,Option.some_or,List.dropLast_concat];rw [List.any_append] at h;split
    · rw [List.any_append,List.any_append,h];rfl
    · rw [List.any_append];simp only [List.any_cons,List.any_nil,Bool.or_false] at h ⊢;exact h
def cmT (t:List ByteArray) (P Q:List Hunk):List RX→Nat→Option (List ByteArray)
  | [],at_=>some (t.drop at_)
  | r::R,at_ =>
    if wi Q r=[]∨AA t P r=AA t Q r then (cmT t P Q R r.High.toNat).map fun y=>(t.drop at_).take (r.Low.toNat - at_)++(AA t P r++y)
    else if wi P r=[] then (cmT t P Q R r.High.toNat).map fun y=>(t.drop at_).take (r.Low.toNat - at_)++(AA t Q r++y)
    else Option.none
theorem mchk_hasC {t:List ByteArray} {P Q:List Hunk}:∀ (R:List RX) (at_:Nat) (o:List Chunk),hasC o=true→hasC (mchk t P Q R at_ o)=true
  | [],at_,o,h=>by rw [mchk];exact Mn _ h
  | r::R,at_,o,h=>by
    rw [mchk];split
    · exact mchk_hasC R _ _ (Mn _ (Mn _ h))
    · split
      · exact mchk_hasC R _ _ (Mn _ (Mn _ h))
      · refine mchk_hasC R _ _ ?_;have:=Mn ((t.drop at_).take (r.Low.toNat - at_)) h;unfold hasC at *;rw [List.any_append,this];rfl
theorem mchk_cm {t:List ByteArray} {P Q:List Hunk}:∀ (R:List RX) (at_:Nat) (x:List ByteArray),(∃ y,cmT t P Q R at_=some y∧mchk t P Q R at_ (nrm x)=nrm (x++y))∨(cmT t P Q R at_=Option.none∧hasC (mchk t P Q R at_ (nrm x))=true)
  | [],at_,x=>.inl ⟨_,rfl,by rw [mchk,O1]⟩
  | r::R,at_,x=>by
    rw [mchk,cmT];by_cases c1:wi Q r=[]∨AA t P r=AA t Q r
    · rw [if_pos c1,if_pos c1,O1,O1];rcases mchk_cm (t:=t) (P:=P) (Q:=Q) R r.High.toNat (x++(t.drop at_).take (r.Low.toNat - at_)++AA t P r) with ⟨y,h1,h2⟩ | ⟨h1,h2⟩
      · exact .inl ⟨_,by rw [h1];rfl,by rw [h2];simp⟩
      · exact .inr ⟨by rw [h1];rfl,h2⟩
    · rw [if_neg c1,if_neg c1];by_cases c2:wi P r=[]
      · rw [if_pos c2,if_pos c2,O1,O1];rcases mchk_cm (t:=t) (P:=P) (Q:=Q) R r.High.toNat (x++(t.drop at_).take (r.Low.toNat - at_)++AA t Q r) with ⟨y,h1,h2⟩ | ⟨h1,h2⟩
        · exact .inl ⟨_,by rw [h1];rfl,by rw [h2];simp⟩
        · exact .inr ⟨by rw [h1];rfl,h2⟩
      · rw [if_neg c2,if_neg c2];refine .inr ⟨rfl,mchk_hasC _ _ _ ?_⟩;unfold hasC;rw [List.any_append];simp
theorem cmT_line {t:List ByteArray} (ht:∀ s∈t,Na s) {P Q:List Hunk} (hP:Side t P) (hQ:Side t Q):∀ (R:List RX) (at_:Nat) (y:List ByteArray),cmT t P Q R at_=some y→∀ s∈y,Na s
  | [],at_,y,h,s,hs=>by rw [cmT] at h;cases h;exact ht s (List.mem_of_mem_drop hs)
  | r::R,at_,y,h,s,hs=>by
    rw [cmT] at h;split at h
    · cases hc:cmT t P Q R r.High.toNat with
      | none=>rw [hc] at h;cases h
      | some z =>
        rw [hc] at h;cases h;rcases List.mem_append.1 hs with h1 | h1
        · exact ht s (List.mem_of_mem_drop (List.mem_of_mem_take h1))
        · rcases List.mem_append.1 h1 with h1 | h1
          · exact AA_line ht hP r s h1
          · exact cmT_line ht hP hQ R _ _ hc s h1
    · split at h
      · cases hc:cmT t P Q R r.High.toNat with
        | none=>rw [hc] at h;cases h
        | some z =>
          rw [hc] at h;cases h;rcases List.mem_append.1 hs with h1 | h1
          · exact ht s (List.mem_of_mem_drop (List.mem_of_mem_take h1))
          · rcases List.mem_append.1 h1 with h1 | h1
            · exact AA_line ht hQ r s h1
            · exact cmT_line ht hP hQ R _ _ hc s h1
      · cases h
theorem check_l2 (k:Int) (c:Chunk):∃ r,Dl (fun s=>Bl.l2 k c s) 0=some r∧((r=.inr ()∧(Bo c.Lines).Code=0)∨(∃ f,r=.inl f∧f.Code≠0))∧((Bo c.Lines).Code=0→(Bo c.Base).Code=0→(Bo c.Left).Code=0→(Bo c.Right).Code=0→r=.inr ()):=by
  have st:∀ (j:Nat) (l:List ByteArray),j < 4→[c.Lines,c.Base,c.Left,c.Right][j]? = some l→Bl.l2 k c (j:Int)=if (Bo l).Code=0 then some (.next ((j:Int)+1)) else some (.done (.inl ⟨(Bo l).Code,k⟩)):=by
    intro j l hj hl;unfold Bl.l2;rw [Bg,if_pos (by omega),show at? [c.Lines,c.Base,c.Left,c.Right] (j:Int)=some l from by unfold at?;rw [if_pos (by omega)];simpa using hl,Option.bind_some,second_f,Option.bind_some]
    by_cases h:(Bo l).Code=0
    · rw [if_pos h,if_pos h,if_neg (by simp),Ck (by omega) (by omega),Option.bind_some]
    · rw [if_neg h,if_neg h,if_pos (by simp [h])]
  have s0:=st 0 c.Lines (by omega) rfl
  have s1:=st 1 c.Base (by omega) rfl
  have s2:=st 2 c.Left (by omega) rfl
  have s3:=st 3 c.Right (by omega) rfl
  have s4:Bl.l2 k c 4=some (.done (.inr ())):=by unfold Bl.l2;rw [Bg,if_neg (by decide)]
  rw [show ((0:Nat):Int)=0 from rfl,show (0:Int)+1=1 from rfl] at s0;rw [show ((1:Nat):Int)=1 from rfl,show (1:Int)+1=2 from rfl] at s1;rw [show ((2:Nat):Int)=2 from rfl,show (2:Int)+1=3 from rfl] at s2;rw [show ((3:Nat):Int)=3 from rfl,show (3:Int)+1=4 from rfl] at s3;by_cases h0:(Bo c.Lines).Code=0
  case neg=>rw [if_neg h0] at s0;exact ⟨_,Br s0,.inr ⟨_,rfl,h0⟩,fun h=>absurd h h0⟩
  rw [if_pos h0] at s0;rw [Cd s0];by_cases h1:(Bo c.Base).Code=0
  case neg=>rw [if_neg h1] at s1;exact ⟨_,Br s1,.inr ⟨_,rfl,h1⟩,fun _ h=>absurd h h1⟩
  rw [if_pos h1] at s1;rw [Cd s1];by_cases h2:(Bo c.Left).Code=0
  case neg=>rw [if_neg h2] at s2;exact ⟨_,Br s2,.inr ⟨_,rfl,h2⟩,fun _ _ h=>absurd h h2⟩
  rw [if_pos h2] at s2;rw [Cd s2];by_cases h3:(Bo c.Right).Code=0
  case neg=>rw [if_neg h3] at s3;exact ⟨_,Br s3,.inr ⟨_,rfl,h3⟩,fun _ _ _ h=>absurd h h3⟩
  rw [if_pos h3] at s3;rw [Cd s3];exact ⟨_,Br s4,.inl ⟨rfl,h0⟩,fun _ _ _ _=>rfl⟩
theorem check_tot {k B:Nat} {o:List Chunk} (h:Csm k B o) (hk:k≤100000) (hB:B≤100000000):∃ f,Bl o=some f∧(f=⟨0,0⟩∨f.Code≠0)∧(f=⟨0,0⟩→∀ c∈o,(Bo c.Lines).Code=0):=by
  have hl:=h.len;unfold Bl;rw [Bg];by_cases h1:(o.length:Int) > 240
  · rw [if_pos h1];exact ⟨_,rfl,.inr (by decide),fun h=>by cases h⟩
  rw [if_neg h1]
  have key:∀ (d k:Nat),k+d=o.length→(∀ j (hj:j < o.length),j < k→(Bo o[j].Lines).Code=0)→∃ r,Dl (fun s=>Bl.l1 o s) (k:Int)=some r∧((r=.inr ()∧∀ c∈o,(Bo c.Lines).Code=0)∨∃ f,r=.inl f∧f.Code≠0):=by
    intro d
    induction d with
    | zero =>
      intro k hk hpre;refine ⟨_,Br (r:=.inr ()) ?_,.inl ⟨rfl,fun c hc=>?_⟩⟩
      · unfold Bl.l1;rw [Bg,if_neg (by omega)]
      · obtain ⟨j,hj,rfl⟩:=List.getElem_of_mem hc;exact hpre j hj (by omega)
    | succ d ih =>
      intro k hk hpre;have hlt:k < o.length:=by omega
      obtain ⟨r,e,hr,_⟩:=check_l2 (k:Int) o[k];have hc:=h.lin _ (List.getElem_mem hlt);have ho:=h.oth _ (List.getElem_mem hlt);rcases hr with ⟨rfl,h0⟩ | ⟨f,rfl,hf⟩
      · have hs:Bl.l1 o (k:Int)=some (.next (((k+1:Nat):Int)))∨∃ f,Bl.l1 o (k:Int)=some (.done (.inl f))∧f.Code≠0:=by
          unfold Bl.l1;rw [Bg,if_pos (by omega),C1 hlt,Option.bind_some,e,Option.bind_some]
          simp only;unfold Bl.j3;rw [Ck (by omega) (by omega),Option.bind_some,Ck (by omega) (by omega),Option.bind_some]
          have hb:∃ z:Bool,((if o[k].Conflict=true then some (decide ((o[k].Lines.length:Int) > 0)) else some false).bind fun x3=>(if x3=true then some true else (if (!o[k].Conflict)=true then (if decide ((o[k].Lines.length:Int)=0)=true then some true else some (decide ((o[k].Base.length:Int)+(o[k].Left.length:Int)+(o[k].Right.length:Int) > 0))).bind fun x6=>some x6 else some false).bind fun x5=>some x5))=some z:=by
            generalize decide ((o[k].Lines.length:Int) > 0)=z1;generalize decide ((o[k].Lines.length:Int)=0)=z2;generalize decide ((o[k].Base.length:Int)+(o[k].Left.length:Int)+(o[k].Right.length:Int) > 0)=z3;cases o[k].Conflict <;> cases z1 <;> cases z2 <;> cases z3 <;> exact ⟨_,rfl⟩
          obtain ⟨z,hz⟩:=hb;rw [← Option.bind_assoc,hz,Option.bind_some];cases z
          · rw [if_neg Bool.false_ne_true];unfold Bl.j2;rw [Ck (by omega) (by omega),Option.bind_some]
            exact .inl rfl
          · rw [if_pos rfl];exact .inr ⟨_,rfl,by simp⟩
        rcases hs with hs | ⟨f,hs,hf⟩
        · rw [Cd hs];refine ih (k+1) (by omega) fun j hj hjk=>?_
          rcases Nat.lt_or_eq_of_le (Nat.le_of_lt_succ hjk) with h2 | h2
          · exact hpre j hj h2
          · subst h2;exact h0
        · exact ⟨_,Br hs,.inr ⟨f,rfl,hf⟩⟩
      · refine ⟨_,Br (r:=.inl f) ?_,.inr ⟨f,rfl,hf⟩⟩;unfold Bl.l1;rw [Bg,if_pos (by omega),C1 hlt,Option.bind_some,e,Option.bind_some]
  obtain ⟨r,e,hr⟩:=key o.length 0 (by omega) (fun _ _ h=>absurd h (by omega))
  rw [show ((0:Nat):Int)=0 from rfl] at e;rw [e,Option.bind_some];rcases hr with ⟨rfl,h2⟩ | ⟨f,rfl,hf⟩
  · exact ⟨_,rfl,.inl rfl,fun _=>h2⟩
  · exact ⟨f,rfl,.inr hf,fun hh=>by rw [hh] at hf;exact absurd rfl hf⟩
theorem check_nrm {s:List ByteArray} (h:C8 s):Bl (nrm s)=some ⟨0,0⟩:=by
  have h0:=(Dr s).1 ((Ga s).1 h);have hl:=h.1;have hn:(Bo []).Code=0:=by decide +kernel
  unfold nrm;by_cases hs:s=[]
  · rw [if_pos hs];unfold Bl;have e:Bl.l1 [] 0=some (.done (.inr ())):=by unfold Bl.l1;rw [Bg,if_neg (by simp)]
    rw [Bg,if_neg (by simp),Br e];rfl
  · rw [if_neg hs];have hlen:s.length≠0:=fun h=>hs (List.eq_nil_of_length_eq_zero h);unfold Bl;obtain ⟨r,e,_,hr⟩:=check_l2 0 (N3 s);have hr:=hr h0 hn hn hn;subst hr
    have e1:Bl.l1 [N3 s] 0=some (.next 1):=by
      unfold Bl.l1;rw [Bg,if_pos (by simp),show at? [N3 s] 0=some (N3 s) from rfl,Option.bind_some,e,Option.bind_some]
      simp only;unfold Bl.j3 N3;simp only;rw [Ck (by simp) (by simp),Option.bind_some,Ck (by simp) (by simp),Option.bind_some]
      have hd:decide ((s.length:Int)=0)=false:=by simpa using hs
      simp only [Bool.false_eq_true,if_false,Option.bind_some,Bool.not_false,if_true,hd,List.length_nil];unfold Bl.j2;rfl
    have e2:Bl.l1 [N3 s] 1=some (.done (.inr ())):=by unfold Bl.l1;rw [Bg,if_neg (by simp)]
    rw [Bg,if_neg (by simp),Cd e1,Br e2];rfl
theorem clean_hit {k B:Nat} {o:List Chunk} (h:Csm k B o) (hk:k≤1100) (hB:B≤100000000) (hc:hasC o=true):Dl (fun s=>Cl.l1 o s.1 s.2) (0,[])=some (.inl ([],false,⟨0,0⟩)):=by
  have hl:=h.len
  have hex:∃ j,∃ hj:j < o.length,o[j].Conflict=true:=by
    unfold hasC at hc;rw [List.any_eq_true] at hc;obtain ⟨c,h1,h2⟩:=hc;obtain ⟨j,hj,rfl⟩:=List.getElem_of_mem h1;exact ⟨j,hj,h2⟩
  obtain ⟨r,e,hr⟩:=inv_loopE (f:=fun s=>Cl.l1 o s.1 s.2) 0 o.length (Nat.zero_le _) (fun i s=>s.length≤i * 100000000∧∀ j (hj:j < o.length),j < i→o[j].Conflict=false) (fun r=>r=.inl ([],false,⟨0,0⟩)) (by
    rintro i s _ hi ⟨g1,g2⟩;have hlin:=h.lin _ (List.getElem_mem hi);unfold Cl.l1;simp only;rw [Bg,if_pos (by omega),C1 hi,Option.bind_some]
    cases hcc:o[i].Conflict
    · left;have:i * 100000000≤1100 * 100000000:=Nat.mul_le_mul_right _ (by omega)
      rw [if_neg Bool.false_ne_true,Es (by omega),Option.bind_some,Ck (by omega) (by omega),Option.bind_some]
      refine ⟨_,rfl,by rw [List.length_append];omega,fun j hj hji=>?_⟩
      rcases Nat.lt_or_eq_of_le (Nat.le_of_lt_succ hji) with h2 | h2
      · exact g2 j hj h2
      · subst h2;exact hcc
    · right;rw [if_pos rfl];exact ⟨_,rfl,rfl⟩) (by
    rintro s ⟨_,g2⟩;obtain ⟨j,hj,h1⟩:=hex;rw [g2 j hj hj] at h1;cases h1) [] ⟨by simp,fun j _ h=>by omega⟩
  rw [show ((0:Nat):Int)=0 from rfl] at e;rw [e,hr]
noncomputable def Lt (b l r:List ByteArray):Option (List ByteArray) :=
  match cmT b (G8 b l) (G8 b r) (regF (G8 b l) (G8 b r)) 0 with
  | Option.none=>Option.none
  | some s=>if s.length≤120 then some s else Option.none
theorem clean_f {b l r:List ByteArray} (hb:C8 b) (hl:C8 l) (hr:C8 r):∃ s ok f,Cl (chunksF b l r)=some (s,ok,f)∧((Lt b l r=some s∧ok=true∧f=⟨0,0⟩∧C8 s)∨(Lt b l r=Option.none∧ok=false)):=by
  have hsm:=(Merge_f hb hl hr).2;have hP:=H3 hb hl;have hQ:=H3 hb hr;have hch:=mchk_cm (t:=b) (P:=G8 b l) (Q:=G8 b r) (regF (G8 b l) (G8 b r)) 0 [];rw [show nrm []=[] from rfl] at hch;unfold Cl;unfold Lt;rcases hch with ⟨y,h1,h2⟩ | ⟨h1,h2⟩
  · rw [List.nil_append] at h2;have hy:=cmT_line hb.2 hP hQ _ _ _ h1;rw [h1];simp only;have hcf:chunksF b l r=nrm y:=h2;rw [hcf] at hsm ⊢;by_cases h120:y.length≤120
    · have hok:C8 y:=⟨h120,hy⟩;rw [if_pos h120,check_nrm hok,Option.bind_some,if_neg (by simp)]
      refine ⟨y,true,⟨0,0⟩,?_,.inl ⟨rfl,rfl,rfl,hok⟩⟩;have hw:Ma y=some (y,⟨0,0⟩):=by unfold Ma;rw [Bg,if_neg (by omega)]
      unfold nrm;by_cases hy0:y=[]
      · rw [if_pos hy0];have e:Cl.l1 [] 0 []=some (.done (.inr [])):=by unfold Cl.l1;rw [Bg,if_neg (by simp)]
        rw [Br (m:=fun s:Int×List ByteArray=>Cl.l1 [] s.1 s.2) e,Option.bind_some];unfold Cl.j1;simp only;rw [← hy0,hw];rfl
      · rw [if_neg hy0]
        have e1:Cl.l1 [N3 y] 0 []=some (.next (1,y)):=by
          unfold Cl.l1;rw [Bg,if_pos (by simp),show at? [N3 y] 0=some (N3 y) from rfl,Option.bind_some]
          unfold N3;simp only;rw [if_neg Bool.false_ne_true,Es (by simp;omega),Option.bind_some,Ck (by omega) (by omega),Option.bind_some];rfl
        have e2:Cl.l1 [N3 y] 1 y=some (.done (.inr y)):=by unfold Cl.l1;rw [Bg,if_neg (by simp)]
        rw [Cd (m:=fun s:Int×List ByteArray=>Cl.l1 [N3 y] s.1 s.2) e1,Br (m:=fun s:Int×List ByteArray=>Cl.l1 [N3 y] s.1 s.2) e2,Option.bind_some];unfold Cl.j1;simp only;rw [hw];rfl
    · rw [if_neg h120];obtain ⟨f,e,hf,hok⟩:=check_tot hsm (by omega) (by omega)
      rw [e,Option.bind_some];rcases hf with rfl | hf
      · have hy0:y≠[]:=fun h=>by subst h;simp at h120
        have:=hok rfl (N3 y) (by unfold nrm;rw [if_neg hy0];simp)
        have h3:=((Ga y).2 ((Dr y).2 this)).1;exact absurd h3 h120
      · rw [if_pos (by simp [hf])]
        exact ⟨_,_,_,rfl,.inr ⟨rfl,rfl⟩⟩
  · rw [h1];simp only;have hc:hasC (chunksF b l r)=true:=h2;obtain ⟨f,e,hf,_⟩:=check_tot hsm (by omega) (by omega)
    rw [e,Option.bind_some];rcases hf with rfl | hf
    · rw [if_neg (by simp),clean_hit hsm (by omega) (by omega) hc,Option.bind_some]
      exact ⟨_,_,_,rfl,.inr ⟨trivial,rfl⟩⟩
    · rw [if_pos (by simp [hf])]
      exact ⟨_,_,_,rfl,.inr ⟨trivial,rfl⟩⟩
theorem cmT_comm (t:List ByteArray) (P Q:List Hunk):∀ (R:List RX) (at_:Nat),cmT t P Q R at_=cmT t Q P R at_
  | [],at_=>rfl
  | r::R,at_=>by
    rw [cmT,cmT,cmT_comm t P Q R];by_cases e:AA t P r=AA t Q r
    · rw [if_pos (.inr e),if_pos (.inr e.symm),e]
    · by_cases hQ:wi Q r=[]
      · have hP:wi P r≠[]:=fun hP=>e (by unfold AA;rw [hP,hQ])
        rw [if_pos (.inl hQ),if_neg (by simp [hP,Ne.symm e]),if_pos hQ]
      · by_cases hP:wi P r=[]
        · rw [if_neg (by simp [hQ,e]),if_pos hP,if_pos (.inl hP)]
        · rw [if_neg (by simp [hQ,e]),if_neg hP,if_neg (by simp [hP,Ne.symm e]),if_neg hQ]
theorem clean3_comm {b l r:List ByteArray} (hb:C8 b) (hl:C8 l) (hr:C8 r):Lt b l r=Lt b r l:=by
  unfold Lt;rw [regF_comm hb.1 (H3 hb hl) (H3 hb hr),cmT_comm]
end Go.Dc
