import Derived.Test.YtmhjcomgbfonfaaGreatDoorDcJ0
import Derived.Test.YtmhjcomgbfonfaaGreatDoorDcR
set_option linter.unusedSimpArgs false
set_option linter.unusedVariables false
set_option maxRecDepth 4000
namespace Go.Dc
open Go
structure Side (t:List ByteArray) (hs:List Hunk):Prop where
  chn:Chn (-1) hs
  ins:∀ h∈hs,0≤h.At∧h.At+h.Old.length≤t.length∧h.New.length≤120∧∀ s∈h.New,Na s
  len:hs.length≤130
theorem H3 {a b:List ByteArray} (ha:C8 a) (hb:C8 b):Side a (G8 a b):=by
  have h0:ScI a b ([],0,false) 0 0:=⟨rfl,Nat.le_refl _,by simp [preS,endS],fun h=>by simp at h,fun _=>.inl rfl,trivial,fun h hh=>by cases hh⟩
  have h:=scr_ok _ 0 0 _ rfl (Nat.zero_le _) (Nat.zero_le _) h0;rw [List.drop_zero,List.drop_zero] at h;obtain ⟨_,g2⟩:=good_of ha hb (G8 a b) (-1) h.chn h.each;have hlen:=g2 (by omega) (by omega)
  refine ⟨h.chn,fun x hx=>?_,by omega⟩
  obtain ⟨p,q,h1,h2,h3,h4,h5,_⟩:=h.each x hx;have:=hb.1;refine ⟨by omega,by omega,by omega,fun s hs=>?_⟩
  rw [h5] at hs;exact hb.2 s (List.mem_of_mem_drop (List.mem_of_mem_take hs))
theorem Side.sm {t:List ByteArray} (ht:t.length≤120) {hs:List Hunk} (h:Side t hs):Sm 120 hs:=⟨h.len,fun x hx=>by
  obtain ⟨h1,h2,h3,_⟩:=h.ins x hx;exact ⟨by omega,by omega,by omega,h3⟩⟩
abbrev RX:=RangeX_commute
def rx (h:Hunk):RX:=⟨h.At,h.At+h.Old.length,[]⟩
def L2 (x y:RX):Prop:=x.Low < y.Low∨(x.Low=y.Low∧x.High < y.High)
def RB (n:Nat) (r:RX):Prop:=0≤r.Low∧r.Low≤r.High∧r.High≤n∧r.Growth=[]
theorem s2_f {n:Nat} (hn:n≤120) {x y:RX} (hx:RB n x) (hy:RB n y):∃ r,C6 x y=some r∧(r < 0↔L2 x y):=by
  obtain ⟨x1,x2,x3,_⟩:=hx;obtain ⟨y1,y2,y3,_⟩:=hy;unfold C6 L2;rw [Kh];by_cases h:x.Low=y.Low
  · rw [if_pos h,Ck (by omega) (by omega),Option.bind_some]
    exact ⟨_,rfl,by omega⟩
  · rw [if_neg h,Ck (by omega) (by omega),Option.bind_some]
    exact ⟨_,rfl,by omega⟩
theorem s2_lt {n:Nat} (hn:n≤120) {x y:RX} (hx:RB n x) (hy:RB n y):ltM C6 x y=true↔L2 x y:=by
  obtain ⟨r,e,h⟩:=s2_f hn hx hy;unfold ltM;rw [e,Option.getD_some,decide_eq_true_eq];exact h
theorem s2_ge {n:Nat} (hn:n≤120) {x y:RX} (hx:RB n x) (hy:RB n y):ltM C6 x y=false↔¬ L2 x y:=by
  rw [← s2_lt hn hx hy];simp
theorem fitX {n:Nat} (hn:n≤120) {l:List RX} (h:∀ x∈l,RB n x):CmpFit C6 l where
  some_:=fun x hx y hy=>by obtain ⟨r,e,_⟩:=s2_f hn (h x hx) (h y hy);exact ⟨r,e⟩
  irrefl:=fun x hx=>(s2_ge hn (h x hx) (h x hx)).2 (by unfold L2;omega)
  trans:=fun x hx y hy z hz h1 h2=>(s2_lt hn (h x hx) (h z hz)).2 (by
    have h1:=(s2_lt hn (h x hx) (h y hy)).1 h1;have h2:=(s2_lt hn (h y hy) (h z hz)).1 h2;unfold L2 at *;omega)
  ntrans:=fun x hx y hy z hz h1 h2=>(s2_ge hn (h x hx) (h z hz)).2 (by
    have h1:=(s2_ge hn (h x hx) (h y hy)).1 h1;have h2:=(s2_ge hn (h y hy) (h z hz)).1 h2;unfold L2 at *;omega)
  anti:=fun x hx y hy h1 h2=>by
    have h1:=(s2_ge hn (h x hx) (h y hy)).1 h1;have h2:=(s2_ge hn (h y hy) (h x hx)).1 h2;have e1:=(h x hx).2.2.2;have e2:=(h y hy).2.2.2;obtain ⟨a,b,c⟩:=x;obtain ⟨a',b',c'⟩:=y;simp only at e1 e2;unfold L2 at h1 h2;simp only at h1 h2;have:a=a'∧b=b':=by omega
    rw [this.1,this.2,e1,e2]
def touchB (a b:RX):Bool:=decide (a.High ≥ b.Low) && decide (b.High ≥ a.Low)
def My (out:List RX) (r:RX):List RX:=match out.getLast? with
  | Option.none=>[r]
  | some l=>if touchB l r=true then out.dropLast++[⟨l.Low,max l.High r.High,l.Growth⟩] else out++[r]
theorem touch_x (a b:RX):Kf a b=some (touchB a b):=by
  unfold Kf touchB;by_cases h:a.High ≥ b.Low <;> simp [h]
theorem rstep_len (out:List RX) (r:RX):(My out r).length≤out.length+1:=by
  unfold My;split
  · simp
  · split <;> simp
theorem fold_len:∀ (l out:List RX),(l.foldl My out).length≤out.length+l.length
  | [],out=>by simp
  | r::l,out=>by
    have:=fold_len l (My out r);have:=rstep_len out r;rw [List.foldl_cons,List.length_cons];omega
theorem rg_loop {ys:List RX} (hl:ys.length≤1000):Dl (fun s=>Cn.l1 ys s.1 s.2) (0,[])=some (ys.foldl My []):=by
  obtain ⟨r,e,rfl⟩:=Oy (f:=fun s=>Cn.l1 ys s.1 s.2) ys.length (fun k s=>s=(ys.take k).foldl My []) (fun r=>r=ys.foldl My []) (by
    rintro k s hk hs;have hlen:=fold_len (ys.take k) [];rw [← hs,List.length_take,List.length_nil] at hlen
    have hj:∀ w,Cn.j2 (k:Int) w=some (.next (((k+1:Nat):Int),w)):=by
      intro w;unfold Cn.j2;rw [Ck (by omega) (by omega),Option.bind_some];rfl
    refine ⟨My s ys[k],?_,by rw [List.take_succ_eq_append_getElem hk,List.foldl_append,← hs];rfl⟩
    unfold Cn.l1;simp only;rw [Bg,if_pos (by omega),C1 hk,Option.bind_some]
    unfold My;rcases List.eq_nil_or_concat s with rfl | ⟨o,l,rfl⟩
    · rw [Bg,if_neg (by simp),Option.bind_some,if_neg Bool.false_ne_true,Es (by simp),Option.bind_some,hj];rfl
    · rw [List.concat_eq_append] at *;rw [List.length_append,List.length_singleton] at *;have e1:((o.length+1:Nat):Int) - 1=(o.length:Int):=by omega
      have e2:at? (o++[l]) (o.length:Int)=some l:=by rw [C1 (by simp)];simp
      rw [Bg,if_pos (by omega),Ck (by omega) (by omega),Option.bind_some,e1,e2,Option.bind_some,touch_x,Option.bind_some,Option.bind_some]
      simp only [List.getLast?_append,List.getLast?_singleton,Option.some_or,List.dropLast_concat];cases ht:touchB l ys[k]
      · rw [if_neg Bool.false_ne_true,if_neg Bool.false_ne_true,Es (by simp;omega),Option.bind_some,hj]
      · rw [if_pos rfl,if_pos rfl];simp only [e2,Option.bind_some];rw [hj,Int.toNat_natCast]
        simp) (by
    rintro s rfl;unfold Cn.l1;simp only;rw [Bg,if_neg (by omega),List.take_length]
    exact ⟨_,rfl,rfl⟩) [] rfl
  exact e
noncomputable def regF (P Q:List Hunk):List RX:=((P.map rx++Q.map rx).mergeSort fun x y=>!ltM C6 y x).foldl My []
theorem rb_of {t:List ByteArray} {hs:List Hunk} (h:Side t hs):∀ r∈hs.map rx,RB t.length r:=by
  intro r hr;obtain ⟨x,hx,rfl⟩:=List.mem_map.1 hr;obtain ⟨h1,h2,_⟩:=h.ins x hx;exact ⟨h1,by unfold rx;simp only;omega,h2,rfl⟩
theorem rb_both {t:List ByteArray} {P Q:List Hunk} (hP:Side t P) (hQ:Side t Q):∀ r∈P.map rx++Q.map rx,RB t.length r:=by
  intro r hr;rcases List.mem_append.1 hr with hr | hr
  · exact rb_of hP r hr
  · exact rb_of hQ r hr
theorem regions_f {t:List ByteArray} (ht:t.length≤120) {P Q:List Hunk} (hP:Side t P) (hQ:Side t Q):Cn ⟨P⟩ ⟨Q⟩=some (regF P Q):=by
  have h1:=hP.len;have h2:=hQ.len;have hm:∀ l:List Hunk,(l.map rng).map Gv=l.map rx:=fun l=>by rw [List.map_map];rfl
  unfold Cn;rw [oldRanges_f (by omega) ⟨P⟩ (hP.sm ht),Option.bind_some,oldRanges_f (by omega) ⟨Q⟩ (hQ.sm ht),Option.bind_some]
  simp only;rw [hm,hm,Es (by simp;omega),Option.bind_some,sortM_eq (fitX ht (rb_both hP hQ)) (by simp;omega),Option.bind_some,rg_loop (Nat.le_trans (Nat.le_of_eq (List.mergeSort_perm _ _).length_eq) (by rw [List.length_append,List.length_map,List.length_map];omega)),Option.bind_some]
  rfl
theorem regF_comm {t:List ByteArray} (ht:t.length≤120) {P Q:List Hunk} (hP:Side t P) (hQ:Side t Q):regF P Q=regF Q P:=by
  unfold regF;have h1:=List.mergeSort_perm (P.map rx++Q.map rx) fun x y=>!ltM C6 y x;rw [sortM_uniq (fitX ht (rb_both hQ hP)) (h1.trans List.perm_append_comm) (sortM_pw (fitX ht (rb_both hP hQ)))]
structure Rgs (n:Nat) (all out:List RX):Prop where
  sep:out.Pairwise fun a b=>a.High < b.Low
  bd:∀ r∈out,0≤r.Low∧r.Low≤r.High∧r.High≤n
  cov:∀ a∈all,∃ r∈out,r.Low≤a.Low∧a.High≤r.High
  len:out.length≤all.length
theorem rgs_fold {n:Nat}:∀ (rest pre out:List RX),Rgs n pre out→(∀ b∈rest,RB n b)→(∀ l,out.getLast? = some l→∀ b∈rest,l.Low≤b.Low)→rest.Pairwise (fun x y=>x.Low≤y.Low)→Rgs n (pre++rest) (rest.foldl My out)
  | [],pre,out,h,_,_,_=>by simpa using h
  | r::rest,pre,out,h,hb,hL,hp=>by
    rw [List.pairwise_cons] at hp;obtain ⟨r1,r2,r3,_⟩:=hb r List.mem_cons_self;have hb':∀ b∈rest,RB n b:=fun b hb2=>hb b (List.mem_cons_of_mem _ hb2);have hlen:=h.len;rw [List.foldl_cons,show pre++r::rest=(pre++[r])++rest from by simp]
    rcases List.eq_nil_or_concat out with rfl | ⟨o,l,rfl⟩
    · refine rgs_fold rest _ _ ⟨List.pairwise_singleton _ _,?_,?_,by have:(My [] r).length=1:=rfl;rw [List.length_append,List.length_singleton];omega⟩ hb' ?_ hp.2
      · intro x hx;rw [show My [] r=[r] from rfl,List.mem_singleton] at hx;subst hx;exact ⟨r1,r2,r3⟩
      · intro a ha;rcases List.mem_append.1 ha with ha | ha
        · obtain ⟨x,hx,_⟩:=h.cov a ha;cases hx
        · rw [List.mem_singleton] at ha;subst ha;exact ⟨a,by rw [show My [] a=[a] from rfl];simp,Int.le_refl _,Int.le_refl _⟩
      · intro l hl b hb2;rw [show My [] r=[r] from rfl,List.getLast?_singleton] at hl;cases hl;exact hp.1 b hb2
    · rw [List.concat_eq_append] at *;have hgl:(o++[l]).getLast? = some l:=by simp
      have hlr:=hL l hgl r List.mem_cons_self;obtain ⟨l1,l2,l3⟩:=h.bd l (by simp)
      have hsep:=h.sep;rw [List.pairwise_append] at hsep
      have est:My (o++[l]) r=if touchB l r=true then o++[⟨l.Low,max l.High r.High,l.Growth⟩] else o++[l]++[r]:=by
        unfold My;rw [hgl];simp only [List.dropLast_concat]
      rw [List.length_append,List.length_singleton] at hlen;rw [est];by_cases ht:touchB l r=true
      · rw [if_pos ht];refine rgs_fold rest _ _ ⟨?_,?_,?_,by simp;omega⟩ hb' ?_ hp.2
        · rw [List.pairwise_append];refine ⟨hsep.1,List.pairwise_singleton _ _,fun x hx y hy=>?_⟩;rw [List.mem_singleton] at hy;subst hy;exact hsep.2.2 x hx l (by simp)
        · intro x hx;rcases List.mem_append.1 hx with hx | hx
          · exact h.bd x (List.mem_append_left _ hx)
          · rw [List.mem_singleton] at hx;subst hx;simp only;omega
        · intro a ha;rcases List.mem_append.1 ha with ha | ha
          · obtain ⟨x,hx,c1,c2⟩:=h.cov a ha;rcases List.mem_append.1 hx with hx | hx
            · exact ⟨x,List.mem_append_left _ hx,c1,c2⟩
            · rw [List.mem_singleton] at hx;subst hx;exact ⟨_,List.mem_append_right _ (List.mem_singleton.2 rfl),c1,by simp only;omega⟩
          · rw [List.mem_singleton] at ha;subst ha;exact ⟨_,List.mem_append_right _ (List.mem_singleton.2 rfl),hlr,by simp only;omega⟩
        · intro q hq b hb2;simp only [List.getLast?_append,List.getLast?_singleton,Option.some_or] at hq;cases hq;have:=hp.1 b hb2;simp only;omega
      · rw [if_neg ht]
        have hgap:l.High < r.Low:=by
          unfold touchB at ht;simp only [Bool.and_eq_true,decide_eq_true_eq,not_and] at ht;by_cases h1:l.High ≥ r.Low
          · exact absurd (show r.High ≥ l.Low by omega) (ht h1)
          · omega
        refine rgs_fold rest _ _ ⟨?_,?_,?_,by simp;omega⟩ hb' ?_ hp.2
        · rw [List.pairwise_append];refine ⟨h.sep,List.pairwise_singleton _ _,fun x hx y hy=>?_⟩;rw [List.mem_singleton] at hy;subst hy;rcases List.mem_append.1 hx with hx | hx
          · have:=hsep.2.2 x hx l (by simp);omega
          · rw [List.mem_singleton] at hx;subst hx;exact hgap
        · intro x hx;rcases List.mem_append.1 hx with hx | hx
          · exact h.bd x hx
          · rw [List.mem_singleton] at hx;subst hx;exact ⟨r1,r2,r3⟩
        · intro a ha;rcases List.mem_append.1 ha with ha | ha
          · obtain ⟨x,hx,c⟩:=h.cov a ha;exact ⟨x,List.mem_append_left _ hx,c⟩
          · rw [List.mem_singleton] at ha;subst ha;exact ⟨a,List.mem_append_right _ (List.mem_singleton.2 rfl),Int.le_refl _,Int.le_refl _⟩
        · intro q hq b hb2;simp only [List.getLast?_append,List.getLast?_singleton,Option.some_or] at hq;cases hq;exact hp.1 b hb2
theorem regF_ok {t:List ByteArray} (ht:t.length≤120) {P Q:List Hunk} (hP:Side t P) (hQ:Side t Q):Rgs t.length ((P.map rx++Q.map rx).mergeSort fun x y=>!ltM C6 y x) (regF P Q):=by
  have hperm:=List.mergeSort_perm (P.map rx++Q.map rx) fun x y=>!ltM C6 y x;have hpw:=sortM_pw (fitX ht (rb_both hP hQ));have hrb:=rb_both hP hQ;unfold regF;generalize (P.map rx++Q.map rx).mergeSort (fun x y=>!ltM C6 y x)=ys at hperm hpw;have hb:∀ b∈ys,RB t.length b:=fun b hb=>hrb b (hperm.mem_iff.1 hb)
  have:=rgs_fold (n:=t.length) ys [] [] ⟨List.Pairwise.nil,by simp,by simp,by simp⟩ hb (by simp) (by
    rw [List.pairwise_iff_getElem] at hpw ⊢;intro i j hi hj hij;have h:=(s2_ge ht (hb _ (List.getElem_mem hj)) (hb _ (List.getElem_mem hi))).1 (hpw i j hi hj hij);unfold L2 at h;omega)
  simpa using this
theorem reg_len {t:List ByteArray} (ht:t.length≤120) {P Q:List Hunk} (hP:Side t P) (hQ:Side t Q):(regF P Q).length≤260:=by
  have h1:=(regF_ok ht hP hQ).len;have h2:=(List.mergeSort_perm (P.map rx++Q.map rx) fun x y=>!ltM C6 y x).length_eq;have:=hP.len;have:=hQ.len;rw [List.length_append,List.length_map,List.length_map] at h2;omega
theorem reg_cov {t:List ByteArray} (ht:t.length≤120) {P Q:List Hunk} (hP:Side t P) (hQ:Side t Q):(∀ h∈P,∃ r∈regF P Q,r.Low≤h.At∧h.At+h.Old.length≤r.High)∧(∀ h∈Q,∃ r∈regF P Q,r.Low≤h.At∧h.At+h.Old.length≤r.High):=by
  have h1:=(regF_ok ht hP hQ).cov;have hperm:=List.mergeSort_perm (P.map rx++Q.map rx) fun x y=>!ltM C6 y x;exact ⟨fun h hh=>h1 (rx h) (hperm.mem_iff.2 (List.mem_append_left _ (List.mem_map_of_mem hh))),fun h hh=>h1 (rx h) (hperm.mem_iff.2 (List.mem_append_right _ (List.mem_map_of_mem hh)))⟩
def inB (r:RX) (h:Hunk):Bool:=decide (r.Low≤h.At) && decide (h.At+h.Old.length≤r.High)
def wi (P:List Hunk) (r:RX):List Hunk:=P.filter (inB r)
theorem within_f {t:List ByteArray} (ht:t.length≤120) {P:List Hunk} (hP:Side t P) (r:RX):Cv ⟨P⟩ r=some (wi P r):=by
  have hl:=hP.len;unfold Cv
  obtain ⟨q,e,rfl⟩:=Oy (f:=fun s=>Cv.l1 ⟨P⟩ r s.1 s.2) P.length (fun k s=>s=wi (P.take k) r) (fun q=>q=wi P r) (by
    rintro k s hk rfl;have hlen:(wi (P.take k) r).length≤k:=Nat.le_trans (List.length_filter_le _ _) (by rw [List.length_take];omega)
    have hj:∀ w,Cv.j2 (k:Int) w=some (.next (((k+1:Nat):Int),w)):=by
      intro w;unfold Cv.j2;rw [Ck (by omega) (by omega),Option.bind_some];rfl
    obtain ⟨h1,h2,_⟩:=hP.ins _ (List.getElem_mem hk);refine ⟨_,?_,rfl⟩
    have e:wi (P.take (k+1)) r=wi (P.take k) r++if inB r P[k]=true then [P[k]] else []:=by
      unfold wi;rw [List.take_succ_eq_append_getElem hk,List.filter_append];cases h:inB r P[k] <;> simp [h]
    unfold Cv.l1;simp only;rw [Bg,if_pos (by omega),C1 hk,Option.bind_some,end_f _ (by omega) (by omega) (by omega),Option.bind_some]
    have ec:(if decide (P[k].At ≥ r.Low)=true then some (decide (P[k].At+(P[k].Old.length:Int)≤r.High)) else some false)=some (inB r P[k]):=by
      unfold inB;by_cases h:r.Low≤P[k].At <;> simp [h]
    rw [ec,Option.bind_some,e];cases h:inB r P[k]
    · rw [if_neg Bool.false_ne_true,if_neg Bool.false_ne_true,hj,List.append_nil]
    · rw [if_pos rfl,if_pos rfl,Es (by rw [List.length_singleton];omega),Option.bind_some,hj]) (by
    rintro s rfl;unfold Cv.l1;simp only;rw [Bg,if_neg (by omega),List.take_length]
    exact ⟨_,rfl,rfl⟩) [] rfl
  rw [e,Option.bind_some];rfl
def Of (t:List ByteArray):List Hunk→Nat→Nat→List ByteArray
  | [],lo,hi=>(t.drop lo).take (hi - lo)
  | h::r,lo,hi=>(t.drop lo).take (h.At.toNat - lo)++(h.New++Of t r (h.At.toNat+h.Old.length) hi)
def InR:List Hunk→Nat→Nat→Prop
  | [],lo,hi=>lo≤hi
  | h::r,lo,hi=>(lo:Int)≤h.At∧InR r (h.At.toNat+h.Old.length) hi
theorem InR.le:∀ {hs:List Hunk} {lo hi:Nat},InR hs lo hi→lo≤hi
  | [],_,_,h=>h
  | _::_,_,_,h=>by have:=InR.le h.2;have:=h.1;omega
theorem raw_in {t:List ByteArray} (ht:t.length≤120) {hi:Nat} (hhi:hi≤t.length) (hs:List Hunk) (hn:hs.length≤130) (hnew:∀ h∈hs,h.New.length≤120):∀ (rest:List Hunk) (k lo:Nat) (out:List ByteArray),hs.drop k=rest→InR rest lo hi→out.length≤k * 240→k≤130 →
    ∃ fin:Nat,fin≤hi∧∃ o,Dl (fun s=>Ca.l1 hs t s.1 s.2.1 s.2.2) ((k:Int),out,(lo:Int))=some (o,(fin:Int))∧o++(t.drop fin).take (hi - fin)=out++Of t rest lo hi∧o.length≤131 * 240
  | [],k,lo,out,hk,hin,hout,hk2=>by
    have:=Hi hk;refine ⟨lo,hin,out,Br ?_,rfl,by omega⟩
    unfold Ca.l1;simp only;rw [Bg,if_neg (by omega)]
  | h::rest,k,lo,out,hk,hin,hout,hk2=>by
    obtain ⟨hlt,hh,hr⟩:=Hr hk;have hmem:h∈hs:=by rw [← hh];exact List.getElem_mem hlt
    have h1:=hnew h hmem;obtain ⟨c1,c2⟩:=hin;have c3:=c2.le
    have e0:Ca.l1 hs t (k:Int) out (lo:Int)=some (.next (((k+1:Nat):Int),out++(t.drop lo).take (h.At.toNat - lo)++h.New,((h.At.toNat+h.Old.length:Nat):Int))):=by
      unfold Ca.l1;have hc:(((t.take h.At.toNat).drop lo):List ByteArray)=(t.drop lo).take (h.At.toNat - lo):=by rw [List.take_drop];congr 2;omega
      rw [Bg,if_pos (by omega),C1 hlt,Option.bind_some,hh,Oi (by omega) (by omega) (by omega),Option.bind_some,Int.toNat_natCast,hc]
      have l1:((t.drop lo).take (h.At.toNat - lo)).length≤120:=by simp;omega
      rw [Es (by omega),Option.bind_some,Es (by rw [List.length_append];omega),Option.bind_some,end_f h (by omega) (by omega) (by omega),Option.bind_some,Ck (by omega) (by omega),Option.bind_some]
      have e7:h.At+(h.Old.length:Int)=((h.At.toNat+h.Old.length:Nat):Int):=by omega
      rw [e7];rfl
    obtain ⟨fin,f1,o,f2,f3,f4⟩:=raw_in ht hhi hs hn hnew rest (k+1) (h.At.toNat+h.Old.length) (out++(t.drop lo).take (h.At.toNat - lo)++h.New) hr c2 (by simp only [List.length_append,List.length_take,List.length_drop];omega) (by omega)
    refine ⟨fin,f1,o,by rw [Cd (m:=fun s:Int×List ByteArray×Int=>Ca.l1 hs t s.1 s.2.1 s.2.2) e0];exact f2,?_,f4⟩
    rw [f3,Of];simp only [List.append_assoc]
theorem RawIn_f {t:List ByteArray} (ht:t.length≤120) {hs:List Hunk} (hn:hs.length≤130) (hnew:∀ h∈hs,h.New.length≤120) {lo hi:Nat} (hhi:hi≤t.length) (hin:InR hs lo hi):Ca hs t (lo:Int) (hi:Int)=some (Of t hs lo hi):=by
  obtain ⟨fin,f1,o,f2,f3,f4⟩:=raw_in ht hhi hs hn hnew hs 0 lo [] rfl hin (by simp) (by omega)
  unfold Ca;rw [show ((0:Nat):Int)=0 from rfl] at f2;rw [f2,Option.bind_some];unfold Ca.j1;have hc:(((t.take hi).drop fin):List ByteArray)=(t.drop fin).take (hi - fin):=by rw [List.take_drop];congr 2;omega
  rw [Oi (by omega) (by omega) (by omega),Option.bind_some,Int.toNat_natCast,Int.toNat_natCast,hc,Es (by simp;omega),Option.bind_some,f3]
  rfl
theorem wi_in {r:RX} (h0:0≤r.Low):∀ (P:List Hunk) (e:Int) (lo:Nat),Chn e P→(∀ h∈P,0≤h.At)→((lo:Int)≤e+1∨(lo:Int)≤r.Low)→(lo:Int)≤r.High→InR (wi P r) lo r.High.toNat
  | [],e,lo,_,_,_,hr=>by
    show lo≤_;omega
  | h::P,e,lo,hc,hp,hlo,hr=>by
    obtain ⟨c1,c2⟩:=hc;have hp0:=hp h List.mem_cons_self;have hp':∀ x∈P,0≤x.At:=fun x hx=>hp x (List.mem_cons_of_mem _ hx);unfold wi;rw [List.filter_cons];cases hb:inB r h
    · rw [if_neg Bool.false_ne_true];exact wi_in h0 P _ lo c2 hp' (by omega) hr
    · rw [if_pos rfl];unfold inB at hb;simp only [Bool.and_eq_true,decide_eq_true_eq] at hb;exact ⟨by omega,wi_in h0 P _ _ c2 hp' (by omega) (by omega)⟩
theorem rawIn_len (t:List ByteArray):∀ (hs:List Hunk) (lo hi:Nat),(∀ h∈hs,h.New.length≤120)→(Of t hs lo hi).length≤(hs.length+1) * (120+t.length)
  | [],lo,hi,_=>by rw [Of];simp;omega
  | h::hs,lo,hi,hn=>by
    have:=rawIn_len t hs (h.At.toNat+h.Old.length) hi fun x hx=>hn x (List.mem_cons_of_mem _ hx);have:=hn h List.mem_cons_self;rw [Of,List.length_append,List.length_append,List.length_cons,Nat.add_mul];have:((t.drop lo).take (h.At.toNat - lo)).length≤t.length:=by simp;omega
    omega
theorem rawIn_line {t:List ByteArray} (ht:∀ s∈t,Na s):∀ (hs:List Hunk) (lo hi:Nat),(∀ h∈hs,∀ s∈h.New,Na s)→∀ s∈Of t hs lo hi,Na s
  | [],lo,hi,_,s,hs=>by rw [Of] at hs;exact ht s (List.mem_of_mem_drop (List.mem_of_mem_take hs))
  | h::hs,lo,hi,hn,s,hs2=>by
    rw [Of,List.mem_append,List.mem_append] at hs2;rcases hs2 with h1 | h1 | h1
    · exact ht s (List.mem_of_mem_drop (List.mem_of_mem_take h1))
    · exact hn h List.mem_cons_self s h1
    · exact rawIn_line ht hs _ _ (fun x hx=>hn x (List.mem_cons_of_mem _ hx)) s h1
end Go.Dc
