import Derived.Test.YtecoobgddnhjfaaGreatDoorDcJX
import Derived.Test.YtecoobgddnhjfaaGreatDoorDcR
set_option linter.unusedSimpArgs false
set_option linter.unusedVariables false
set_option maxRecDepth 4000
namespace Go.Dc
open Go
structure Side (t:Ac) (hs:Bc):Prop where
 chn:Chn (-1) hs
 ins:∀ h∈hs,0≤h.At∧h.At+h.Old.length≤t.length∧h.New.length≤120∧∀ s∈h.New,V4 s
 len:hs.length≤130
theorem Vf {a b:Ac} (ha:Ll a) (hb:Ll b):Side a (Lt a b):=by
 have h0:ScI a b ([],0,false) 0 0:=⟨rfl,C1 _,by simp [preS,endS],fun h=>by simp at h,fun _=>.inl rfl,trivial,fun h hh=>by cases hh⟩
 have h:=scr_ok _ 0 0 _ rfl (D3 _) (D3 _) h0;rw [List.drop_zero,List.drop_zero] at h;obtain ⟨_,g2⟩:=good_of ha hb (Lt a b) (-1) h.chn h.each;have hlen:=g2 (by omega) (by omega)
 refine ⟨h.chn,fun x hx=>?_,by omega⟩
 obtain ⟨p,q,h1,h2,h3,h4,h5,_⟩:=h.each x hx;have:=hb.1;refine ⟨by omega,by omega,by omega,fun s hs=>?_⟩
 rw [h5] at hs;exact hb.2 s (Gq (Hb hs))
theorem Side.sm {t:Ac} (ht:t.length≤120) {hs:Bc} (h:Side t hs):Sm 120 hs:=⟨h.len,fun x hx=>by
 obtain ⟨h1,h2,h3,_⟩:=h.ins x hx;exact ⟨by omega,by omega,by omega,h3⟩⟩
abbrev RX:=RangeX_commute
def rx (h:Hunk):RX:=⟨h.At,h.At+h.Old.length,[]⟩
def L2 (x y:RX):Prop:=x.Low < y.Low∨(x.Low=y.Low∧x.High < y.High)
def RB (n:Nat) (r:RX):Prop:=0≤r.Low∧r.Low≤r.High∧r.High≤n∧r.Growth=[]
theorem s2_f {n:Nat} (hn:n≤120) {x y:RX} (hx:RB n x) (hy:RB n y):∃ r,Hh x y=some r∧(r < 0↔L2 x y):=by
 obtain ⟨x1,x2,x3,_⟩:=hx;obtain ⟨y1,y2,y3,_⟩:=hy;unfold Hh L2;rw [L5];by_cases h:x.Low=y.Low
 ·rw [Af h,Df (by omega) (by omega),Aa]
  exact ⟨_,rfl,by omega⟩
 ·rw [Ae h,Df (by omega) (by omega),Aa]
  exact ⟨_,rfl,by omega⟩
theorem s2_lt {n:Nat} (hn:n≤120) {x y:RX} (hx:RB n x) (hy:RB n y):ltM Hh x y=true↔L2 x y:=by
 obtain ⟨r,e,h⟩:=s2_f hn hx hy;unfold ltM;rw [e,Option.getD_some,Cg];exact h
theorem s2_ge {n:Nat} (hn:n≤120) {x y:RX} (hx:RB n x) (hy:RB n y):ltM Hh x y=false↔¬ L2 x y:=by
 rw [← s2_lt hn hx hy];simp
theorem fitX {n:Nat} (hn:n≤120) {l:List RX} (h:∀ x∈l,RB n x):CmpFit Hh l where
 some_:=fun x hx y hy=>by obtain ⟨r,e,_⟩:=s2_f hn (h x hx) (h y hy);exact ⟨r,e⟩
 irrefl:=fun x hx=>(s2_ge hn (h x hx) (h x hx)).2 (by unfold L2;omega)
 trans:=fun x hx y hy z hz h1 h2=>(s2_lt hn (h x hx) (h z hz)).2 (by
  have h1:=(s2_lt hn (h x hx) (h y hy)).1 h1;have h2:=(s2_lt hn (h y hy) (h z hz)).1 h2;unfold L2 at *;omega)
 ntrans:=fun x hx y hy z hz h1 h2=>(s2_ge hn (h x hx) (h z hz)).2 (by
  have h1:=(s2_ge hn (h x hx) (h y hy)).1 h1;have h2:=(s2_ge hn (h y hy) (h z hz)).1 h2;unfold L2 at *;omega)
 anti:=fun x hx y hy h1 h2=>by
  have h1:=(s2_ge hn (h x hx) (h y hy)).1 h1;have h2:=(s2_ge hn (h y hy) (h x hx)).1 h2;have e1:=(h x hx).2.2.2;have e2:=(h y hy).2.2.2;obtain ⟨a,b,c⟩:=x;obtain ⟨a',b',c'⟩:=y;simp only at e1 e2;unfold L2 at h1 h2;simp only at h1 h2;have:a=a'∧b=b':=by omega
  rw [this.1,this.2,e1,e2]
def Yv (a b:RX):Bool:=decide (a.High ≥ b.Low) && decide (b.High ≥ a.Low)
def Uq (out:List RX) (r:RX):List RX:=match out.getLast? with
 | Option.none=>[r]
 | some l=>if Yv l r=true then out.dropLast++[⟨l.Low,max l.High r.High,l.Growth⟩] else out++[r]
theorem touch_x (a b:RX):Tf a b=some (Yv a b):=by
 unfold Tf Yv;by_cases h:a.High ≥ b.Low <;> simp [h]
theorem rstep_len (out:List RX) (r:RX):(Uq out r).length≤out.length+1:=by
 unfold Uq;split
 ·simp
 ·split <;> simp
theorem fold_len:∀ (l out:List RX),(l.foldl Uq out).length≤out.length+l.length
 | [],out=>by simp
 | r::l,out=>by
  have:=fold_len l (Uq out r);have:=rstep_len out r;rw [Hx,Ew];omega
theorem rg_loop {ys:List RX} (hl:ys.length≤1000):Eo (fun s=>Gl.l1 ys s.1 s.2) (0,[])=some (ys.foldl Uq []):=by
 obtain ⟨r,e,rfl⟩:=Oa (f:=fun s=>Gl.l1 ys s.1 s.2) ys.length (fun k s=>s=(ys.take k).foldl Uq []) (fun r=>r=ys.foldl Uq []) (by
  rintro k s hk hs;have hlen:=fold_len (ys.take k) [];rw [← hs,B9,G1] at hlen
  have hj:∀ w,Gl.j2 (k:Int) w=some (.next (((k+1:Nat):Int),w)):=by
   intro w;unfold Gl.j2;rw [Df (by omega) (by omega),Aa];rfl
  refine ⟨Uq s ys[k],?_,by rw [Bg hk,List.foldl_append,← hs];rfl⟩
  unfold Gl.l1;simp only;rw [A5,Af (by omega),Ch hk,Aa]
  unfold Uq;rcases Li s with rfl | ⟨o,l,rfl⟩
  ·rw [A5,Ae (by simp),Aa,Ae Ah,Gm (by simp),Aa,hj];rfl
  ·rw [Mb] at *;rw [Av,Ax] at *;have e1:((o.length+1:Nat):Int) - 1=(o.length:Int):=by omega
   have e2:at? (o++[l]) (o.length:Int)=some l:=by rw [Ch (by simp)];simp
   rw [A5,Af (by omega),Df (by omega) (by omega),Aa,e1,e2,Aa,touch_x,Aa,Aa]
   simp only [Nt,Lv,Tn,Mn];cases ht:Yv l ys[k]
   ·rw [Ae Ah,Ae Ah,Gm (by simp;omega),Aa,hj]
   ·rw [Af rfl,Af rfl];simp only [e2,Aa];rw [hj,Bh]
    simp) (by
  rintro s rfl;unfold Gl.l1;simp only;rw [A5,Ae (by omega),De]
  exact ⟨_,rfl,rfl⟩) [] rfl
 exact e
noncomputable def Zb (P Q:Bc):List RX:=((P.map rx++Q.map rx).mergeSort fun x y=>!ltM Hh y x).foldl Uq []
theorem rb_of {t:Ac} {hs:Bc} (h:Side t hs):∀ r∈hs.map rx,RB t.length r:=by
 intro r hr;obtain ⟨x,hx,rfl⟩:=Hz.1 hr;obtain ⟨h1,h2,_⟩:=h.ins x hx;exact ⟨h1,by unfold rx;simp only;omega,h2,rfl⟩
theorem rb_both {t:Ac} {P Q:Bc} (hP:Side t P) (hQ:Side t Q):∀ r∈P.map rx++Q.map rx,RB t.length r:=by
 intro r hr;rcases Bj.1 hr with hr | hr
 ·exact rb_of hP r hr
 ·exact rb_of hQ r hr
theorem regions_f {t:Ac} (ht:t.length≤120) {P Q:Bc} (hP:Side t P) (hQ:Side t Q):Gl ⟨P⟩ ⟨Q⟩=some (Zb P Q):=by
 have h1:=hP.len;have h2:=hQ.len;have hm:∀ l:Bc,(l.map rng).map Ns=l.map rx:=fun l=>by rw [List.map_map];rfl
 unfold Gl;rw [oldRanges_f (by omega) ⟨P⟩ (hP.sm ht),Aa,oldRanges_f (by omega) ⟨Q⟩ (hQ.sm ht),Aa]
 simp only;rw [hm,hm,Gm (by simp;omega),Aa,sortM_eq (fitX ht (rb_both hP hQ)) (by simp;omega),Aa,rg_loop (Cc (Nat.le_of_eq (List.mergeSort_perm _ _).length_eq) (by rw [Av,Et,Et];omega)),Aa]
 rfl
structure Rgs (n:Nat) (all out:List RX):Prop where
 sep:out.Pairwise fun a b=>a.High < b.Low
 bd:∀ r∈out,0≤r.Low∧r.Low≤r.High∧r.High≤n
 cov:∀ a∈all,∃ r∈out,r.Low≤a.Low∧a.High≤r.High
 len:out.length≤all.length
theorem rgs_fold {n:Nat}:∀ (rest pre out:List RX),Rgs n pre out→(∀ b∈rest,RB n b)→(∀ l,out.getLast? = some l→∀ b∈rest,l.Low≤b.Low)→rest.Pairwise (fun x y=>x.Low≤y.Low)→Rgs n (pre++rest) (rest.foldl Uq out)
 | [],pre,out,h,_,_,_=>by simpa using h
 | r::rest,pre,out,h,hb,hL,hp=>by
  rw [Em] at hp;obtain ⟨r1,r2,r3,_⟩:=hb r C6;have hb':∀ b∈rest,RB n b:=fun b hb2=>hb b (B2 _ hb2);have hlen:=h.len;rw [Hx,show pre++r::rest=(pre++[r])++rest from by simp]
  rcases Li out with rfl | ⟨o,l,rfl⟩
  ·refine rgs_fold rest _ _ ⟨K8 _ _,?_,?_,by have:(Uq [] r).length=1:=rfl;rw [Av,Ax];omega⟩ hb' ?_ hp.2
   ·intro x hx;rw [show Uq [] r=[r] from rfl,Bi] at hx;subst hx;exact ⟨r1,r2,r3⟩
   ·intro a ha;rcases Bj.1 ha with ha | ha
    ·obtain ⟨x,hx,_⟩:=h.cov a ha;cases hx
    ·rw [Bi] at ha;subst ha;exact ⟨a,by rw [show Uq [] a=[a] from rfl];simp,Int.le_refl _,Int.le_refl _⟩
   ·intro l hl b hb2;rw [show Uq [] r=[r] from rfl,Lv] at hl;cases hl;exact hp.1 b hb2
  ·rw [Mb] at *;have hgl:(o++[l]).getLast? = some l:=by simp
   have hlr:=hL l hgl r C6;obtain ⟨l1,l2,l3⟩:=h.bd l (by simp)
   have hsep:=h.sep;rw [G8] at hsep
   have est:Uq (o++[l]) r=if Yv l r=true then o++[⟨l.Low,max l.High r.High,l.Growth⟩] else o++[l]++[r]:=by
    unfold Uq;rw [hgl];simp only [Mn]
   rw [Av,Ax] at hlen;rw [est];by_cases ht:Yv l r=true
   ·rw [Af ht];refine rgs_fold rest _ _ ⟨?_,?_,?_,by simp;omega⟩ hb' ?_ hp.2
    ·rw [G8];refine ⟨hsep.1,K8 _ _,fun x hx y hy=>?_⟩;rw [Bi] at hy;subst hy;exact hsep.2.2 x hx l (by simp)
    ·intro x hx;rcases Bj.1 hx with hx | hx
     ·exact h.bd x (Ej _ hx)
     ·rw [Bi] at hx;subst hx;simp only;omega
    ·intro a ha;rcases Bj.1 ha with ha | ha
     ·obtain ⟨x,hx,c1,c2⟩:=h.cov a ha;rcases Bj.1 hx with hx | hx
      ·exact ⟨x,Ej _ hx,c1,c2⟩
      ·rw [Bi] at hx;subst hx;exact ⟨_,E5 _ (Bi.2 rfl),c1,by simp only;omega⟩
     ·rw [Bi] at ha;subst ha;exact ⟨_,E5 _ (Bi.2 rfl),hlr,by simp only;omega⟩
    ·intro q hq b hb2;simp only [Nt,Lv,Tn] at hq;cases hq;have:=hp.1 b hb2;simp only;omega
   ·rw [Ae ht]
    have hgap:l.High < r.Low:=by
     unfold Yv at ht;simp only [Ec,Cg,not_and] at ht;by_cases h1:l.High ≥ r.Low
     ·exact absurd (show r.High ≥ l.Low by omega) (ht h1)
     ·omega
    refine rgs_fold rest _ _ ⟨?_,?_,?_,by simp;omega⟩ hb' ?_ hp.2
    ·rw [G8];refine ⟨h.sep,K8 _ _,fun x hx y hy=>?_⟩;rw [Bi] at hy;subst hy;rcases Bj.1 hx with hx | hx
     ·have:=hsep.2.2 x hx l (by simp);omega
     ·rw [Bi] at hx;subst hx;exact hgap
    ·intro x hx;rcases Bj.1 hx with hx | hx
     ·exact h.bd x hx
     ·rw [Bi] at hx;subst hx;exact ⟨r1,r2,r3⟩
    ·intro a ha;rcases Bj.1 ha with ha | ha
     ·obtain ⟨x,hx,c⟩:=h.cov a ha;exact ⟨x,Ej _ hx,c⟩
     ·rw [Bi] at ha;subst ha;exact ⟨a,E5 _ (Bi.2 rfl),Int.le_refl _,Int.le_refl _⟩
    ·intro q hq b hb2;simp only [Nt,Lv,Tn] at hq;cases hq;exact hp.1 b hb2
theorem regF_ok {t:Ac} (ht:t.length≤120) {P Q:Bc} (hP:Side t P) (hQ:Side t Q):Rgs t.length ((P.map rx++Q.map rx).mergeSort fun x y=>!ltM Hh y x) (Zb P Q):=by
 have hperm:=List.mergeSort_perm (P.map rx++Q.map rx) fun x y=>!ltM Hh y x;have hpw:=sortM_pw (fitX ht (rb_both hP hQ));have hrb:=rb_both hP hQ;unfold Zb;generalize (P.map rx++Q.map rx).mergeSort (fun x y=>!ltM Hh y x)=ys at hperm hpw;have hb:∀ b∈ys,RB t.length b:=fun b hb=>hrb b (hperm.mem_iff.1 hb)
 have:=rgs_fold (n:=t.length) ys [] [] ⟨O5,by simp,by simp,by simp⟩ hb (by simp) (by
  rw [Ce] at hpw ⊢;intro i j hi hj hij;have h:=(s2_ge ht (hb _ (Bn hj)) (hb _ (Bn hi))).1 (hpw i j hi hj hij);unfold L2 at h;omega)
 simpa using this
theorem reg_len {t:Ac} (ht:t.length≤120) {P Q:Bc} (hP:Side t P) (hQ:Side t Q):(Zb P Q).length≤260:=by
 have h1:=(regF_ok ht hP hQ).len;have h2:=(List.mergeSort_perm (P.map rx++Q.map rx) fun x y=>!ltM Hh y x).length_eq;have:=hP.len;have:=hQ.len;rw [Av,Et,Et] at h2;omega
theorem reg_cov {t:Ac} (ht:t.length≤120) {P Q:Bc} (hP:Side t P) (hQ:Side t Q):(∀ h∈P,∃ r∈Zb P Q,r.Low≤h.At∧h.At+h.Old.length≤r.High)∧(∀ h∈Q,∃ r∈Zb P Q,r.Low≤h.At∧h.At+h.Old.length≤r.High):=by
 have h1:=(regF_ok ht hP hQ).cov;have hperm:=List.mergeSort_perm (P.map rx++Q.map rx) fun x y=>!ltM Hh y x;exact ⟨fun h hh=>h1 (rx h) (hperm.mem_iff.2 (Ej _ (Lb hh))),fun h hh=>h1 (rx h) (hperm.mem_iff.2 (E5 _ (Lb hh)))⟩
def inB (r:RX) (h:Hunk):Bool:=decide (r.Low≤h.At) && decide (h.At+h.Old.length≤r.High)
def wi (P:Bc) (r:RX):Bc:=P.filter (inB r)
theorem within_f {t:Ac} (ht:t.length≤120) {P:Bc} (hP:Side t P) (r:RX):G6 ⟨P⟩ r=some (wi P r):=by
 have hl:=hP.len;unfold G6
 obtain ⟨q,e,rfl⟩:=Oa (f:=fun s=>G6.l1 ⟨P⟩ r s.1 s.2) P.length (fun k s=>s=wi (P.take k) r) (fun q=>q=wi P r) (by
  rintro k s hk rfl;have hlen:(wi (P.take k) r).length≤k:=Cc (Kv _ _) (by rw [B9];omega)
  have hj:∀ w,G6.j2 (k:Int) w=some (.next (((k+1:Nat):Int),w)):=by
   intro w;unfold G6.j2;rw [Df (by omega) (by omega),Aa];rfl
  obtain ⟨h1,h2,_⟩:=hP.ins _ (Bn hk);refine ⟨_,?_,rfl⟩
  have e:wi (P.take (k+1)) r=wi (P.take k) r++if inB r P[k]=true then [P[k]] else []:=by
   unfold wi;rw [Bg hk,M5];cases h:inB r P[k] <;> simp [h]
  unfold G6.l1;simp only;rw [A5,Af (by omega),Ch hk,Aa,end_f _ (by omega) (by omega) (by omega),Aa]
  have ec:(if decide (P[k].At ≥ r.Low)=true then some (decide (P[k].At+(P[k].Old.length:Int)≤r.High)) else some false)=some (inB r P[k]):=by
   unfold inB;by_cases h:r.Low≤P[k].At <;> simp [h]
  rw [ec,Aa,e];cases h:inB r P[k]
  ·rw [Ae Ah,Ae Ah,hj,Bx]
  ·rw [Af rfl,Af rfl,Gm (by rw [Ax];omega),Aa,hj]) (by
  rintro s rfl;unfold G6.l1;simp only;rw [A5,Ae (by omega),De]
  exact ⟨_,rfl,rfl⟩) [] rfl
 rw [e,Aa];rfl
def Yd (t:Ac):Bc→Nat→Nat→Ac
 | [],lo,hi=>(t.drop lo).take (hi - lo)
 | h::r,lo,hi=>(t.drop lo).take (h.At.toNat - lo)++(h.New++Yd t r (h.At.toNat+h.Old.length) hi)
def InR:Bc→Nat→Nat→Prop
 | [],lo,hi=>lo≤hi
 | h::r,lo,hi=>(lo:Int)≤h.At∧InR r (h.At.toNat+h.Old.length) hi
theorem InR.le:∀ {hs:Bc} {lo hi:Nat},InR hs lo hi→lo≤hi
 | [],_,_,h=>h
 | _::_,_,_,h=>by have:=InR.le h.2;have:=h.1;omega
theorem raw_in {t:Ac} (ht:t.length≤120) {hi:Nat} (hhi:hi≤t.length) (hs:Bc) (hn:hs.length≤130) (hnew:∀ h∈hs,h.New.length≤120):∀ (rest:Bc) (k lo:Nat) (out:Ac),hs.drop k=rest→InR rest lo hi→out.length≤k * 240→k≤130 →
  ∃ fin:Nat,fin≤hi∧∃ o,Eo (fun s=>Ez.l1 hs t s.1 s.2.1 s.2.2) ((k:Int),out,(lo:Int))=some (o,(fin:Int))∧o++(t.drop fin).take (hi - fin)=out++Yd t rest lo hi∧o.length≤131 * 240
 | [],k,lo,out,hk,hin,hout,hk2=>by
  have:=L3 hk;refine ⟨lo,hin,out,B5 ?_,rfl,by omega⟩
  unfold Ez.l1;simp only;rw [A5,Ae (by omega)]
 | h::rest,k,lo,out,hk,hin,hout,hk2=>by
  obtain ⟨hlt,hh,hr⟩:=Me hk;have hmem:h∈hs:=by rw [← hh];exact Bn hlt
  have h1:=hnew h hmem;obtain ⟨c1,c2⟩:=hin;have c3:=c2.le
  have e0:Ez.l1 hs t (k:Int) out (lo:Int)=some (.next (((k+1:Nat):Int),out++(t.drop lo).take (h.At.toNat - lo)++h.New,((h.At.toNat+h.Old.length:Nat):Int))):=by
   unfold Ez.l1;have hc:(((t.take h.At.toNat).drop lo):Ac)=(t.drop lo).take (h.At.toNat - lo):=by rw [List.take_drop];congr 2;omega
   rw [A5,Af (by omega),Ch hlt,Aa,hh,Uj (by omega) (by omega) (by omega),Aa,Bh,hc]
   have l1:((t.drop lo).take (h.At.toNat - lo)).length≤120:=by simp;omega
   rw [Gm (by omega),Aa,Gm (by rw [Av];omega),Aa,end_f h (by omega) (by omega) (by omega),Aa,Df (by omega) (by omega),Aa]
   have e7:h.At+(h.Old.length:Int)=((h.At.toNat+h.Old.length:Nat):Int):=by omega
   rw [e7];rfl
  obtain ⟨fin,f1,o,f2,f3,f4⟩:=raw_in ht hhi hs hn hnew rest (k+1) (h.At.toNat+h.Old.length) (out++(t.drop lo).take (h.At.toNat - lo)++h.New) hr c2 (by simp only [Av,B9,Dg];omega) (by omega)
  refine ⟨fin,f1,o,by rw [C0 (m:=fun s:Int×Ac×Int=>Ez.l1 hs t s.1 s.2.1 s.2.2) e0];exact f2,?_,f4⟩
  rw [f3,Yd];simp only [Az]
theorem RawIn_f {t:Ac} (ht:t.length≤120) {hs:Bc} (hn:hs.length≤130) (hnew:∀ h∈hs,h.New.length≤120) {lo hi:Nat} (hhi:hi≤t.length) (hin:InR hs lo hi):Ez hs t (lo:Int) (hi:Int)=some (Yd t hs lo hi):=by
 obtain ⟨fin,f1,o,f2,f3,f4⟩:=raw_in ht hhi hs hn hnew hs 0 lo [] rfl hin (by simp) (by omega)
 unfold Ez;rw [show ((0:Nat):Int)=0 from rfl] at f2;rw [f2,Aa];unfold Ez.j1;have hc:(((t.take hi).drop fin):Ac)=(t.drop fin).take (hi - fin):=by rw [List.take_drop];congr 2;omega
 rw [Uj (by omega) (by omega) (by omega),Aa,Bh,Bh,hc,Gm (by simp;omega),Aa,f3]
 rfl
theorem wi_in {r:RX} (h0:0≤r.Low):∀ (P:Bc) (e:Int) (lo:Nat),Chn e P→(∀ h∈P,0≤h.At)→((lo:Int)≤e+1∨(lo:Int)≤r.Low)→(lo:Int)≤r.High→InR (wi P r) lo r.High.toNat
 | [],e,lo,_,_,_,hr=>by
  show lo≤_;omega
 | h::P,e,lo,hc,hp,hlo,hr=>by
  obtain ⟨c1,c2⟩:=hc;have hp0:=hp h C6;have hp':∀ x∈P,0≤x.At:=fun x hx=>hp x (B2 _ hx);unfold wi;rw [N2];cases hb:inB r h
  ·rw [Ae Ah];exact wi_in h0 P _ lo c2 hp' (by omega) hr
  ·rw [Af rfl];unfold inB at hb;simp only [Ec,Cg] at hb;exact ⟨by omega,wi_in h0 P _ _ c2 hp' (by omega) (by omega)⟩
theorem rawIn_len (t:Ac):∀ (hs:Bc) (lo hi:Nat),(∀ h∈hs,h.New.length≤120)→(Yd t hs lo hi).length≤(hs.length+1) * (120+t.length)
 | [],lo,hi,_=>by rw [Yd];simp;omega
 | h::hs,lo,hi,hn=>by
  have:=rawIn_len t hs (h.At.toNat+h.Old.length) hi fun x hx=>hn x (B2 _ hx);have:=hn h C6;rw [Yd,Av,Av,Ew,Cp];have:((t.drop lo).take (h.At.toNat - lo)).length≤t.length:=by simp;omega
  omega
theorem rawIn_line {t:Ac} (ht:∀ s∈t,V4 s):∀ (hs:Bc) (lo hi:Nat),(∀ h∈hs,∀ s∈h.New,V4 s)→∀ s∈Yd t hs lo hi,V4 s
 | [],lo,hi,_,s,hs=>by rw [Yd] at hs;exact ht s (Gq (Hb hs))
 | h::hs,lo,hi,hn,s,hs2=>by
  rw [Yd,Bj,Bj] at hs2;rcases hs2 with h1 | h1 | h1
  ·exact ht s (Gq (Hb h1))
  ·exact hn h C6 s h1
  ·exact rawIn_line ht hs _ _ (fun x hx=>hn x (B2 _ hx)) s h1
end Go.Dc
set_option linter.unusedSimpArgs false
set_option linter.unusedVariables false
set_option maxRecDepth 4000
namespace Go.Dc
open Go
def Qd (l:Ac):Chunk:=⟨false,l,[],[],[]⟩
def Qb (out:B0) (l:Ac):B0 :=
 if l=[] then out else match out.getLast? with
 | Option.none=>[Qd l]
 | some c=>if c.Conflict=true then out++[Qd l] else out.dropLast++[{ c with Lines:=c.Lines++l }]
structure Csm (k B:Nat) (out:B0):Prop where
 len:out.length≤k
 lin:∀ c∈out,c.Lines.length≤B
 oth:∀ c∈out,c.Base.length≤40000∧c.Left.length≤40000∧c.Right.length≤40000
theorem Csm.le {k B k' B':Nat} {o:B0} (h:Csm k B o) (hk:k≤k') (hB:B≤B'):Csm k' B' o :=
 ⟨Cc h.len hk,fun c hc=>Cc (h.lin c hc) hB,h.oth⟩
theorem plain_f {k B:Nat} {out:B0} (h:Csm k B out) (hk:k≤100000) (hB:B≤100000000) {l:Ac} (hl:l.length≤40000):Gw ⟨out⟩ l=some ⟨Qb out l⟩∧Csm (k+1) (B+l.length) (Qb out l):=by
 have hlen:=h.len;unfold Gw Qb;by_cases h0:l=[]
 ·subst h0;rw [Af (by simp),Af rfl]
  exact ⟨rfl,by omega,fun c hc=>by have:=h.lin c hc;omega,h.oth⟩
 rw [Ae (by simpa using h0),Ae h0]
 have hj:∀ (o:B0) (c:Chunk),o.length≤100000→c.Lines.length≤100000000→Gw.j1 l (o++[c])=some ⟨o++[{ c with Lines:=c.Lines++l }]⟩:=by
  intro o c ho hc;unfold Gw.j1;have e1:(((o++[c]).length:Nat):Int) - 1=(o.length:Int):=by rw [Av,Ax];omega
  have e2:at? (o++[c]) (o.length:Int)=some c:=by rw [Ch (by simp)];simp
  rw [e1,Df (by omega) (by omega),Aa,e2,Aa,Gm (by omega),Aa,Aa,Bh]
  simp
 rcases Li out with rfl | ⟨o,c,rfl⟩
 ·rw [Af (by simp),Aa,Af rfl,Gm (by simp),Aa,hj [] _ (by simp) (by simp)]
  refine ⟨rfl,by simp,fun c hc=>?_,fun c hc=>?_⟩
  ·rw [show (([]:B0).getLast?)=Option.none from rfl] at hc;rw [Bi] at hc;subst hc;simp only [Qd];omega
  ·rw [show (([]:B0).getLast?)=Option.none from rfl] at hc;rw [Bi] at hc;subst hc;simp [Qd]
 ·rw [Mb] at *;rw [Av,Ax] at *;have e1:((o.length+1:Nat):Int) - 1=(o.length:Int):=by omega
  have e2:at? (o++[c]) (o.length:Int)=some c:=by rw [Ch (by simp)];simp
  have hc:=h.lin c (by simp)
  have hco:=h.oth c (by simp)
  have hgl:(o++[c]).getLast? = some c:=by simp
  have ho:∀ x∈o,x.Lines.length≤B:=fun x hx=>h.lin x (Ej _ hx);have hoo:∀ x∈o,x.Base.length≤40000∧x.Left.length≤40000∧x.Right.length≤40000:=fun x hx=>h.oth x (Ej _ hx);rw [A5,Ae (by omega),Df (by omega) (by omega),Aa,e1,e2,Aa,Aa,hgl]
  simp only [Mn];cases hcc:c.Conflict
  ·rw [Ae Ah,Ae Ah,hj o c (by omega) (by omega)]
   refine ⟨by rw [hcc],by rw [Av,Ax];omega,fun x hx=>?_,fun x hx=>?_⟩
   ·rcases Bj.1 hx with hx | hx
    ·have:=ho x hx;omega
    ·rw [Bi] at hx;subst hx;simp only [Av];omega
   ·rcases Bj.1 hx with hx | hx
    ·exact hoo x hx
    ·rw [Bi] at hx;subst hx;exact hco
  ·rw [Af rfl,Af rfl,Gm (by rw [Av,Ax,Ax];omega),Aa,hj (o++[c]) _ (by rw [Av,Ax];omega) (by simp)]
   refine ⟨rfl,by rw [Av,Av,Ax,Ax];omega,fun x hx=>?_,fun x hx=>?_⟩
   ·rcases Bj.1 hx with hx | hx
    ·have:=h.lin x hx;omega
    ·rw [Bi] at hx;subst hx;simp only [Qd];omega
   ·rcases Bj.1 hx with hx | hx
    ·exact h.oth x hx
    ·rw [Bi] at hx;subst hx;simp [Qd]
def AA (t:Ac) (P:Bc) (r:RX):Ac:=Yd t (wi P r) r.Low.toNat r.High.toNat
def mchk (t:Ac) (P Q:Bc):List RX→Nat→B0→B0
 | [],at_,o=>Qb o (t.drop at_)
 | r::R,at_,o =>
  if wi Q r=[]∨AA t P r=AA t Q r then mchk t P Q R r.High.toNat (Qb (Qb o ((t.drop at_).take (r.Low.toNat - at_))) (AA t P r))
  else if wi P r=[] then mchk t P Q R r.High.toNat (Qb (Qb o ((t.drop at_).take (r.Low.toNat - at_))) (AA t Q r))
  else mchk t P Q R r.High.toNat (Qb o ((t.drop at_).take (r.Low.toNat - at_))++[⟨true,[],(t.drop r.Low.toNat).take (r.High.toNat - r.Low.toNat),AA t P r,AA t Q r⟩])
theorem AA_len {t:Ac} (ht:t.length≤120) {P:Bc} (hP:Side t P) (r:RX):(AA t P r).length≤40000:=by
 have h1:(wi P r).length≤130:=Cc (Kv _ _) hP.len;have:=rawIn_len t (wi P r) r.Low.toNat r.High.toNat fun h hh=>(hP.ins h (G2.1 hh).1).2.2.1;have:((wi P r).length+1) * (120+t.length)≤131 * 240:=Tq (by omega) (by omega)
 unfold AA;omega
theorem AA_line {t:Ac} (ht:∀ s∈t,V4 s) {P:Bc} (hP:Side t P) (r:RX):∀ s∈AA t P r,V4 s :=
 rawIn_line ht _ _ _ fun h hh=>(hP.ins h (G2.1 hh).1).2.2.2
theorem AA_f {t:Ac} (ht:t.length≤120) {P:Bc} (hP:Side t P) {r:RX} (hr:0≤r.Low∧r.Low≤r.High∧r.High≤t.length):Ez (wi P r) t r.Low r.High=some (AA t P r):=by
 have h1:(wi P r).length≤130:=Cc (Kv _ _) hP.len;have h2:=wi_in (r:=r) hr.1 P (-1) r.Low.toNat hP.chn (fun h hh=>(hP.ins h hh).1) (by omega) (by omega)
 have:=RawIn_f ht h1 (fun h hh=>(hP.ins h (G2.1 hh).1).2.2.1) (lo:=r.Low.toNat) (hi:=r.High.toNat) (by omega) h2
 rw [show ((r.Low.toNat:Nat):Int)=r.Low from by omega,show ((r.High.toNat:Nat):Int)=r.High from by omega] at this
 exact this
theorem len0 {α:Type} (l:List α):decide ((l.length:Int)=0)=decide (l=[]):=D4.2 (by cases l <;> simp <;> omega)
theorem b9 (k n:Nat) (hn:n≤40000):k * 90000+120+n≤(k+1) * 90000:=by omega
theorem merge_loop {t:Ac} (ht:t.length≤120) {P Q:Bc} (hP:Side t P) (hQ:Side t Q) {f1 f2:Fault} {R:List RX} (hsep:R.Pairwise fun a b=>a.High < b.Low) (hbd:∀ r∈R,0≤r.Low∧r.Low≤r.High∧r.High≤t.length) (hRl:R.length≤260) :
  ∀ (rest:List RX) (k at_:Nat) (o:B0),R.drop k=rest→(∀ r∈rest,(at_:Int)≤r.Low)→at_≤t.length→Csm (3 * k) (k * 90000) o→k≤260 →
   ∃ (a2:Nat) (o2:B0),Eo (fun s=>Gj.l1 t (⟨P⟩,f1) (⟨Q⟩,f2) R s.1 s.2.1 s.2.2) ((k:Int),(at_:Int),o)=some ((a2:Int),o2)∧a2≤t.length∧Csm 1000 30000000 o2∧Qb o2 (t.drop a2)=mchk t P Q rest at_ o
 | [],k,at_,o,hk,_,hat,hc,hk2=>by
  have:=L3 hk;refine ⟨at_,o,B5 ?_,hat,⟨by have:=hc.len;omega,fun c hh=>by have:=hc.lin c hh;have:k * 90000≤260 * 90000:=A3 _ hk2;omega,hc.oth⟩,rfl⟩
  unfold Gj.l1;simp only;rw [A5,Ae (by omega)]
 | r::rest,k,at_,o,hk,hle,hat,hc,hk2=>by
  obtain ⟨hlt,hh,hr⟩:=Me hk;have hb:=hbd r (by rw [← hh];exact Bn hlt)
  have hlo:=hle r C6;have hcl:=hc.len;have hkB:k * 90000≤260 * 90000:=A3 _ hk2
  have hnext:∀ x∈rest,((r.High.toNat:Nat):Int)≤x.Low:=by
   intro x hx;have hd:(R.drop k).Pairwise fun a b=>a.High < b.Low:=hsep.sublist (List.drop_sublist _ _);rw [hk,Em] at hd;have:=hd.1 x hx;omega
  have hpre:((t.take r.Low.toNat).drop at_)=(t.drop at_).take (r.Low.toNat - at_):=by rw [List.take_drop];congr 2;omega
  have hbase:((t.take r.High.toNat).drop r.Low.toNat)=(t.drop r.Low.toNat).take (r.High.toNat - r.Low.toNat):=by rw [List.take_drop];congr 2;omega
  have l1:((t.drop at_).take (r.Low.toNat - at_)).length≤120:=by simp;omega
  obtain ⟨p1,p20⟩:=plain_f hc (by omega) (by omega) (l:=(t.drop at_).take (r.Low.toNat - at_)) (by omega)
  have p3:Csm (3 * k+1) (k * 90000+120) (Qb o ((t.drop at_).take (r.Low.toNat - at_))):=Csm.le p20 (C1 _) (Nat.add_le_add_left l1 _);clear p20;have hk9:k * 90000+120≤100000000:=Cc (Nat.add_le_add_right hkB 120) (by decide)
  have h3k:3 * k+1≤100000:=by omega
  generalize hO:Qb o ((t.drop at_).take (r.Low.toNat - at_))=o1 at p1 p3;have lA:=AA_len ht hP r;have lB:=AA_len ht hQ r;have hB9:∀ n,n≤40000→k * 90000+120+n≤(k+1) * 90000:=fun n hn=>b9 k n hn;obtain ⟨q1,q2⟩:=plain_f p3 h3k hk9 lA;obtain ⟨q3,q4⟩:=plain_f p3 h3k hk9 lB
  have hj:∀ w,Gj.j2 (k:Int) r.High w=some (.next (((k+1:Nat):Int),((r.High.toNat:Nat):Int),w)):=by
   intro w;unfold Gj.j2;rw [Df (by omega) (by omega),Aa,show ((r.High.toNat:Nat):Int)=r.High from by omega];rfl
  have key:∀ w,Csm (3 * (k+1)) ((k+1) * 90000) w→Gj.l1 t (⟨P⟩,f1) (⟨Q⟩,f2) R (k:Int) (at_:Int) o=some (.next (((k+1:Nat):Int),((r.High.toNat:Nat):Int),w))→mchk t P Q (r::rest) at_ o=mchk t P Q rest r.High.toNat w →
    ∃ (a2:Nat) (o2:B0),Eo (fun s=>Gj.l1 t (⟨P⟩,f1) (⟨Q⟩,f2) R s.1 s.2.1 s.2.2) ((k:Int),(at_:Int),o)=some ((a2:Int),o2)∧a2≤t.length∧Csm 1000 30000000 o2∧Qb o2 (t.drop a2)=mchk t P Q (r::rest) at_ o:=by
   intro w hw e1 e2;obtain ⟨a2,o2,g1,g2,g3,g4⟩:=merge_loop ht hP hQ hsep hbd hRl rest (k+1) r.High.toNat w hr hnext (by omega) hw (by omega)
   exact ⟨a2,o2,by rw [C0 (m:=fun s:Int×Int×B0=>Gj.l1 t (⟨P⟩,f1) (⟨Q⟩,f2) R s.1 s.2.1 s.2.2) e1];exact g1,g2,g3,by rw [e2];exact g4⟩
  have ho1:=p3.len
  have hstep:Gj.l1 t (⟨P⟩,f1) (⟨Q⟩,f2) R (k:Int) (at_:Int) o=if wi Q r=[]∨AA t P r=AA t Q r then some (.next (((k+1:Nat):Int),((r.High.toNat:Nat):Int),Qb o1 (AA t P r)))
    else if wi P r=[] then some (.next (((k+1:Nat):Int),((r.High.toNat:Nat):Int),Qb o1 (AA t Q r)))
    else some (.next (((k+1:Nat):Int),((r.High.toNat:Nat):Int),o1++[⟨true,[],(t.drop r.Low.toNat).take (r.High.toNat - r.Low.toNat),AA t P r,AA t Q r⟩])):=by
   unfold Gj.l1;simp only
   rw [A5,Af (by omega),Ch hlt,Aa,hh,Uj (by omega) (by omega) (by omega),Aa,Bh,hpre,p1,Aa,within_f ht hP,Aa,within_f ht hQ,Aa,AA_f ht hP hb,Aa,AA_f ht hQ hb,Aa,
    sequal_f _ _ (by omega),Aa,len0,len0]
   have ec:(if decide (wi Q r=[])=true then some true else some (decide (AA t P r=AA t Q r)))=some (decide (wi Q r=[]∨AA t P r=AA t Q r)):=by
    by_cases h:wi Q r=[] <;> simp [h]
   rw [ec,Aa,A5,A5,q1,Aa,q3,Aa];simp only;rw [hj,hj,Uj (by omega) (by omega) (by omega),Aa,hbase,clone_f _ (by simp;omega),Aa,Gm (by rw [Ax];omega),Aa,hj]
  by_cases c1:wi Q r=[]∨AA t P r=AA t Q r
  ·exact key (Qb o1 (AA t P r)) (Csm.le q2 (by omega) (hB9 _ lA)) (by rw [hstep,Af c1]) (by rw [mchk,Af c1,hO])
  ·by_cases c2:wi P r=[]
   ·exact key (Qb o1 (AA t Q r)) (Csm.le q4 (by omega) (hB9 _ lB)) (by rw [hstep,Ae c1,Af c2]) (by rw [mchk,Ae c1,Af c2,hO])
   ·refine key (o1++[⟨true,[],(t.drop r.Low.toNat).take (r.High.toNat - r.Low.toNat),AA t P r,AA t Q r⟩]) ⟨by rw [Av,Ax];omega,fun c hh=>?_,fun c hh=>?_⟩ (by rw [hstep,Ae c1,Ae c2]) (by rw [mchk,Ae c1,Ae c2,hO])
    ·rcases Bj.1 hh with hh | hh
     ·exact Cc (p3.lin c hh) (Cc (Nat.le_add_right _ 0) (hB9 0 (by decide)))
     ·rw [Bi] at hh;subst hh;simp
    ·rcases Bj.1 hh with hh | hh
     ·exact p3.oth c hh
     ·rw [Bi] at hh;subst hh;exact ⟨by simp;omega,lA,lB⟩
noncomputable def chunksF (b l r:Ac):B0:=mchk b (Lt b l) (Lt b r) (Zb (Lt b l) (Lt b r)) 0 []
theorem Merge_f {b l r:Ac} (hb:Ll b) (hl:Ll l) (hr:Ll r):Gj b l r=some (chunksF b l r,⟨0,0⟩)∧Csm 1001 40000000 (chunksF b l r):=by
 have ht:=hb.1;have hP:=Vf hb hl;have hQ:=Vf hb hr;have tb:=(H4 b).1 ((Lo b).1 hb);have tl:=(H4 l).1 ((Lo l).1 hl);have tr:=(H4 r).1 ((Lo r).1 hr);have h1:=regF_ok ht hP hQ;obtain ⟨a2,o2,g1,g2,g3,g4⟩:=merge_loop ht hP hQ (f1:=⟨0,0⟩) (f2:=⟨0,0⟩) h1.sep h1.bd (reg_len ht hP hQ) _ 0 0 [] rfl (fun r hr=>(h1.bd r hr).1) (D3 _) ⟨by simp,by simp,by simp⟩ (by omega)
 obtain ⟨p1,p2⟩:=plain_f g3 (by omega) (by omega) (l:=b.drop a2) (by simp;omega)
 have e1:U7 b l=some ⟨0,0⟩:=by rw [both_f,Ae (fun h=>h tb),Af tl]
 have e2:Nc r (-3)=some ⟨0,0⟩:=by rw [second_f,Af tr]
 have e3:Gk b l=some (⟨Lt b l⟩,⟨0,0⟩):=by rw [script_f,Ae (fun h=>h tb),Ae (fun h=>h tl)]
 have e4:Gk b r=some (⟨Lt b r⟩,⟨0,0⟩):=by rw [script_f,Ae (fun h=>h tb),Ae (fun h=>h tr)]
 unfold Gj;rw [e1,Aa,Ae (by simp),e2,Aa,Ae (by simp),e3,Aa,e4,Aa]
 simp only;rw [regions_f ht hP hQ,Aa];rw [show ((0:Nat):Int)=0 from rfl] at g1;rw [g1,Aa];unfold Gj.j1;simp only;rw [Uj (by omega) (by omega) (by omega),Aa,Bh,Bh,De,p1,Aa,g4]
 rw [g4] at p2;have:(b.drop a2).length≤120:=by simp;omega
 exact ⟨rfl,Csm.le p2 (by omega) (by omega)⟩
def nrm (s:Ac):B0:=if s=[] then [] else [Qd s]
def T7 (o:B0):Bool:=o.any (·.Conflict)
theorem Y7 (x l:Ac):Qb (nrm x) l=nrm (x++l):=by
 unfold Qb nrm;by_cases hl:l=[]
 ·subst hl;rw [Af rfl,Bx]
 rw [Ae hl];by_cases hx:x=[]
 ·subst hx;show [Qd l]=if l=[] then [] else [Qd l]
  rw [Ae hl]
 ·rw [Ae hx,Ae (by simp [hx])];rfl
theorem V6 {o:B0} (l:Ac) (h:T7 o=true):T7 (Qb o l)=true:=by
 unfold Qb;by_cases hl:l=[]
 ·rw [Af hl];exact h
 rw [Ae hl];rcases Li o with rfl | ⟨q,c,rfl⟩
 ·cases h
 ·rw [Mb] at *;unfold T7 at *;simp only [Nt,Lv,Tn,Mn];rw [Hy] at h;split
  ·rw [Hy,Hy,h];rfl
  ·rw [Hy];simp only [Lj,List.any_nil,N8] at h ⊢;exact h
def cmT (t:Ac) (P Q:Bc):List RX→Nat→Option Ac
 | [],at_=>some (t.drop at_)
 | r::R,at_ =>
  if wi Q r=[]∨AA t P r=AA t Q r then (cmT t P Q R r.High.toNat).map fun y=>(t.drop at_).take (r.Low.toNat - at_)++(AA t P r++y)
  else if wi P r=[] then (cmT t P Q R r.High.toNat).map fun y=>(t.drop at_).take (r.Low.toNat - at_)++(AA t Q r++y)
  else Option.none
theorem mchk_hasC {t:Ac} {P Q:Bc}:∀ (R:List RX) (at_:Nat) (o:B0),T7 o=true→T7 (mchk t P Q R at_ o)=true
 | [],at_,o,h=>by rw [mchk];exact V6 _ h
 | r::R,at_,o,h=>by
  rw [mchk];split
  ·exact mchk_hasC R _ _ (V6 _ (V6 _ h))
  ·split
   ·exact mchk_hasC R _ _ (V6 _ (V6 _ h))
   ·refine mchk_hasC R _ _ ?_;have:=V6 ((t.drop at_).take (r.Low.toNat - at_)) h;unfold T7 at *;rw [Hy,this];rfl
theorem mchk_cm {t:Ac} {P Q:Bc}:∀ (R:List RX) (at_:Nat) (x:Ac),(∃ y,cmT t P Q R at_=some y∧mchk t P Q R at_ (nrm x)=nrm (x++y))∨(cmT t P Q R at_=Option.none∧T7 (mchk t P Q R at_ (nrm x))=true)
 | [],at_,x=>.inl ⟨_,rfl,by rw [mchk,Y7]⟩
 | r::R,at_,x=>by
  rw [mchk,cmT];by_cases c1:wi Q r=[]∨AA t P r=AA t Q r
  ·rw [Af c1,Af c1,Y7,Y7];rcases mchk_cm (t:=t) (P:=P) (Q:=Q) R r.High.toNat (x++(t.drop at_).take (r.Low.toNat - at_)++AA t P r) with ⟨y,h1,h2⟩ | ⟨h1,h2⟩
   ·exact .inl ⟨_,by rw [h1];rfl,by rw [h2];simp⟩
   ·exact .inr ⟨by rw [h1];rfl,h2⟩
  ·rw [Ae c1,Ae c1];by_cases c2:wi P r=[]
   ·rw [Af c2,Af c2,Y7,Y7];rcases mchk_cm (t:=t) (P:=P) (Q:=Q) R r.High.toNat (x++(t.drop at_).take (r.Low.toNat - at_)++AA t Q r) with ⟨y,h1,h2⟩ | ⟨h1,h2⟩
    ·exact .inl ⟨_,by rw [h1];rfl,by rw [h2];simp⟩
    ·exact .inr ⟨by rw [h1];rfl,h2⟩
   ·rw [Ae c2,Ae c2];refine .inr ⟨rfl,mchk_hasC _ _ _ ?_⟩;unfold T7;rw [Hy];simp
theorem cmT_line {t:Ac} (ht:∀ s∈t,V4 s) {P Q:Bc} (hP:Side t P) (hQ:Side t Q):∀ (R:List RX) (at_:Nat) (y:Ac),cmT t P Q R at_=some y→∀ s∈y,V4 s
 | [],at_,y,h,s,hs=>by rw [cmT] at h;cases h;exact ht s (Gq hs)
 | r::R,at_,y,h,s,hs=>by
  rw [cmT] at h;split at h
  ·cases hc:cmT t P Q R r.High.toNat with
   | none=>rw [hc] at h;cases h
   | some z =>
    rw [hc] at h;cases h;rcases Bj.1 hs with h1 | h1
    ·exact ht s (Gq (Hb h1))
    ·rcases Bj.1 h1 with h1 | h1
     ·exact AA_line ht hP r s h1
     ·exact cmT_line ht hP hQ R _ _ hc s h1
  ·split at h
   ·cases hc:cmT t P Q R r.High.toNat with
    | none=>rw [hc] at h;cases h
    | some z =>
     rw [hc] at h;cases h;rcases Bj.1 hs with h1 | h1
     ·exact ht s (Gq (Hb h1))
     ·rcases Bj.1 h1 with h1 | h1
      ·exact AA_line ht hQ r s h1
      ·exact cmT_line ht hP hQ R _ _ hc s h1
   ·cases h
theorem check_l2 (k:Int) (c:Chunk):∃ r,Eo (fun s=>Di.l2 k c s) 0=some r∧((r=.inr ()∧(Cq c.Lines).Code=0)∨(∃ f,r=.inl f∧f.Code≠0))∧((Cq c.Lines).Code=0→(Cq c.Base).Code=0→(Cq c.Left).Code=0→(Cq c.Right).Code=0→r=.inr ()):=by
 have st:∀ (j:Nat) (l:Ac),j < 4→[c.Lines,c.Base,c.Left,c.Right][j]? = some l→Di.l2 k c (j:Int)=if (Cq l).Code=0 then some (.next ((j:Int)+1)) else some (.done (.inl ⟨(Cq l).Code,k⟩)):=by
  intro j l hj hl;unfold Di.l2;rw [A5,Af (by omega),show at? [c.Lines,c.Base,c.Left,c.Right] (j:Int)=some l from by unfold at?;rw [Af (by omega)];simpa using hl,Aa,second_f,Aa]
  by_cases h:(Cq l).Code=0
  ·rw [Af h,Af h,Ae (by simp),Df (by omega) (by omega),Aa]
  ·rw [Ae h,Ae h,Af (by simp [h])]
 have s0:=st 0 c.Lines (by omega) rfl
 have s1:=st 1 c.Base (by omega) rfl
 have s2:=st 2 c.Left (by omega) rfl
 have s3:=st 3 c.Right (by omega) rfl
 have s4:Di.l2 k c 4=some (.done (.inr ())):=by unfold Di.l2;rw [A5,Ae (by decide)]
 rw [show ((0:Nat):Int)=0 from rfl,show (0:Int)+1=1 from rfl] at s0;rw [show ((1:Nat):Int)=1 from rfl,show (1:Int)+1=2 from rfl] at s1;rw [show ((2:Nat):Int)=2 from rfl,show (2:Int)+1=3 from rfl] at s2;rw [show ((3:Nat):Int)=3 from rfl,show (3:Int)+1=4 from rfl] at s3;by_cases h0:(Cq c.Lines).Code=0
 case neg=>rw [Ae h0] at s0;exact ⟨_,B5 s0,.inr ⟨_,rfl,h0⟩,fun h=>absurd h h0⟩
 rw [Af h0] at s0;rw [C0 s0];by_cases h1:(Cq c.Base).Code=0
 case neg=>rw [Ae h1] at s1;exact ⟨_,B5 s1,.inr ⟨_,rfl,h1⟩,fun _ h=>absurd h h1⟩
 rw [Af h1] at s1;rw [C0 s1];by_cases h2:(Cq c.Left).Code=0
 case neg=>rw [Ae h2] at s2;exact ⟨_,B5 s2,.inr ⟨_,rfl,h2⟩,fun _ _ h=>absurd h h2⟩
 rw [Af h2] at s2;rw [C0 s2];by_cases h3:(Cq c.Right).Code=0
 case neg=>rw [Ae h3] at s3;exact ⟨_,B5 s3,.inr ⟨_,rfl,h3⟩,fun _ _ _ h=>absurd h h3⟩
 rw [Af h3] at s3;rw [C0 s3];exact ⟨_,B5 s4,.inl ⟨rfl,h0⟩,fun _ _ _ _=>rfl⟩
theorem check_tot {k B:Nat} {o:B0} (h:Csm k B o) (hk:k≤100000) (hB:B≤100000000):∃ f,Di o=some f∧(f=⟨0,0⟩∨f.Code≠0)∧(f=⟨0,0⟩→∀ c∈o,(Cq c.Lines).Code=0):=by
 have hl:=h.len;unfold Di;rw [A5];by_cases h1:(o.length:Int) > 240
 ·rw [Af h1];exact ⟨_,rfl,.inr (by decide),fun h=>by cases h⟩
 rw [Ae h1]
 have key:∀ (d k:Nat),k+d=o.length→(∀ j (hj:j < o.length),j < k→(Cq o[j].Lines).Code=0)→∃ r,Eo (fun s=>Di.l1 o s) (k:Int)=some r∧((r=.inr ()∧∀ c∈o,(Cq c.Lines).Code=0)∨∃ f,r=.inl f∧f.Code≠0):=by
  intro d
  induction d with
  | zero =>
   intro k hk hpre;refine ⟨_,B5 (r:=.inr ()) ?_,.inl ⟨rfl,fun c hc=>?_⟩⟩
   ·unfold Di.l1;rw [A5,Ae (by omega)]
   ·obtain ⟨j,hj,rfl⟩:=Da hc;exact hpre j hj (by omega)
  | succ d ih =>
   intro k hk hpre;have hlt:k < o.length:=by omega
   obtain ⟨r,e,hr,_⟩:=check_l2 (k:Int) o[k];have hc:=h.lin _ (Bn hlt);have ho:=h.oth _ (Bn hlt);rcases hr with ⟨rfl,h0⟩ | ⟨f,rfl,hf⟩
   ·have hs:Di.l1 o (k:Int)=some (.next (((k+1:Nat):Int)))∨∃ f,Di.l1 o (k:Int)=some (.done (.inl f))∧f.Code≠0:=by
     unfold Di.l1;rw [A5,Af (by omega),Ch hlt,Aa,e,Aa]
     simp only;unfold Di.j3;rw [Df (by omega) (by omega),Aa,Df (by omega) (by omega),Aa]
     have hb:∃ z:Bool,((if o[k].Conflict=true then some (decide ((o[k].Lines.length:Int) > 0)) else some false).bind fun x3=>(if x3=true then some true else (if (!o[k].Conflict)=true then (if decide ((o[k].Lines.length:Int)=0)=true then some true else some (decide ((o[k].Base.length:Int)+(o[k].Left.length:Int)+(o[k].Right.length:Int) > 0))).bind fun x6=>some x6 else some false).bind fun x5=>some x5))=some z:=by
      generalize decide ((o[k].Lines.length:Int) > 0)=z1;generalize decide ((o[k].Lines.length:Int)=0)=z2;generalize decide ((o[k].Base.length:Int)+(o[k].Left.length:Int)+(o[k].Right.length:Int) > 0)=z3;cases o[k].Conflict <;> cases z1 <;> cases z2 <;> cases z3 <;> exact ⟨_,rfl⟩
     obtain ⟨z,hz⟩:=hb;rw [← Option.bind_assoc,hz,Aa];cases z
     ·rw [Ae Ah];unfold Di.j2;rw [Df (by omega) (by omega),Aa]
      exact .inl rfl
     ·rw [Af rfl];exact .inr ⟨_,rfl,by simp⟩
    rcases hs with hs | ⟨f,hs,hf⟩
    ·rw [C0 hs];refine ih (k+1) (by omega) fun j hj hjk=>?_
     rcases Ht (Nn hjk) with h2 | h2
     ·exact hpre j hj h2
     ·subst h2;exact h0
    ·exact ⟨_,B5 hs,.inr ⟨f,rfl,hf⟩⟩
   ·refine ⟨_,B5 (r:=.inl f) ?_,.inr ⟨f,rfl,hf⟩⟩;unfold Di.l1;rw [A5,Af (by omega),Ch hlt,Aa,e,Aa]
 obtain ⟨r,e,hr⟩:=key o.length 0 (by omega) (fun _ _ h=>absurd h (by omega))
 rw [show ((0:Nat):Int)=0 from rfl] at e;rw [e,Aa];rcases hr with ⟨rfl,h2⟩ | ⟨f,rfl,hf⟩
 ·exact ⟨_,rfl,.inl rfl,fun _=>h2⟩
 ·exact ⟨f,rfl,.inr hf,fun hh=>by rw [hh] at hf;exact absurd rfl hf⟩
theorem check_nrm {s:Ac} (h:Ll s):Di (nrm s)=some ⟨0,0⟩:=by
 have h0:=(H4 s).1 ((Lo s).1 h);have hl:=h.1;have hn:(Cq []).Code=0:=by decide +kernel
 unfold nrm;by_cases hs:s=[]
 ·rw [Af hs];unfold Di;have e:Di.l1 [] 0=some (.done (.inr ())):=by unfold Di.l1;rw [A5,Ae (by simp)]
  rw [A5,Ae (by simp),B5 e];rfl
 ·rw [Ae hs];have hlen:s.length≠0:=fun h=>hs (Dz h);unfold Di;obtain ⟨r,e,_,hr⟩:=check_l2 0 (Qd s);have hr:=hr h0 hn hn hn;subst hr
  have e1:Di.l1 [Qd s] 0=some (.next 1):=by
   unfold Di.l1;rw [A5,Af (by simp),show at? [Qd s] 0=some (Qd s) from rfl,Aa,e,Aa]
   simp only;unfold Di.j3 Qd;simp only;rw [Df (by simp) (by simp),Aa,Df (by simp) (by simp),Aa]
   have hd:decide ((s.length:Int)=0)=false:=by simpa using hs
   simp only [Cl,Eh,Aa,Bool.not_false,Gi,hd,G1];unfold Di.j2;rfl
  have e2:Di.l1 [Qd s] 1=some (.done (.inr ())):=by unfold Di.l1;rw [A5,Ae (by simp)]
  rw [A5,Ae (by simp),C0 e1,B5 e2];rfl
theorem clean_hit {k B:Nat} {o:B0} (h:Csm k B o) (hk:k≤1100) (hB:B≤100000000) (hc:T7 o=true):Eo (fun s=>Gv.l1 o s.1 s.2) (0,[])=some (.inl ([],false,⟨0,0⟩)):=by
 have hl:=h.len
 have hex:∃ j,∃ hj:j < o.length,o[j].Conflict=true:=by
  unfold T7 at hc;rw [Kz] at hc;obtain ⟨c,h1,h2⟩:=hc;obtain ⟨j,hj,rfl⟩:=Da h1;exact ⟨j,hj,h2⟩
 obtain ⟨r,e,hr⟩:=inv_loopE (f:=fun s=>Gv.l1 o s.1 s.2) 0 o.length (D3 _) (fun i s=>s.length≤i * 100000000∧∀ j (hj:j < o.length),j < i→o[j].Conflict=false) (fun r=>r=.inl ([],false,⟨0,0⟩)) (by
  rintro i s _ hi ⟨g1,g2⟩;have hlin:=h.lin _ (Bn hi);unfold Gv.l1;simp only;rw [A5,Af (by omega),Ch hi,Aa]
  cases hcc:o[i].Conflict
  ·left;have:i * 100000000≤1100 * 100000000:=A3 _ (by omega)
   rw [Ae Ah,Gm (by omega),Aa,Df (by omega) (by omega),Aa]
   refine ⟨_,rfl,by rw [Av];omega,fun j hj hji=>?_⟩
   rcases Ht (Nn hji) with h2 | h2
   ·exact g2 j hj h2
   ·subst h2;exact hcc
  ·right;rw [Af rfl];exact ⟨_,rfl,rfl⟩) (by
  rintro s ⟨_,g2⟩;obtain ⟨j,hj,h1⟩:=hex;rw [g2 j hj hj] at h1;cases h1) [] ⟨by simp,fun j _ h=>by omega⟩
 rw [show ((0:Nat):Int)=0 from rfl] at e;rw [e,hr]
noncomputable def Zq (b l r:Ac):Option Ac :=
 match cmT b (Lt b l) (Lt b r) (Zb (Lt b l) (Lt b r)) 0 with
 | Option.none=>Option.none
 | some s=>if s.length≤120 then some s else Option.none
theorem clean_f {b l r:Ac} (hb:Ll b) (hl:Ll l) (hr:Ll r):∃ s ok f,Gv (chunksF b l r)=some (s,ok,f)∧((Zq b l r=some s∧ok=true∧f=⟨0,0⟩∧Ll s)∨(Zq b l r=Option.none∧ok=false)):=by
 have hsm:=(Merge_f hb hl hr).2;have hP:=Vf hb hl;have hQ:=Vf hb hr;have hch:=mchk_cm (t:=b) (P:=Lt b l) (Q:=Lt b r) (Zb (Lt b l) (Lt b r)) 0 [];rw [show nrm []=[] from rfl] at hch;unfold Gv;unfold Zq;rcases hch with ⟨y,h1,h2⟩ | ⟨h1,h2⟩
 ·rw [Bo] at h2;have hy:=cmT_line hb.2 hP hQ _ _ _ h1;rw [h1];simp only;have hcf:chunksF b l r=nrm y:=h2;rw [hcf] at hsm ⊢;by_cases h120:y.length≤120
  ·have hok:Ll y:=⟨h120,hy⟩;rw [Af h120,check_nrm hok,Aa,Ae (by simp)]
   refine ⟨y,true,⟨0,0⟩,?_,.inl ⟨rfl,rfl,rfl,hok⟩⟩;have hw:Vv y=some (y,⟨0,0⟩):=by unfold Vv;rw [A5,Ae (by omega)]
   unfold nrm;by_cases hy0:y=[]
   ·rw [Af hy0];have e:Gv.l1 [] 0 []=some (.done (.inr [])):=by unfold Gv.l1;rw [A5,Ae (by simp)]
    rw [B5 (m:=fun s:Int×Ac=>Gv.l1 [] s.1 s.2) e,Aa];unfold Gv.j1;simp only;rw [← hy0,hw];rfl
   ·rw [Ae hy0]
    have e1:Gv.l1 [Qd y] 0 []=some (.next (1,y)):=by
     unfold Gv.l1;rw [A5,Af (by simp),show at? [Qd y] 0=some (Qd y) from rfl,Aa]
     unfold Qd;simp only;rw [Ae Ah,Gm (by simp;omega),Aa,Df (by omega) (by omega),Aa];rfl
    have e2:Gv.l1 [Qd y] 1 y=some (.done (.inr y)):=by unfold Gv.l1;rw [A5,Ae (by simp)]
    rw [C0 (m:=fun s:Int×Ac=>Gv.l1 [Qd y] s.1 s.2) e1,B5 (m:=fun s:Int×Ac=>Gv.l1 [Qd y] s.1 s.2) e2,Aa];unfold Gv.j1;simp only;rw [hw];rfl
  ·rw [Ae h120];obtain ⟨f,e,hf,hok⟩:=check_tot hsm (by omega) (by omega)
   rw [e,Aa];rcases hf with rfl | hf
   ·have hy0:y≠[]:=fun h=>by subst h;simp at h120
    have:=hok rfl (Qd y) (by unfold nrm;rw [Ae hy0];simp)
    have h3:=((Lo y).2 ((H4 y).2 this)).1;exact absurd h3 h120
   ·rw [Af (by simp [hf])]
    exact ⟨_,_,_,rfl,.inr ⟨rfl,rfl⟩⟩
 ·rw [h1];simp only;have hc:T7 (chunksF b l r)=true:=h2;obtain ⟨f,e,hf,_⟩:=check_tot hsm (by omega) (by omega)
  rw [e,Aa];rcases hf with rfl | hf
  ·rw [Ae (by simp),clean_hit hsm (by omega) (by omega) hc,Aa]
   exact ⟨_,_,_,rfl,.inr ⟨trivial,rfl⟩⟩
  ·rw [Af (by simp [hf])]
   exact ⟨_,_,_,rfl,.inr ⟨trivial,rfl⟩⟩
end Go.Dc
set_option linter.unusedSimpArgs false
set_option linter.unusedVariables false
set_option maxRecDepth 4000
namespace Go.Dc
open Go
theorem chn_lt:∀ {P:Bc} {e:Int},Chn e P→(∀ h∈P,0≤h.At)→∀ h∈P,e < h.At
 | [],_,_,_,h,hh=>by cases hh
 | x::P,e,hc,hp,h,hh=>by
  obtain ⟨c1,c2⟩:=hc;rcases Cd.1 hh with rfl | hh
  ·exact c1
  ·have:=chn_lt c2 (fun y hy=>hp y (B2 _ hy)) h hh;omega
theorem chn_filter {p:Hunk→Bool}:∀ {P:Bc} {e:Int},Chn e P→Chn e (P.filter p)
 | [],_,_=>trivial
 | x::P,e,hc=>by
  obtain ⟨c1,c2⟩:=hc;rw [N2];have:=chn_filter (p:=p) c2;cases p x
  ·rw [Ae Ah]
   have mono:∀ {Q:Bc} {e e':Int},e'≤e→Chn e Q→Chn e' Q:=by
    intro Q e e' hle h;cases Q with
    | nil=>trivial
    | cons y Q=>exact ⟨by have:=h.1;omega,h.2⟩
   exact mono (by omega) this
  ·rw [Af rfl];exact ⟨c1,this⟩
end Go.Dc
set_option linter.unusedSimpArgs false
set_option linter.unusedVariables false
set_option maxRecDepth 4000
noncomputable section
namespace Go.Dc
open Go
abbrev OT:=Option Ac
def ver:OT→Version_treecommute
 | Option.none=>⟨false,[]⟩
 | some l=>⟨true,l⟩
def OkO (o:OT):Prop:=∀ l,o=some l→Ll l
def lk (l:Ai) (p:ByteArray):OT:=if Mv l p=true then (l[Ky l p]?).map (·.Lines) else Option.none
theorem lk_some {l:Ai} (h:Ng l) {p:ByteArray} {L:Ac}:lk l p=some L↔(⟨p,L⟩:File)∈l:=by
 unfold lk;constructor
 ·intro e;by_cases hh:Mv l p=true
  ·rw [Af hh] at e;obtain ⟨hp,e2⟩:=X5 h hh;rw [Bv hp,Og] at e;have e3:=Km e;have hm:=Bn hp
   have:l[Ky l p]=⟨p,L⟩:=by
    generalize l[Ky l p]=f at e2 e3;obtain ⟨a,b⟩:=f;simp only at e2 e3;rw [e2,e3]
   rw [this] at hm;exact hm
  ·rw [Ae hh] at e;cases e
 ·intro hm;obtain ⟨hp,h1,h2⟩:=mem_has h hm;rw [Af h1,Bv hp,h2];rfl
theorem lk_none {l:Ai} (h:Ng l) {p:ByteArray}:lk l p=Option.none↔Mv l p=false:=by
 unfold lk;cases hh:Mv l p
 ·simp
 ·rw [Af rfl];obtain ⟨hp,_⟩:=X5 h hh;rw [Bv hp];simp
theorem Q8 {l:Ai} {p:ByteArray}:Mv l p=true↔∃ f∈l,f.Path=p:=by
 unfold Mv;rw [Kz];exact ⟨fun ⟨f,h1,h2⟩=>⟨f,h1,by simpa using h2⟩,fun ⟨f,h1,h2⟩=>⟨f,h1,by simpa using h2⟩⟩
theorem lk_ok {l:Ai} (h:TrOk l) (p:ByteArray):OkO (lk l p):=fun L e=>h.text _ ((lk_some h.srt).1 e)
theorem tcfind_f {l:Ai} (h:TrOk l) (p:ByteArray):Mr ⟨l⟩ p=some (ver (lk l p)):=by
 have hl:=h.len;unfold Mr lk;rw [Find_f h.srt (by omega),Aa]
 simp only;cases hh:Mv l p
 ·rfl
 ·obtain ⟨hp,_⟩:=X5 h.srt hh;rw [Ae (by decide),Ch hp,Aa,Af rfl,Bv hp];rfl
theorem same_f {a b:OT} (ha:OkO a) (hb:OkO b):M7 (ver a) (ver b)=some (decide (a=b)):=by
 unfold M7;cases a with
 | none =>
  cases b with
  | none =>
   have e:=sequal_f [] [] (by simp)
   simp [ver,e]
  | some y=>simp [ver]
 | some x =>
  cases b with
  | none=>simp [ver]
  | some y =>
   have:=(ha x rfl).1;have e:=sequal_f x y (by omega)
   simp [ver,e]
def mgO (b l r:OT):OT×Bool :=
 if r=b∨r=l then (l,true) else if l=b then (r,true) else match b,l,r with
 | some x,some y,some z=>(match Zq x y z with | some s=>(some s,true) | Option.none=>(some y,false))
 | _,_,_=>(l,false)
theorem merged_f {b l r:OT} (hb:OkO b) (hl:OkO l) (hr:OkO r):Kw (ver b) (ver l) (ver r)=some (ver (mgO b l r).1,(mgO b l r).2)∧OkO (mgO b l r).1:=by
 unfold Kw mgO;rw [same_f hr hb,Aa,same_f hr hl,Aa];have e1:(if decide (r=b)=true then some true else some (decide (r=l)))=some (decide (r=b∨r=l)):=by by_cases h:r=b <;> simp [h]
 rw [e1,Aa,A5];by_cases h1:r=b∨r=l
 ·rw [Af h1,Af h1];exact ⟨rfl,hl⟩
 rw [Ae h1,Ae h1,same_f hl hb,Aa,A5];by_cases h2:l=b
 ·rw [Af h2,Af h2];exact ⟨rfl,hr⟩
 rw [Ae h2,Ae h2];cases b with
 | none=>exact ⟨rfl,hl⟩
 | some x =>
  cases l with
  | none=>exact ⟨rfl,hl⟩
  | some y =>
   cases r with
   | none=>exact ⟨rfl,hl⟩
   | some z =>
    have ox:=hb x rfl;have oy:=hl y rfl;have oz:=hr z rfl;obtain ⟨s,ok,f,e,hc⟩:=clean_f ox oy oz;simp only [ver,Gi,Aa];rw [(Merge_f ox oy oz).1,Aa];simp only [Hk,Lz,Gi];rw [e,Aa];simp only;rcases hc with ⟨c1,rfl,rfl,c2⟩ | ⟨c1,rfl⟩
    ·rw [c1];exact ⟨rfl,fun L h=>by cases h;exact c2⟩
    ·rw [c1];exact ⟨rfl,fun L h=>by cases h;exact oy⟩
def Wo (p:TreePatch) (path:ByteArray):Int:=(D9 p path).getD (-1)
theorem last_f {p:TreePatch} (hp:∀ c∈p.Changes,OkCh c) (hl:p.Changes.length≤30) {path:ByteArray} (hs:path.size≤1000000) :
  D9 p path=some (Wo p path)∧((Wo p path = -1∧∀ c∈p.Changes,Tz path c=false)∨∃ k,∃ h:k < p.Changes.length,Wo p path=(k:Int)∧Tz path p.Changes[k]=true):=by
 have key:∀ k,k≤p.Changes.length→(∀ j (h:j < p.Changes.length),k≤j→Tz path p.Changes[j]=false) →
   ∃ r,Eo (fun s=>D9.l1 p path s) ((k:Int) - 1)=some r∧((r=.inr ()∧∀ c∈p.Changes,Tz path c=false)∨∃ j,∃ h:j < p.Changes.length,r=.inl (j:Int)∧Tz path p.Changes[j]=true):=by
  intro k
  induction k with
  | zero =>
   intro _ h;refine ⟨.inr (),B5 ?_,.inl ⟨rfl,fun c hc=>?_⟩⟩
   ·unfold D9.l1;rw [A5,Ae (by omega)]
   ·obtain ⟨j,hj,rfl⟩:=Da hc;exact h j hj (D3 _)
  | succ k ih =>
   intro hk h;have hlt:k < p.Changes.length:=by omega
   have e1:((k+1:Nat):Int) - 1=(k:Int):=by omega
   rw [e1]
   have hs1:D9.l1 p path (k:Int)=if Tz path p.Changes[k]=true then some (.done (.inl (k:Int))) else some (.next ((k:Int) - 1)):=by
    unfold D9.l1;rw [A5,Af (by omega),Ch hlt,Aa,touches_f hs (hp _ (Bn hlt)).size,Aa]
    split
    ·rfl
    ·rw [Df (by omega) (by omega),Aa]
   by_cases ht:Tz path p.Changes[k]=true
   ·rw [Af ht] at hs1;exact ⟨_,B5 hs1,.inr ⟨k,hlt,rfl,ht⟩⟩
   ·rw [Ae ht] at hs1;rw [C0 hs1];refine ih (by omega) fun j hj hkj=>?_
    rcases Ht hkj with h2 | h2
    ·exact h j hj h2
    ·subst h2;simpa using ht
 obtain ⟨r,e,hr⟩:=key p.Changes.length (C1 _) fun j hj h=>by omega
 have e0:∃ x,D9 p path=some x∧((x = -1∧∀ c∈p.Changes,Tz path c=false)∨∃ j,∃ h:j < p.Changes.length,x=(j:Int)∧Tz path p.Changes[j]=true):=by
  unfold D9;rw [Df (by omega) (by omega),Aa,e,Aa]
  rcases hr with ⟨rfl,h2⟩ | ⟨j,hj,rfl,h2⟩
  ·exact ⟨_,rfl,.inl ⟨rfl,h2⟩⟩
  ·exact ⟨_,rfl,.inr ⟨j,hj,rfl,h2⟩⟩
 obtain ⟨x,e1,h1⟩:=e0;have ex:Wo p path=x:=by unfold Wo;rw [e1];rfl
 rw [ex];exact ⟨e1,h1⟩
def K6 (l:Ai):Ac:=l.map (·.Path)
theorem prow_f (t:FileTree) (hl:t.Files.length≤1000) (acc:Ac) (ha:acc.length≤10000) :
  Eo (fun s=>Dd.l2 t s.1 s.2) (0,acc)=some (acc++K6 t.Files):=by
 obtain ⟨r,e,rfl⟩:=Oa (f:=fun s=>Dd.l2 t s.1 s.2) t.Files.length (fun k x=>x=acc++K6 (t.Files.take k)) (fun x=>x=acc++K6 t.Files) (by
  rintro k x hk rfl;unfold Dd.l2;simp only;have hlen:(K6 (t.Files.take k)).length=k:=by unfold K6;rw [Et,B9];omega
  refine ⟨_,?_,rfl⟩;rw [A5,Af (by omega),Ch hk,Aa,Gm (by simp only [Av,hlen,Ax];omega),Aa,Df (by omega) (by omega),Aa]
  unfold K6;rw [Bg hk,Lx,Az];rfl) (by
  rintro x rfl;unfold Dd.l2;simp only;rw [A5,Ae (by omega),De]
  exact ⟨_,rfl,rfl⟩) acc (by simp [K6])
 exact e
theorem all_f3 {a b c:FileTree} (ha:a.Files.length≤24) (hb:b.Files.length≤24) (hc:c.Files.length≤24):Dd [a,b,c]=some (ksort (K6 a.Files++K6 b.Files++K6 c.Files)):=by
 have la:(K6 a.Files).length≤24:=by unfold K6;rw [Et];exact ha
 have lb:(K6 b.Files).length≤24:=by unfold K6;rw [Et];exact hb
 have lc:(K6 c.Files).length≤24:=by unfold K6;rw [Et];exact hc
 have st:∀ (j:Nat) (t:FileTree) (acc:Ac),j < 3→[a,b,c][j]? = some t→t.Files.length≤24→acc.length≤100→Dd.l1 [a,b,c] (j:Int) acc=some (.next ((j:Int)+1,acc++K6 t.Files)):=by
  intro j t acc hj ht hl hacc;unfold Dd.l1;rw [A5,Af (by simp;omega),show at? [a,b,c] (j:Int)=some t from by unfold at?;rw [Af (by omega)];simpa using ht,Aa,prow_f _ (by omega) _ (by omega),Aa]
  unfold Dd.j3 Dd.j2;rw [Df (by omega) (by omega),Aa]
 have s0:=st 0 a [] (by omega) rfl ha (by simp)
 have s1:=st 1 b (K6 a.Files) (by omega) rfl hb (by omega)
 have s2:=st 2 c (K6 a.Files++K6 b.Files) (by omega) rfl hc (by rw [Av];omega)
 rw [show ((0:Nat):Int)=0 from rfl,show (0:Int)+1=1 from rfl,Bo] at s0;rw [show ((1:Nat):Int)=1 from rfl,show (1:Int)+1=2 from rfl] at s1;rw [show ((2:Nat):Int)=2 from rfl,show (2:Int)+1=3 from rfl] at s2;have s3:∀ x,Dd.l1 [a,b,c] 3 x=some (.done x):=by intro x;unfold Dd.l1;rw [A5,Ae (by simp)]
 unfold Dd
 rw [C0 (m:=fun s:Int×Ac=>Dd.l1 [a,b,c] s.1 s.2) s0,C0 (m:=fun s:Int×Ac=>Dd.l1 [a,b,c] s.1 s.2) s1,C0 (m:=fun s:Int×Ac=>Dd.l1 [a,b,c] s.1 s.2) s2,
  B5 (m:=fun s:Int×Ac=>Dd.l1 [a,b,c] s.1 s.2) (s3 _),Aa]
 unfold Dd.j1;have hl3:(K6 a.Files++K6 b.Files++K6 c.Files).length≤72:=by rw [Av,Av];omega
 have hs:sortS? (K6 a.Files++K6 b.Files++K6 c.Files)=some (Wu (K6 a.Files++K6 b.Files++K6 c.Files)):=by
  unfold sortS?;rw [Af (by omega)]
 rw [hs,Aa,scompact_f (by rw [(sortS_perm _).length_eq];omega),Aa];rfl
theorem pathsL_mem {l:Ai} {p:ByteArray}:p∈K6 l↔Mv l p=true:=by
 rw [Q8];unfold K6;rw [Hz]
section
variable (B L R : Ai)
def vF (p:ByteArray):OT×Bool:=mgO (lk B p) (lk L p) (lk R p)
def Xw (p:ByteArray):Option File:=match (vF B L R p).1,lk L p with
 | some v,some _=>some ⟨p,v⟩
 | _,_=>Option.none
def Ud (p:ByteArray):Option File:=match (vF B L R p).1,lk L p with
 | some v,Option.none=>some ⟨p,v⟩
 | _,_=>Option.none
def fstO (left right:TreePatch) (p:ByteArray):Option Arr2_Int:=if (vF B L R p).2=true then Option.none else some ⟨Wo left p,Wo right p⟩
end
theorem Yh {α β:Type} (f:α→Option β) (l:List α) (x:α):(l++[x]).filterMap f=l.filterMap f++(f x).toList:=by
 rw [List.filterMap_append];cases h:f x <;> simp [List.filterMap,h]
theorem fm_path {f:ByteArray→Option File} (hf:∀ p x,f p=some x→x.Path=p):∀ {l:Ac},SAsc l→Ng (l.filterMap f)
 | [],_=>O5
 | p::l,h=>by
  have h1:l.Pairwise fun x y=>sLt x y=true:=(Em.1 h).2;have ih:=fm_path hf (l:=l) h1;cases e:f p with
  | none=>rw [List.filterMap_cons_none e];exact ih
  | some x =>
   rw [List.filterMap_cons_some e];refine Em.2 ⟨fun y hy=>?_,ih⟩;obtain ⟨q,hq,hqy⟩:=M4.1 hy;rw [hf p x e,hf q y hqy];exact (Em.1 h).1 q hq
theorem outO_path (B L R:Ai):∀ p x,Xw B L R p=some x→x.Path=p:=by
 intro p x h;unfold Xw at h;split at h
 ·cases h;rfl
 ·cases h
theorem Ze (B L R:Ai):∀ p x,Ud B L R p=some x→x.Path=p:=by
 intro p x h;unfold Ud at h;split at h
 ·cases h;rfl
 ·cases h
theorem put_end {l:Ai} (h:Ng l) (hl:l.length≤1000) {p:ByteArray} (hp:∀ f∈l,sLt f.Path p=true) {t:Ac} (ht:t.length≤1000000):Ku ⟨l⟩ p t=some ⟨l++[⟨p,t⟩]⟩:=by
 have hn:Mv l p=false:=by
  cases hh:Mv l p
  ·rfl
  ·obtain ⟨f,hf,e⟩:=Q8.1 hh;have:=hp f hf;rw [e,Tr] at this;cases this
 rw [Put_f h hl hn ht,ins_end hp]
theorem walk_f {B L R:Ai} (hB:TrOk B) (hL:TrOk L) (hR:TrOk R) {left right:TreePatch} (hcl:∀ c∈left.Changes,OkCh c) (hll:left.Changes.length≤30) (hcr:∀ c∈right.Changes,OkCh c) (hrl:right.Changes.length≤30) {fl fr:Fault}
  {K:Ac} (hK:SAsc K) (hKl:K.length≤100) (hKs:∀ p∈K,p.size≤60) :
  Eo (fun s=>A8.l3 ⟨B⟩ left right (⟨L⟩,fl) (⟨R⟩,fr) K s.1 s.2.1 s.2.2.1 s.2.2.2) (0,[],[],[])=some (K.filterMap (fstO B L R left right),K.filterMap (Ud B L R),K.filterMap (Xw B L R),R):=by
 obtain ⟨r,e,rfl⟩:=Oa (f:=fun s=>A8.l3 ⟨B⟩ left right (⟨L⟩,fl) (⟨R⟩,fr) K s.1 s.2.1 s.2.2.1 s.2.2.2) K.length
  (fun k s=>s=((K.take k).filterMap (fstO B L R left right),(K.take k).filterMap (Ud B L R),(K.take k).filterMap (Xw B L R)))
  (fun r=>r=(K.filterMap (fstO B L R left right),K.filterMap (Ud B L R),K.filterMap (Xw B L R),R)) (by
  rintro k s hk rfl;have hsz:=hKs _ (Bn hk);have hKt:SAsc (K.take k):=List.Pairwise.sublist (List.take_sublist _ _) hK
  have hlt:∀ q∈K.take k,sLt q K[k]=true:=by
   intro q hq;obtain ⟨j,hj,rfl⟩:=Da hq;rw [B9] at hj;rw [E7];exact (Ce.1 hK) j k (by omega) hk (by omega)
  have so:=fm_path (outO_path B L R) hKt;have sl:=fm_path (Ze B L R) hKt;have lo:((K.take k).filterMap (Xw B L R)).length≤k:=Cc (Dh _ _) (by rw [B9];omega)
  have ll:((K.take k).filterMap (Ud B L R)).length≤k:=Cc (Dh _ _) (by rw [B9];omega)
  have lf:((K.take k).filterMap (fstO B L R left right)).length≤k:=Cc (Dh _ _) (by rw [B9];omega)
  have po:∀ f∈(K.take k).filterMap (Xw B L R),sLt f.Path K[k]=true:=by
   intro f hf;obtain ⟨q,hq,e⟩:=M4.1 hf;rw [outO_path B L R q f e];exact hlt q hq
  have pl:∀ f∈(K.take k).filterMap (Ud B L R),sLt f.Path K[k]=true:=by
   intro f hf;obtain ⟨q,hq,e⟩:=M4.1 hf;rw [Ze B L R q f e];exact hlt q hq
  refine ⟨_,?_,rfl⟩;rw [Bg hk,Yh,Yh,Yh];generalize (K.take k).filterMap (Xw B L R)=o at so lo po;generalize (K.take k).filterMap (Ud B L R)=lt at sl ll pl;generalize (K.take k).filterMap (fstO B L R left right)=fs at lf;obtain ⟨m1,m2⟩:=merged_f (lk_ok hB K[k]) (lk_ok hL K[k]) (lk_ok hR K[k]);obtain ⟨t1,_⟩:=last_f hcl hll (path:=K[k]) (by omega)
  obtain ⟨t2,_⟩:=last_f hcr hrl (path:=K[k]) (by omega)
  unfold A8.l3;simp only;rw [A5,Af (by omega),Ch hk,Aa,tcfind_f hL,Aa,tcfind_f hB,Aa,tcfind_f hR,Aa,m1,Aa]
  have hj6:∀ a b c,A8.j6 (k:Int) a b c=some (.next (((k+1:Nat):Int),a,b,c)):=by
   intro a b c;unfold A8.j6;rw [Df (by omega) (by omega),Aa];rfl
  have hv:vF B L R K[k]=mgO (lk B K[k]) (lk L K[k]) (lk R K[k]):=rfl
  have hj8:∀ a,A8.j8 (k:Int) lt o K[k] (ver (lk L K[k])) (ver (mgO (lk B K[k]) (lk L K[k]) (lk R K[k])).1,(mgO (lk B K[k]) (lk L K[k]) (lk R K[k])).2) a=some (.next (((k+1:Nat):Int),a,lt++(Ud B L R K[k]).toList,o++(Xw B L R K[k]).toList)):=by
   intro a;unfold A8.j8 Ud Xw;rw [hv];cases hm:(mgO (lk B K[k]) (lk L K[k]) (lk R K[k])).1 with
   | none =>
    simp [ver,hj6]
   | some v =>
    have hv2:=(m2 v hm).1;cases hlk:lk L K[k] with
    | none =>
     have e:=put_end sl (by omega) pl (t:=v) (by omega)
     simp [ver,e,hj6]
    | some w =>
     have e:=put_end so (by omega) po (t:=v) (by omega)
     simp [ver,e,hj6]
  unfold A8.j7 fstO;simp only;rw [hv,t1,Aa,t2,Aa];cases hc:(mgO (lk B K[k]) (lk L K[k]) (lk R K[k])).2
  ·rw [hc] at hj8;rw [Af (show (!false)=true from rfl),Gm (by rw [Ax];omega),Aa,hj8]
   simp
  ·rw [hc] at hj8;rw [Ae (show ¬ (!true)=true by decide),hj8]
   simp) (by
  rintro s rfl;unfold A8.l3;simp only;rw [A5,Ae (by omega),De]
  exact ⟨_,rfl,rfl⟩) ([],[],[]) rfl
 exact e
def Wh (R out:Ai):Ai:=out.filter fun x=>!Mv R x.Path
theorem own_f {R out:Ai} (hR:TrOk R) (hl:out.length≤1000):Eo (fun s=>A8.l2 out R s.1 s.2) (0,[])=some (Wh R out):=by
 obtain ⟨r,e,rfl⟩:=Oa (f:=fun s=>A8.l2 out R s.1 s.2) out.length (fun k s=>s=Wh R (out.take k)) (fun r=>r=Wh R out) (by
  rintro k s hk rfl;have hlen:(Wh R (out.take k)).length≤k:=Cc (Kv _ _) (by rw [B9];omega)
  have hj:∀ w,A8.j5 (k:Int) w=some (.next (((k+1:Nat):Int),w)):=by
   intro w;unfold A8.j5;rw [Df (by omega) (by omega),Aa];rfl
  refine ⟨_,?_,rfl⟩
  have e:Wh R (out.take (k+1))=Wh R (out.take k)++if Mv R out[k].Path=true then [] else [out[k]]:=by
   unfold Wh;rw [Bg hk,M5];cases h:Mv R out[k].Path <;> simp [h]
  have hi:(ver (lk R out[k].Path)).is=Mv R out[k].Path:=by
   cases h:Mv R out[k].Path
   ·rw [(lk_none hR.srt).2 h];rfl
   ·cases h2:lk R out[k].Path with
    | none=>rw [(lk_none hR.srt).1 h2] at h;cases h
    | some v=>rfl
  unfold A8.l2;simp only;rw [A5,Af (by omega),Ch hk,Aa,tcfind_f hR,Aa,hi,e]
  cases h:Mv R out[k].Path
  ·rw [Af (show (!false)=true from rfl),Gm (by rw [Ax];omega),Aa,hj,Ae Ah]
  ·rw [Ae (show ¬ (!true)=true by decide),hj,Af rfl,Bx]) (by
  rintro s rfl;unfold A8.l2;simp only;rw [A5,Ae (by omega),De]
  exact ⟨_,rfl,rfl⟩) [] rfl
 exact e
theorem clash_any {l:Ai} {p:ByteArray} (hl:∀ f∈l,f.Path.size≤1000000) (hn:l.length≤1000000) (hp:p.size≤1000000):E2 l p (-1)=some (Hm l p):=by
 rw [clash_f hl hn hp];congr 1
 have key:∀ (l:Ai) (k:Nat),(Mw (clG p (-1)) k l).isSome=Hm l p:=by
  intro l
  induction l with
  | nil=>intro k;rfl
  | cons f l ih =>
   intro k
   have hcl:clG p (-1) k f=if Oj f.Path p=true then some true else Option.none:=by
    unfold clG;have hk:(k:Int) ≠ -1:=by omega
    by_cases h:Oj f.Path p=true
    ·rw [Af ⟨hk,h⟩,Af h]
    ·rw [Ae (fun hh=>h hh.2),Ae h]
   rw [Mw,hcl];have:=ih (k+1);unfold Hm at this ⊢;rw [Lj,← this];cases h:Oj f.Path p
   ·rfl
   ·rfl
 exact key l 0
def Um (own:Ai) (o:Ai) (x:File):Ai:=if Hm own x.Path=true then o else Ws o x
def secO (left right:TreePatch) (own:Ai) (x:File):Option Arr2_Int:=if Hm own x.Path=true then some ⟨Wo left x.Path,Wo right x.Path⟩ else Option.none
theorem late_mem {own:Ai}:∀ (late o:Ai) (f:File),f∈late.foldl (Um own) o↔f∈o∨(f∈late∧Hm own f.Path=false)
 | [],o,f=>by simp
 | x::late,o,f=>by
  rw [Hx,late_mem late];unfold Um;cases h:Hm own x.Path
  ·rw [Ae Ah,ins_mem];constructor
   ·rintro ((rfl | h1) | ⟨h1,h2⟩)
    ·exact .inr ⟨C6,h⟩
    ·exact .inl h1
    ·exact .inr ⟨B2 _ h1,h2⟩
   ·rintro (h1 | ⟨h1,h2⟩)
    ·exact .inl (.inr h1)
    ·rcases Cd.1 h1 with rfl | h1
     ·exact .inl (.inl rfl)
     ·exact .inr ⟨h1,h2⟩
  ·rw [Af rfl];constructor
   ·rintro (h1 | ⟨h1,h2⟩)
    ·exact .inl h1
    ·exact .inr ⟨B2 _ h1,h2⟩
   ·rintro (h1 | ⟨h1,h2⟩)
    ·exact .inl h1
    ·rcases Cd.1 h1 with rfl | h1
     ·rw [h] at h2;cases h2
     ·exact .inr ⟨h1,h2⟩
theorem late_srt {own:Ai}:∀ (late o:Ai),Ng o→Ng late→(∀ f∈late,Mv o f.Path=false)→Ng (late.foldl (Um own) o)∧(late.foldl (Um own) o).length≤o.length+late.length
 | [],o,h,_,_=>⟨h,by simp⟩
 | x::late,o,h,hl,hn=>by
  have hl1:=Em.1 hl;rw [Hx];have hx:=hn x C6
  have hS:Ng (Um own o x)∧(Um own o x).length≤o.length+1:=by
   unfold Um;split
   ·exact ⟨h,by omega⟩
   ·exact ⟨ins_srt h hx,Nat.le_of_eq (ins_len _ _)⟩
  have hn':∀ f∈late,Mv (Um own o x) f.Path=false:=by
   intro f hf;have h1:=hn f (B2 _ hf);unfold Um;split
   ·exact h1
   ·cases hh:Mv (Ws o x) f.Path
    ·rfl
    ·obtain ⟨g,hg,e⟩:=Q8.1 hh;rcases ins_mem.1 hg with rfl | hg
     ·have:=hl1.1 f hf;rw [e,Tr] at this;cases this
     ·rw [Q8.2 ⟨g,hg,e⟩] at h1;cases h1
  obtain ⟨i1,i2⟩:=late_srt (own:=own) late _ hS.1 hl1.2 hn';exact ⟨i1,by rw [Ew];omega⟩
theorem late_f {left right:TreePatch} (hcl:∀ c∈left.Changes,OkCh c) (hll:left.Changes.length≤30) (hcr:∀ c∈right.Changes,OkCh c) (hrl:right.Changes.length≤30) {own late out:Ai}
  (ho:Ng out) (hol:out.length≤100) (hlt:Ng late) (hll2:late.length≤100) (hn:∀ f∈late,Mv out f.Path=false) (hsz:∀ f∈late,f.Path.size≤60) (htx:∀ f∈late,f.Lines.length≤1000) (hown:∀ f∈own,f.Path.size≤60) (hownl:own.length≤1000) :
  Eo (fun s=>A8.l1 left right late own s.1 s.2.1 s.2.2) (0,[],out)=some (late.filterMap (secO left right own),late.foldl (Um own) out):=by
 obtain ⟨r,e,rfl⟩:=Oa (f:=fun s=>A8.l1 left right late own s.1 s.2.1 s.2.2) late.length
  (fun k s=>s=((late.take k).filterMap (secO left right own),(late.take k).foldl (Um own) out)) (fun r=>r=(late.filterMap (secO left right own),late.foldl (Um own) out)) (by
  rintro k s hk rfl;have hx:=Bn hk;have hs:=hsz _ hx;obtain ⟨q1,q2⟩:=late_srt (own:=own) (late.take k) out ho (List.Pairwise.sublist (List.take_sublist _ _) hlt) fun f hf=>hn f (Hb hf);rw [B9] at q2;have q3:((late.take k).foldl (Um own) out).length≤1000:=by omega
  have hno:Mv ((late.take k).foldl (Um own) out) late[k].Path=false:=by
   cases hh:Mv ((late.take k).foldl (Um own) out) late[k].Path
   ·rfl
   ·obtain ⟨g,hg,e⟩:=Q8.1 hh;rcases (late_mem _ _ _).1 hg with h1 | ⟨h1,_⟩
    ·have:=hn _ hx;rw [Q8.2 ⟨g,h1,e⟩] at this;cases this
    ·obtain ⟨j,hj,rfl⟩:=Da h1;rw [B9] at hj;rw [E7] at e;have:=(Ce.1 hlt) j k (by omega) hk (by omega)
     rw [e,Tr] at this;cases this
  have ls:((late.take k).filterMap (secO left right own)).length≤k:=Cc (Dh _ _) (by rw [B9];omega)
  have hj:∀ a b,A8.j4 (k:Int) a b=some (.next (((k+1:Nat):Int),a,b)):=by
   intro a b;unfold A8.j4;rw [Df (by omega) (by omega),Aa];rfl
  obtain ⟨t1,_⟩:=last_f hcl hll (path:=late[k].Path) (by omega)
  obtain ⟨t2,_⟩:=last_f hcr hrl (path:=late[k].Path) (by omega)
  refine ⟨_,?_,rfl⟩;rw [Bg hk,Yh,List.foldl_append];unfold A8.l1;simp only [Hx,List.foldl_nil];rw [A5,Af (by omega),Ch hk,Aa,clash_any (fun f hf=>by have:=hown f hf;omega) (by omega) (by omega),Aa]
  cases h:Hm own late[k].Path
  ·have e1:secO left right own late[k]=Option.none:=by unfold secO;rw [h];rfl
   have e2:∀ o,Um own o late[k]=Ws o late[k]:=fun o=>by unfold Um;rw [h];rfl
   rw [Ae Ah,Put_f q1 q3 hno (Cc (htx _ hx) (by decide)),Aa,hj,e1,e2]
   simp
  ·have e1:secO left right own late[k]=some ⟨Wo left late[k].Path,Wo right late[k].Path⟩:=by unfold secO;rw [h];rfl
   have e2:∀ o,Um own o late[k]=o:=fun o=>by unfold Um;rw [h];rfl
   rw [Af rfl,t1,Aa,t2,Aa,Gm (by rw [Ax];omega),Aa,hj,e1,e2]
   rfl) (by
  rintro s rfl;unfold A8.l1;simp only;rw [A5,Ae (by omega),De]
  exact ⟨_,rfl,rfl⟩) ([],out) rfl
 exact e
end Go.Dc
set_option linter.unusedSimpArgs false
set_option linter.unusedVariables false
set_option maxRecDepth 4000
noncomputable section
namespace Go.Dc
open Go
section
variable (B L R : Ai)
def tmK:Ac:=ksort (K6 B++K6 L++K6 R)
def Vo:Ai:=(tmK B L R).filterMap (Xw B L R)
def O8:Ai:=(tmK B L R).filterMap (Ud B L R)
def tmFst (left right:TreePatch):Bp:=(tmK B L R).filterMap (fstO B L R left right)
def Yi:Ai:=Wh R (Vo B L R)
def tmFin:Ai:=(O8 B L R).foldl (Um (Yi B L R)) (Vo B L R)
def tmSec (left right:TreePatch):Bp:=(O8 B L R).filterMap (secO left right (Yi B L R))
end
theorem mem_K {B L R:Ai} {p:ByteArray}:p∈tmK B L R↔Mv B p=true∨Mv L p=true∨Mv R p=true:=by
 unfold tmK;rw [ksort_mem,Bj,Bj,pathsL_mem,pathsL_mem,pathsL_mem];exact or_assoc
theorem not_K {B L R:Ai} (hB:Ng B) (hL:Ng L) (hR:Ng R) {p:ByteArray} (h:p ∉ tmK B L R):vF B L R p=(Option.none,true):=by
 rw [mem_K,not_or,not_or] at h;have e1:=(lk_none hB).2 (by simpa using h.1)
 have e2:=(lk_none hL).2 (by simpa using h.2.1)
 have e3:=(lk_none hR).2 (by simpa using h.2.2)
 unfold vF mgO;rw [e1,e2,e3];simp
theorem mem_out {B L R:Ai} (hB:Ng B) (hL:Ng L) (hR:Ng R) {f:File}:f∈Vo B L R↔(vF B L R f.Path).1=some f.Lines∧lk L f.Path≠Option.none:=by
 unfold Vo;rw [M4];constructor
 ·rintro ⟨p,_,h⟩;have hp:=outO_path B L R p f h;subst hp;unfold Xw at h;split at h
  ·rename_i v w h1 h2
   have e:=congrArg File.Lines (Km h);simp only at e;exact ⟨by rw [h1,e],by rw [h2];simp⟩
  ·cases h
 ·rintro ⟨h1,h2⟩;refine ⟨f.Path,?_,?_⟩
  ·by_cases hk:f.Path∈tmK B L R
   ·exact hk
   ·rw [not_K hB hL hR hk] at h1;cases h1
  ·unfold Xw;cases h3:lk L f.Path with
   | none=>exact absurd h3 h2
   | some w=>rw [h1]
theorem mem_late {B L R:Ai} (hB:Ng B) (hL:Ng L) (hR:Ng R) {f:File}:f∈O8 B L R↔(vF B L R f.Path).1=some f.Lines∧lk L f.Path=Option.none:=by
 unfold O8;rw [M4];constructor
 ·rintro ⟨p,_,h⟩;have hp:=Ze B L R p f h;subst hp;unfold Ud at h;split at h
  ·rename_i v h1 h2
   have e:=congrArg File.Lines (Km h);simp only at e;exact ⟨by rw [h1,e],h2⟩
  ·cases h
 ·rintro ⟨h1,h2⟩;refine ⟨f.Path,?_,?_⟩
  ·by_cases hk:f.Path∈tmK B L R
   ·exact hk
   ·rw [not_K hB hL hR hk] at h1;cases h1
  ·unfold Ud;rw [h1,h2]
theorem K_len {B L R:Ai} (hB:TrOk B) (hL:TrOk L) (hR:TrOk R):(tmK B L R).length≤72:=by
 have:=ksort_len (K6 B++K6 L++K6 R);unfold tmK;have h1:=hB.len;have h2:=hL.len;have h3:=hR.len;unfold K6 at *;rw [Av,Av,Et,Et,Et] at this;omega
theorem K_size {B L R:Ai} (hB:TrOk B) (hL:TrOk L) (hR:TrOk R):∀ p∈tmK B L R,p.size≤60:=by
 intro p hp
 have h:∀ l:Ai,TrOk l→Mv l p=true→p.size≤60:=by
  intro l hl hh;obtain ⟨f,hf,rfl⟩:=Q8.1 hh;exact Mx (hl.path f hf)
 rcases mem_K.1 hp with h1 | h1 | h1
 ·exact h B hB h1
 ·exact h L hL h1
 ·exact h R hR h1
theorem out_srt (B L R:Ai):Ng (Vo B L R):=fm_path (outO_path B L R) (ksort_asc _)
theorem late_srtT (B L R:Ai):Ng (O8 B L R):=fm_path (Ze B L R) (ksort_asc _)
theorem late_no {B L R:Ai} (hB:Ng B) (hL:Ng L) (hR:Ng R):∀ f∈O8 B L R,Mv (Vo B L R) f.Path=false:=by
 intro f hf;cases hh:Mv (Vo B L R) f.Path
 ·rfl
 ·obtain ⟨g,hg,e⟩:=Q8.1 hh;have h1:=((mem_late hB hL hR).1 hf).2;have h2:=((mem_out hB hL hR).1 hg).2;rw [e] at h2;exact absurd h1 h2
theorem fin_mem {B L R:Ai} {f:File}:f∈tmFin B L R↔f∈Vo B L R∨(f∈O8 B L R∧Hm (Yi B L R) f.Path=false):=late_mem _ _ _
theorem fin_srt {B L R:Ai} (hB:Ng B) (hL:Ng L) (hR:Ng R):Ng (tmFin B L R):=(late_srt (own:=Yi B L R) _ _ (out_srt B L R) (late_srtT B L R) (late_no hB hL hR)).1
theorem vF_ok {B L R:Ai} (hB:TrOk B) (hL:TrOk L) (hR:TrOk R) (p:ByteArray):OkO (vF B L R p).1:=(merged_f (lk_ok hB p) (lk_ok hL p) (lk_ok hR p)).2
theorem tmerge {B:Ai} {left right:TreePatch} (hB:TrOk B) (h1:(Ke left.Changes B).2.Code=0) (h2:(Ke right.Changes B).2.Code=0) :
  A8 ⟨B⟩ left right=some (if (tmFin B (Ke left.Changes B).1 (Ke right.Changes B).1).length > 24 then (⟨[]⟩,[],⟨10,-1⟩)
   else (⟨tmFin B (Ke left.Changes B).1 (Ke right.Changes B).1⟩,tmFst B (Ke left.Changes B).1 (Ke right.Changes B).1 left right++tmSec B (Ke left.Changes B).1 (Ke right.Changes B).1 left right,⟨0,0⟩)):=by
 obtain ⟨a1,a2,_,_,hL⟩:=T9 h1;obtain ⟨b1,b2,_,_,hR⟩:=T9 h2
 have f1:(Ke left.Changes B).2=⟨0,0⟩:=by
  obtain ⟨_,c2,c3,c4,_⟩:=T9 h1;rw [c4] at h1 ⊢;exact (run_ok _ _ _ c3 c2 h1).2
 have f2:(Ke right.Changes B).2=⟨0,0⟩:=by
  obtain ⟨_,c2,c3,c4,_⟩:=T9 h2;rw [c4] at h2 ⊢;exact (run_ok _ _ _ c3 c2 h2).2
 have eB:K0 B=⟨0,0⟩:=by
  rcases Zk B with h | h
  ·exact h
  ·exact absurd ((Od B).2 hB) h
 unfold A8;rw [Xe,Aa];simp only;rw [eB];simp only [Hk,Lz,G9,Cl,Eh];rw [Apply_f,Aa];simp only;rw [f1];simp only [Hk,Lz,G9,Cl,Eh];rw [Apply_f,Aa];simp only;rw [f2];simp only [Hk,Lz,G9,Cl,Eh];generalize (Ke left.Changes B).1=L at hL ⊢;generalize (Ke right.Changes B).1=R at hR ⊢;have lK:=K_len hB hL hR;have sK:=K_size hB hL hR;have lo:(Vo B L R).length≤72:=Cc (Dh _ _) lK;have ll:(O8 B L R).length≤72:=Cc (Dh _ _) lK;have lf:(tmFst B L R left right).length≤72:=Cc (Dh _ _) lK
 have hsz:∀ f,(f∈Vo B L R∨f∈O8 B L R)→f.Path.size≤60∧f.Lines.length≤120:=by
  intro f hf
  have hv:(vF B L R f.Path).1=some f.Lines:=by
   rcases hf with hf | hf
   ·exact ((mem_out hB.srt hL.srt hR.srt).1 hf).1
   ·exact ((mem_late hB.srt hL.srt hR.srt).1 hf).1
  refine ⟨?_,(vF_ok hB hL hR f.Path f.Lines hv).1⟩;by_cases hk:f.Path∈tmK B L R
  ·exact sK _ hk
  ·rw [not_K hB.srt hL.srt hR.srt hk] at hv;cases hv
 have lown:(Yi B L R).length≤72:=Cc (Kv _ _) lo
 have hlf:=late_f a2 a1 b2 b1 (own:=Yi B L R) (out_srt B L R) (by omega) (late_srtT B L R) (by omega) (late_no hB.srt hL.srt hR.srt) (fun f hf=>(hsz f (.inr hf)).1) (fun f hf=>by have:=(hsz f (.inr hf)).2;omega)
  (fun f hf=>(hsz f (.inl (G2.1 hf).1)).1) (by omega)
 have ls:(tmSec B L R left right).length≤72:=Cc (Dh _ _) ll;rw [all_f3 hB.len hL.len hR.len,Aa];rw [show ksort (K6 B++K6 L++K6 R)=tmK B L R from rfl,walk_f hB hL hR a2 a1 b2 b1 (K:=tmK B L R) (ksort_asc _) (by omega) sK,Aa]
 simp only;rw [show (tmK B L R).filterMap (fstO B L R left right)=tmFst B L R left right from rfl,show (tmK B L R).filterMap (Ud B L R)=O8 B L R from rfl,show (tmK B L R).filterMap (Xw B L R)=Vo B L R from rfl];unfold A8.j1;rw [own_f hR (by omega),Aa]
 unfold A8.j2;rw [show Wh R (Vo B L R)=Yi B L R from rfl,hlf,Aa];simp only;rw [show (O8 B L R).filterMap (secO left right (Yi B L R))=tmSec B L R left right from rfl,show (O8 B L R).foldl (Um (Yi B L R)) (Vo B L R)=tmFin B L R from rfl];unfold A8.j3;rw [A5];by_cases h24:(tmFin B L R).length > 24
 ·rw [Af (by omega),Af h24]
 ·rw [Ae (by omega),Ae h24,Gm (by omega),Aa]
end Go.Dc
set_option linter.unusedSimpArgs false
set_option linter.unusedVariables false
set_option maxRecDepth 4000
namespace Go.Dc
open Go
def gsum:Bc→Int
 | []=>0
 | h::r=>gr h+gsum r
theorem gsum_append:∀ a b:Bc,gsum (a++b)=gsum a+gsum b
 | [],b=>by simp [gsum]
 | h::r,b=>by rw [List.cons_append,gsum,gsum,gsum_append r b];omega
theorem gsum_take {l:Bc} {k:Nat} (h:k < l.length):gsum (l.take (k+1))=gsum (l.take k)+gr l[k]:=by
 rw [Bg h,gsum_append];simp [gsum]
theorem gsum_small:∀ (l:Bc),(∀ h∈l,h.Old.length≤120∧h.New.length≤120) → -(120 * (l.length:Int))≤gsum l∧gsum l≤120 * (l.length:Int)
 | [],_=>by simp [gsum]
 | h::r,hs=>by
  obtain ⟨i1,i2⟩:=gsum_small r (fun x hx=>hs x (B2 _ hx));obtain ⟨a,b⟩:=hs h (by simp)
  obtain ⟨g1,g2⟩:=gr_small a b;rw [gsum,Ew];omega
theorem lcs_step:∀ (a b:Ac) (y:ByteArray),lcs a (y::b)≤lcs a b+1∧lcs a b≤lcs a (y::b)
 | [],b,y=>by simp [lcs]
 | x::a,[],y=>by
  rw [Wn,V1,V1];have:=lcs_step a [] y;rw [V1] at this;split <;> omega
 | x::a,z::b,y=>by
  have h1:=lcs_step a (z::b) y;have h5:=lcs_step (z::b) a x;rw [Xv (z::b) (x::a),Xv (z::b) a] at h5;rw [Wn x y];split <;> omega
 termination_by a b=>a.length+b.length
theorem lcs_step_l (a b:Ac) (x:ByteArray):lcs (x::a) b≤lcs a b+1∧lcs a b≤lcs (x::a) b:=by
 rw [Xv (x::a) b,Xv a b];exact lcs_step b a x
def Col (a b:Ac) (j:Nat) (c:List Int) (i:Nat):Prop:=c.length=a.length+1∧∀ p (h:p < c.length),i≤p∨p=a.length→c[p]=(lcs (a.drop p) (b.drop j):Nat)
def Cols (a b:Ac) (T:List (List Int)) (j:Nat):Prop:=T.length=b.length+1∧∀ q (h:q < T.length),j≤q→Col a b q T[q] 0
variable {a b : Ac} (hs : (a.length + 1) * (b.length + 1) * 24 ≤ 140737488355328)
section
include hs
theorem small_r:(a.length+1) * 24≤140737488355328∧(b.length+1) * 24≤140737488355328:=by
 constructor
 ·exact Cc (A3 _ (Nat.le_mul_of_pos_right _ (by omega))) hs
 ·exact Cc (A3 _ (Nat.le_mul_of_pos_left _ (by omega))) hs
theorem col_loop {j:Nat} (hj:j < b.length):∀ (i:Nat) (T:List (List Int)),i≤a.length→Cols a b T (j+1)→(∃ h:j < T.length,Col a b j T[j] i) →
  ∃ T',Eo (fun s=>Ba.l2 a b (j:Int) s.1 s.2) ((i:Int) - 1,T)=some T'∧Cols a b T' j:=by
 obtain ⟨s1,s2⟩:=small_r hs;intro i
 induction i with
 | zero =>
  intro T _ hT ⟨h,hc⟩;refine ⟨T,B5 ?_,hT.1,fun q hq hjq=>?_⟩
  ·unfold Ba.l2;simp (implicitDefEqProofs:=false) (disch:=omega) only [A5,Ae]
  ·by_cases he:q=j
   ·subst he;exact hc
   ·exact hT.2 q hq (by omega)
 | succ i ih =>
  intro T hi hT ⟨h,hc⟩;have hTl:=hT.1;have hj1:j+1 < T.length:=by omega
  obtain ⟨c1,c2⟩:=hT.2 (j+1) hj1 (by omega)
  obtain ⟨d1,d2⟩:=hc;have hia:i < a.length:=by omega
  have v1:T[j+1][i]'(by omega)=(lcs (a.drop i) (b.drop (j+1)):Nat):=c2 i (by omega) (.inl (by omega))
  have v2:T[j+1][i+1]'(by omega)=(lcs (a.drop (i+1)) (b.drop (j+1)):Nat):=c2 (i+1) (by omega) (.inl (by omega))
  have v3:T[j][i+1]'(by omega)=(lcs (a.drop (i+1)) (b.drop j):Nat):=d2 (i+1) (by omega) (.inl (by omega))
  have e1:at? T ((j:Int)+1)=some T[j+1]:=by rw [show (j:Int)+1=((j+1:Nat):Int) from rfl];exact Ch hj1
  have e2:at? T (j:Int)=some T[j]:=Ch h;have e3:at? T[j+1] (i:Int)=some T[j+1][i]:=Ch (by omega)
  have e4:at? T[j+1] ((i:Int)+1)=some (T[j+1][i+1]'(by omega)):=by rw [show (i:Int)+1=((i+1:Nat):Int) from rfl];exact Ch (by omega)
  have e5:at? T[j] ((i:Int)+1)=some (T[j][i+1]'(by omega)):=by rw [show (i:Int)+1=((i+1:Nat):Int) from rfl];exact Ch (by omega)
  have e6:at? T[j] (i:Int)=some (T[j][i]'(by omega)):=Ch (by omega)
  have b0:=lcs_le (a.drop (i+1)) (b.drop (j+1));have b1:=lcs_le (a.drop i) (b.drop (j+1));have b2:=lcs_le (a.drop (i+1)) (b.drop j);simp only [Dg] at b0 b1 b2;have hda:=M2 hia;have hdb:=M2 hj;have k1:=lcs_step (a.drop (i+1)) (b.drop (j+1)) b[j];have k2:=lcs_step_l (a.drop (i+1)) (b.drop (j+1)) a[i];rw [← hdb] at k1;rw [← hda] at k2;have hl:=Wn a[i] b[j] (a.drop (i+1)) (b.drop (j+1));rw [← hda,← hdb] at hl
  have fin:∀ n:Int,n=(lcs (a.drop i) (b.drop j):Nat)→Ba.j5 (j:Int) (i:Int) n T=some (.next ((i:Int) - 1,T.set j (T[j].set i n))):=by
   intro n _;unfold Ba.j5;simp (implicitDefEqProofs:=false) (disch:=omega) only [e2,e6,Aa,Df,Bh]
  have j4e:∀ n:Int,n=max (lcs (a.drop (i+1)) (b.drop j):Nat) (lcs (a.drop i) (b.drop (j+1)):Nat) →
    Ba.j4 a b (j:Int) (i:Int) n T=some (.next ((i:Int) - 1,T.set j (T[j].set i ((lcs (a.drop i) (b.drop j):Nat):Int)))):=by
   intro n hn;unfold Ba.j4;simp (implicitDefEqProofs:=false) (disch:=omega) only [Ch hia,Ch hj,Aa,Df,e1,e4,v2,A5];by_cases heq:a[i]=b[j]
   ·rw [Af heq] at hl ⊢;simp only [Aa,Cg];by_cases hgt:((lcs (a.drop (i+1)) (b.drop (j+1)):Nat):Int)+1 > n
    ·rw [Af hgt,fin _ (by omega),hl];rfl
    ·rw [Ae hgt,fin _ (by omega)]
     rw [show n=((lcs (a.drop i) (b.drop j):Nat):Int) by omega]
   ·rw [Ae heq] at hl ⊢;simp only [Aa,Cl,Eh];rw [fin _ (by omega),show n=((lcs (a.drop i) (b.drop j):Nat):Int) by omega]
  have e0:Ba.l2 a b (j:Int) (((i+1:Nat):Int) - 1) T=some (.next ((i:Int) - 1,T.set j (T[j].set i ((lcs (a.drop i) (b.drop j):Nat):Int)))):=by
   rw [show ((i+1:Nat):Int) - 1=(i:Int) by omega]
   unfold Ba.l2;simp (implicitDefEqProofs:=false) (disch:=omega) only [A5,Af,Df,Aa,e1,e3,e2,e5,v1,v3];by_cases hgt:((lcs (a.drop (i+1)) (b.drop j):Nat):Int) > ((lcs (a.drop i) (b.drop (j+1)):Nat):Int)
   ·rw [Af hgt,j4e _ (by omega)]
   ·rw [Ae hgt,j4e _ (by omega)]
  rw [C0 e0];refine ih _ (by omega) ⟨by simpa using hTl,fun q hq hjq=>?_⟩ ⟨by simpa using h,?_⟩
  ·have hq':q < T.length:=by simpa using hq
   rw [List.getElem_set_ne (by omega)];exact hT.2 q hq' hjq
  ·rw [List.getElem_set_self];refine ⟨by simpa using d1,fun p hp hip=>?_⟩
   have hp':p < T[j].length:=by simpa using hp
   by_cases hpi:p=i
   ·subst hpi;simp
   ·rw [List.getElem_set_ne (Ne.symm hpi)];exact d2 p hp' (by omega)
theorem suffix_key:∀ (j:Nat) (T:List (List Int)),j≤b.length+1→Cols a b T j→∃ T',Eo (fun s=>Ba.l1 a b s.1 s.2) ((j:Int) - 1,T)=some T'∧Cols a b T' 0:=by
 obtain ⟨s1,s2⟩:=small_r hs;intro j
 induction j with
 | zero =>
  intro T _ hT;refine ⟨T,B5 ?_,hT⟩;unfold Ba.l1;simp (implicitDefEqProofs:=false) (disch:=omega) only [A5,Ae]
 | succ j ih =>
  intro T hj hT;have hTl:=hT.1;have hjT:j < T.length:=by omega
  have hm:mk? 8 ((a.length:Int)+1) (0:Int)=some (List.replicate (a.length+1) 0):=by
   rw [mk_eq (by omega) (by omega),show ((a.length:Int)+1).toNat=a.length+1 by omega]
  have hset:Cols a b (T.set j (List.replicate (a.length+1) 0)) (j+1):=by
   refine ⟨by simpa using hTl,fun q hq hjq=>?_⟩
   have hq':q < T.length:=by simpa using hq
   rw [List.getElem_set_ne (by omega)];exact hT.2 q hq' (by omega)
  by_cases hjb:j=b.length
  ·subst hjb
   have e0:Ba.l1 a b (((b.length+1:Nat):Int) - 1) T=some (.next ((b.length:Int) - 1,T.set b.length (List.replicate (a.length+1) 0))):=by
    rw [show ((b.length+1:Nat):Int) - 1=(b.length:Int) by omega]
    unfold Ba.l1 Ba.j2;simp (implicitDefEqProofs:=false) (disch:=omega) only [A5,Af,Gi,Df,Aa,hm,Ch hjT,Bh]
   rw [C0 e0];refine ih _ (by omega) ⟨by simpa using hTl,fun q hq hjq=>?_⟩
   have hq':q < T.length:=by simpa using hq
   have:q=b.length:=by omega
   subst this;rw [List.getElem_set_self];refine ⟨by simp,fun p hp _=>?_⟩
   simp [V1]
  ·obtain ⟨T',h1,h2⟩:=col_loop hs (j:=j) (by omega) a.length (T.set j (List.replicate (a.length+1) 0)) (C1 _) hset ⟨by simpa using hjT,by
    rw [List.getElem_set_self];refine ⟨by simp,fun p hp hip=>?_⟩
    have:p=a.length:=by simp at hp;omega
    subst this;simp [lcs_nil_l]⟩
   have e0:Ba.l1 a b (((j+1:Nat):Int) - 1) T=some (.next ((j:Int) - 1,T')):=by
    rw [show ((j+1:Nat):Int) - 1=(j:Int) by omega]
    unfold Ba.l1 Ba.j3 Ba.j2;simp (implicitDefEqProofs:=false) (disch:=omega) only [A5,Af,Ae,Df,Aa,hm,Ch hjT,Bh,h1]
   rw [C0 e0];exact ih _ (by omega) h2
theorem suffixes_eq:∃ T,Ba a b=some T∧Cols a b T 0:=by
 obtain ⟨s1,s2⟩:=small_r hs;unfold Ba Ba.j1
 have hm:mk? 24 ((b.length:Int)+1) ([]:List Int)=some (List.replicate (b.length+1) []):=by
  rw [mk_eq (by omega) (by omega),show ((b.length:Int)+1).toNat=b.length+1 by omega]
 obtain ⟨T',h1,h2⟩:=suffix_key hs (b.length+1) (List.replicate (b.length+1) []) (C1 _) ⟨by simp,fun q hq hjq=>by simp at hq;omega⟩
 rw [show ((b.length+1:Nat):Int) - 1=(b.length:Int) by omega] at h1
 refine ⟨T',?_,h2⟩;rw [Df (by omega) (by omega),Aa,hm,Aa,h1,Aa]
end
def Ui:Ac→Ac→C4
 | [],[]=>[]
 | [],y::b=>⟨2,y⟩::Ui [] b
 | x::a,[]=>⟨1,x⟩::Ui a []
 | x::a,y::b=>if x=y then ⟨0,x⟩::Ui a b else if lcs a (y::b) ≥ lcs (x::a) b then ⟨1,x⟩::Ui a (y::b) else ⟨2,y⟩::Ui (x::a) b
 termination_by a b=>a.length+b.length
theorem Wb:∀ (a b:Ac),(Ui a b).map (·.Kind)=N0 a b
 | [],[]=>by simp [Ui,N0]
 | [],y::b=>by simp [Ui,N0,Wb [] b]
 | x::a,[]=>by simp [Ui,N0,Wb a []]
 | x::a,y::b=>by
  rw [Ui,N0];split
  ·simp [Wb a b]
  ·split
   ·simp [Wb a (y::b)]
   ·simp [Wb (x::a) b]
 termination_by a b=>a.length+b.length
theorem cols_at {T:List (List Int)} (h:Cols a b T 0) {i j:Nat} (hi:i≤a.length) (hj:j≤b.length):∃ c,at? T (j:Int)=some c∧at? c (i:Int)=some ((lcs (a.drop i) (b.drop j):Nat):Int):=by
 obtain ⟨h1,h2⟩:=h;have hjT:j < T.length:=by omega
 obtain ⟨h3,h4⟩:=h2 j hjT (by omega)
 refine ⟨T[j],Ch hjT,?_⟩;rw [Ch (by omega),h4 i (by omega) (.inl (by omega))]
theorem alignR_loop {T:List (List Int)} (hT:Cols a b T 0) (hs:(a.length+b.length) * 24≤140737488355328):∀ (n i j:Nat) (out:C4),i≤a.length→j≤b.length→(a.length - i)+(b.length - j)=n→out.length≤i+j →
  Eo (fun s=>D5.l1 a b T s.1 s.2.1 s.2.2) ((j:Int),(i:Int),out)=some (out++Ui (a.drop i) (b.drop j)):=by
 intro n
 induction n using Nat.strongRecOn with
 | _ n ih =>
 intro i j out hi hj hn hl;have app:∀ x:Step_changeforgeref1,i+j < a.length+b.length→app? 24 out [x]=some (out++[x]):=fun x h=>Gm (by simp only [Ax];omega)
 by_cases hia:i < a.length
 ·have hda:=M2 hia;have ei:(i:Int)+1=((i+1:Nat):Int):=rfl;by_cases hjb:j < b.length
  ·have hdb:=M2 hjb;have ej:(j:Int)+1=((j+1:Nat):Int):=rfl;obtain ⟨c1,p1,p2⟩:=cols_at hT (i:=i+1) (j:=j) (by omega) hj
   obtain ⟨c2,q1,q2⟩:=cols_at hT (i:=i) (j:=j+1) (by omega) (by omega)
   rw [← ei] at p2;rw [← ej] at q1
   have e0:D5.l1 a b T (j:Int) (i:Int) out=if a[i]=b[j] then some (.next (((j+1:Nat):Int),((i+1:Nat):Int),out++[⟨0,a[i]⟩])) else
     if lcs (a.drop (i+1)) (b.drop j) ≥ lcs (a.drop i) (b.drop (j+1)) then some (.next ((j:Int),((i+1:Nat):Int),out++[⟨1,a[i]⟩])) else some (.next (((j+1:Nat):Int),(i:Int),out++[⟨2,b[j]⟩])):=by
    unfold D5.l1;have c1':decide ((i:Int) < (a.length:Int))=true:=As (by omega)
    have c2':decide ((j:Int) < (b.length:Int))=true:=As (by omega)
    have c3':decide ((j:Int)=(b.length:Int))=false:=Ao (by omega)
    rw [c1',c2',c3'];simp (implicitDefEqProofs:=false) (disch:=omega) only [Gi,Aa,Ch hia,Ch hjb,Df,p1,p2,q1,q2,Cl,Eh,app,Cg];split
    ·rfl
    ·by_cases h:lcs (a.drop (i+1)) (b.drop j) ≥ lcs (a.drop i) (b.drop (j+1))
     ·rw [Af (by omega),Af h];rfl
     ·rw [Ae (by omega),Ae h];rfl
   have hal:Ui (a.drop i) (b.drop j)=if a[i]=b[j] then ⟨0,a[i]⟩::Ui (a.drop (i+1)) (b.drop (j+1)) else if lcs (a.drop (i+1)) (b.drop j) ≥ lcs (a.drop i) (b.drop (j+1)) then ⟨1,a[i]⟩::Ui (a.drop (i+1)) (b.drop j) else ⟨2,b[j]⟩::Ui (a.drop i) (b.drop (j+1)):=by
    conv=>lhs;rw [hda,hdb,Ui]
    rw [← hda,← hdb]
   rw [hal];by_cases heq:a[i]=b[j]
   ·rw [Af heq] at e0 ⊢;rw [C0 e0,ih _ (by omega) (i+1) (j+1) _ (by omega) (by omega) rfl (by simp;omega),Az];rfl
   ·rw [Ae heq] at e0 ⊢;by_cases h:lcs (a.drop (i+1)) (b.drop j) ≥ lcs (a.drop i) (b.drop (j+1))
    ·rw [Af h] at e0 ⊢;rw [C0 e0,ih _ (by omega) (i+1) j _ (by omega) (by omega) rfl (by simp;omega),Az];rfl
    ·rw [Ae h] at e0 ⊢;rw [C0 e0,ih _ (by omega) i (j+1) _ (by omega) (by omega) rfl (by simp;omega),Az];rfl
  ·have hj':j=b.length:=by omega
   subst hj'
   have e0:D5.l1 a b T (b.length:Int) (i:Int) out=some (.next ((b.length:Int),((i+1:Nat):Int),out++[⟨1,a[i]⟩])):=by
    unfold D5.l1;have c1':decide ((i:Int) < (a.length:Int))=true:=As (by omega)
    have c2':decide ((b.length:Int) < (b.length:Int))=false:=Ao (by omega)
    rw [c1',c2'];simp (implicitDefEqProofs:=false) (disch:=omega) only [Gi,Aa,Ch hia,Df,Cl,Eh,app,Hk];rfl
   rw [C0 e0,ih _ (by omega) (i+1) b.length _ (by omega) (by omega) rfl (by simp;omega),Az,hda,List.drop_length]
   conv=>rhs;rw [Ui]
   rfl
 ·have hi':i=a.length:=by omega
  subst hi';by_cases hjb:j < b.length
  ·have hdb:=M2 hjb
   have e0:D5.l1 a b T (j:Int) (a.length:Int) out=some (.next (((j+1:Nat):Int),(a.length:Int),out++[⟨2,b[j]⟩])):=by
    unfold D5.l1;have c1':decide ((a.length:Int) < (a.length:Int))=false:=Ao (by omega)
    have c2':decide ((j:Int) < (b.length:Int))=true:=As (by omega)
    have c3':decide ((j:Int)=(b.length:Int))=false:=Ao (by omega)
    rw [c1',c2',c3'];simp (implicitDefEqProofs:=false) (disch:=omega) only [Gi,Aa,Ch hjb,Df,Cl,Eh,app];rfl
   rw [C0 e0,ih _ (by omega) a.length (j+1) _ (by omega) (by omega) rfl (by simp;omega),Az,hdb,List.drop_length]
   conv=>rhs;rw [Ui]
   rfl
  ·have hj':j=b.length:=by omega
   subst hj';rw [List.drop_length,List.drop_length];refine (B5 ?_).trans (by simp [Ui]:some out=_)
   unfold D5.l1;have c1':decide ((a.length:Int) < (a.length:Int))=false:=Ao (by omega)
   have c2':decide ((b.length:Int) < (b.length:Int))=false:=Ao (by omega)
   rw [c1',c2'];simp only [Cl,Eh,Aa]
theorem alignR_eq (hs:(a.length+1) * (b.length+1) * 24≤140737488355328):D5 a b=some (Ui a b):=by
 obtain ⟨T,h1,h2⟩:=suffixes_eq hs
 have hs2:(a.length+b.length) * 24≤140737488355328:=by
  have:a.length+b.length+1≤(a.length+1) * (b.length+1):=by
   rw [Cp,Nat.mul_add,Nat.mul_one,Nat.one_mul];omega
  omega
 unfold D5;rw [h1,Aa];have:=alignR_loop h2 hs2 _ 0 0 [] (D3 _) (D3 _) rfl (by simp)
 simp only [List.drop_zero,Bo] at this;rw [show (0:Int)=((0:Nat):Int) from rfl,this,Aa];rfl
theorem pw_ext {α:Type} {R:α→α→Prop} (asym:∀ x y,R x y→¬ R y x):∀ {a b:List α},a.Pairwise R→b.Pairwise R→(∀ f,f∈a↔f∈b)→a=b
 | [],[],_,_,_=>rfl
 | [],y::b,_,_,h=>absurd ((h y).2 (by simp)) (by simp)
 | x::a,[],_,_,h=>absurd ((h x).1 (by simp)) (by simp)
 | x::a,y::b,ha,hb,h=>by
  rw [Em] at ha hb;have irr:∀ z,¬ R z z:=fun z hz=>asym z z hz hz
  have e:x=y:=by
   rcases Cd.1 ((h x).1 (by simp)) with e | h1
   ·exact e
   ·rcases Cd.1 ((h y).2 (by simp)) with e | h2
    ·exact e.symm
    ·exact absurd (hb.1 x h1) (asym _ _ (ha.1 y h2))
  subst e;congr 1;refine pw_ext asym ha.2 hb.2 fun f=>⟨fun hf=>?_,fun hf=>?_⟩
  ·rcases Cd.1 ((h f).1 (B2 _ hf)) with e | h1
   ·subst e;exact absurd (ha.1 f hf) (irr f)
   ·exact h1
  ·rcases Cd.1 ((h f).2 (B2 _ hf)) with e | h1
   ·subst e;exact absurd (hb.1 f hf) (irr f)
   ·exact h1
end Go.Dc
set_option linter.unusedSimpArgs false
set_option linter.unusedVariables false
set_option maxRecDepth 4000
namespace Go.Dc
open Go
def prun:C4→Cst→Cst
 | [],s=>s
 | t::r,s=>prun r (if t.Kind=0 then Om s else if t.Kind=1 then Q6 t.Text s else Tb t.Text s)
theorem Xd:∀ (a b:Ac) (s:Cst),prun (Ui a b) s=scr a b s
 | [],[],s=>by simp [Ui,scr,prun]
 | [],y::b,s=>by rw [Ui,scr,prun,Xd [] b];simp
 | x::a,[],s=>by rw [Ui,scr,prun,Xd a []];simp
 | x::a,y::b,s=>by
  rw [Ui,scr];split
  ·rw [prun,Xd a b];simp
  ·split
   ·rw [prun,Xd a (y::b)];simp
   ·rw [prun,Xd (x::a) b];simp
 termination_by a b=>a.length+b.length
theorem Zc:∀ (a b:Ac),(Ui a b).length≤a.length+b.length
 | [],[]=>by simp [Ui]
 | [],y::b=>by have:=Zc [] b;rw [Ui];simp at this ⊢;omega
 | x::a,[]=>by have:=Zc a [];rw [Ui];simp at this ⊢;omega
 | x::a,y::b=>by
  rw [Ui];split
  ·have:=Zc a b;simp;omega
  ·split
   ·have:=Zc a (y::b);simp at this ⊢;omega
   ·have:=Zc (x::a) b;simp at this ⊢;omega
 termination_by a b=>a.length+b.length
theorem patchOf_loop (l:C4) (hl:l.length≤1000):∀ (rest:C4) (k:Nat) (s:Cst),l.drop k=rest→k≤l.length→CInv s k →
  Eo (fun s=>Ca.l1 l s.1 s.2.1 s.2.2.1 s.2.2.2) ((k:Int),s.2.2,s.2.1,s.1)=some (prun rest s).1:=by
 intro rest
 induction rest with
 | nil =>
  intro k s hk _ _;have:=L3 hk;refine B5 ?_;show Ca.l1 l _ _ _ _=_;unfold Ca.l1;rw [Ao (by omega),Ae Ah];rfl
 | cons t r ih =>
  intro k s hk hkl hs;obtain ⟨hlt,hx,hr⟩:=Me hk;have hat0:=hs.at0;have hat1:=hs.at1;have hlen:=hs.len
  have j2e:∀ (o:Bool) (p:Int) (h:Bc),Ca.j2 (k:Int) o p h=some (Step.next (((k+1:Nat):Int),o,p,h)):=by
   intro o p h;unfold Ca.j2;rw [Df (by omega) (by omega),Aa];rfl
  rw [prun];by_cases h0:t.Kind=0
  ·rw [Af h0]
   have hst:Ca.l1 l (k:Int) s.2.2 s.2.1 s.1=some (Step.next (((k+1:Nat):Int),(Om s).2.2,(Om s).2.1,(Om s).1)):=by
    unfold Ca.l1;rw [As (by omega),Af rfl,Ch hlt,Aa,hx,As h0,Af rfl,Df (by omega) (by omega),Aa,j2e]
    rfl
   rw [C0 (s':=(((k+1:Nat):Int),(Om s).2.2,(Om s).2.1,(Om s).1)) hst];exact ih (k+1) (Om s) hr hlt hs.keep
  ·rw [Ae h0];obtain ⟨q,hq⟩:=Zr s hs.open_;have hol:=Y6 s
   have ez:((Mh s).length:Int) - 1=(((Mh s).length - 1:Nat):Int):=by
    have:=L1.2 (cOpen_ne s hs.open_);omega
   have hqm:q.Old.length≤k∧q.New.length≤k:=by
    rcases V5 (List.mem_of_getLast? hq) with hq | ⟨h1,h2⟩
    ·exact hs.each q hq
    ·simp [h1,h2]
   have j3e:Ca.j3 l (k:Int) s.2.1 true (Mh s)=some (Step.next (((k+1:Nat):Int),true,(if t.Kind=1 then Q6 t.Text s else Tb t.Text s).2.1,(if t.Kind=1 then Q6 t.Text s else Tb t.Text s).1)):=by
    unfold Ca.j3;by_cases h1:t.Kind=1
    ·obtain ⟨g1,g2,g3⟩:=Ye hq fun h=>{ h with Old:=h.Old++[t.Text] };rw [Af h1,Df (by omega) (by omega),Aa,ez,Ch g1,Aa,Ch hlt,Aa,hx,As h1,Af rfl,Aa,g2,Gm (by simp only [Ax];omega),Aa,Df (by omega) (by omega),Aa,Aa,j2e,Bh]
     have:(Mh s).set ((Mh s).length - 1) ({ At:=q.At,Old:=q.Old++[t.Text],New:=q.New }:Hunk)=(Q6 t.Text s).1:=g3;rw [this];rfl
    ·obtain ⟨g1,g2,g3⟩:=Ye hq fun h=>{ h with New:=h.New++[t.Text] };rw [Ae h1,Df (by omega) (by omega),Aa,ez,Ch g1,Aa,Ch hlt,Aa,hx,Ao h1,Ae Ah,Aa,g2,Gm (by simp only [Ax];omega),Aa,Aa,j2e,Bh]
     have:(Mh s).set ((Mh s).length - 1) ({ At:=q.At,Old:=q.Old,New:=q.New++[t.Text] }:Hunk)=(Tb t.Text s).1:=g3;rw [this];rfl
   have ho:(if t.Kind=1 then Q6 t.Text s else Tb t.Text s).2.2=true:=by split <;> rfl
   have hst:Ca.l1 l (k:Int) s.2.2 s.2.1 s.1=some (Step.next (((k+1:Nat):Int),(if t.Kind=1 then Q6 t.Text s else Tb t.Text s).2.2,(if t.Kind=1 then Q6 t.Text s else Tb t.Text s).2.1,(if t.Kind=1 then Q6 t.Text s else Tb t.Text s).1)):=by
    unfold Ca.l1;rw [As (by omega),Af rfl,Ch hlt,Aa,hx,Ao h0,Ae Ah,ho]
    cases hb:s.2.2 with
    | true =>
     have:Mh s=s.1:=by unfold Mh;rw [hb,Af rfl]
     rw [this] at j3e;rw [Ae (by decide)];exact j3e
    | false =>
     have:Mh s=s.1++[⟨s.2.1,[],[]⟩]:=by unfold Mh;rw [hb,Ae (by decide)]
     rw [Af (by decide),Gm (by simp only [Ax];omega),Aa,← this];exact j3e
   rw [C0 (s':=(((k+1:Nat):Int),(if t.Kind=1 then Q6 t.Text s else Tb t.Text s).2.2,(if t.Kind=1 then Q6 t.Text s else Tb t.Text s).2.1,(if t.Kind=1 then Q6 t.Text s else Tb t.Text s).1)) hst]
   exact ih (k+1) _ hr hlt (by split;exact hs.del _;exact hs.ins _)
theorem rscript_f {a b:Ac} (ha:a.length≤400) (hb:b.length≤400):L0 a b=some ⟨Lt a b⟩:=by
 have h1:(a.length+1) * (b.length+1)≤401 * 401:=Tq (by omega) (by omega)
 have h2:=Zc a b;unfold L0 Ca;rw [alignR_eq (by omega),Aa]
 have:=patchOf_loop (Ui a b) (by omega) (Ui a b) 0 ([],0,false) rfl (D3 _) ⟨by simp,by simp,by simp,by simp,by simp⟩
 simp only [show ((0:Nat):Int)=0 from rfl] at this;rw [this,Aa,Xd];rfl
end Go.Dc
set_option linter.unusedSimpArgs false
set_option linter.unusedVariables false
set_option maxRecDepth 4000
namespace Go.Dc
open Go
theorem anyH_loop {α:Type} {m:Int→Option (Step Int (Bool ⊕ Unit))} (l:List α) (p:α→Bool) (h:∀ k (hk:k < l.length),m (k:Int)=if p l[k]=true then some (.done (.inl true)) else some (.next ((k+1:Nat):Int)))
  (he:m (l.length:Int)=some (.done (.inr ()))):Eo m 0=some (if l.any p=true then .inl true else .inr ()):=by
 have key:∀ (rest:List α) (k:Nat),l.drop k=rest→k≤l.length→Eo m (k:Int)=some (if rest.any p=true then .inl true else .inr ()):=by
  intro rest
  induction rest with
  | nil =>
   intro k hk hkl;have:=L3 hk;have e:k=l.length:=by omega
   subst e;exact B5 he
  | cons x r ih =>
   intro k hk hkl;obtain ⟨hlt,hx,hr⟩:=Me hk;have h1:=h k hlt;rw [hx] at h1;rw [Lj];by_cases hp:p x=true
   ·rw [Af hp] at h1;rw [B5 h1,hp];rfl
   ·rw [Ae hp] at h1;rw [C0 h1,ih (k+1) hr (by omega),Bool.eq_false_iff.2 hp,K1]
 exact key l 0 rfl (D3 _)
def cvH (k:Int) (h:Hunk):Bool:=decide (h.At≤k) && decide (k < h.At+h.Old.length)
def mkH (k:Int) (h:Hunk):Bool:=decide (h.At≤k) && decide (k≤h.At+h.Old.length)
def cvB (P:Bc) (k:Int):Bool:=P.any (cvH k)
def mkB (P:Bc) (k:Int):Bool:=P.any (mkH k)
theorem cvB_iff {P:Bc} {k:Int}:cvB P k=true↔∃ h∈P,h.At≤k∧k < h.At+h.Old.length:=by
 unfold cvB cvH;rw [Kz];simp only [Ec,Cg]
theorem mkB_iff {P:Bc} {k:Int}:mkB P k=true↔∃ h∈P,h.At≤k∧k≤h.At+h.Old.length:=by
 unfold mkB mkH;rw [Kz];simp only [Ec,Cg]
theorem covers_f {t:Ac} (ht:t.length≤120) {P Q:Bc} (hP:Side t P) (hQ:Side t Q) (k:Int):Db ⟨P⟩ ⟨Q⟩ k=some (cvB P k || cvB Q k):=by
 have hc:∀ (i:Nat) {S:Bc} (hS:Side t S) (hi:i < S.length),(if decide (S[i].At≤k)=true then (at? S (i:Int)).bind fun y=>(G4 y).bind fun z=>some (decide (k < z)) else some false)=some (cvH k S[i]):=by
  intro i S hS hi;obtain ⟨h1,h2,_⟩:=hS.ins _ (Bn hi);rw [Ch hi,Aa,rend_f _ (by omega) (by omega) (by omega),Aa]
  unfold cvH;by_cases h:S[i].At≤k <;> simp [h]
 have hl:=hP.len;have hl2:=hQ.len;unfold Db
 rw [anyH_loop P (cvH k) (fun i hi=>by
  unfold Db.l2;simp only;rw [A5,Af (by omega),Ch hi,Aa]
  have:=hc i hP hi;rw [Ch hi,Aa] at this;rw [Aa,this,Aa];split
  ·rfl
  ·rw [Df (by omega) (by omega),Aa];rfl) (by
  unfold Db.l2;simp only;rw [A5,Ae (by omega)]),Aa]
 show _=some (P.any (cvH k) || Q.any (cvH k));cases P.any (cvH k)
 ·rw [Ae Ah];simp only;unfold Db.j1
  rw [anyH_loop Q (cvH k) (fun i hi=>by
   unfold Db.l1;simp only;rw [A5,Af (by omega),Ch hi,Aa]
   have:=hc i hQ hi;rw [Ch hi,Aa] at this;rw [Aa,this,Aa];split
   ·rfl
   ·rw [Df (by omega) (by omega),Aa];rfl) (by
   unfold Db.l1;simp only;rw [A5,Ae (by omega)]),Aa]
  cases Q.any (cvH k) <;> rfl
 ·rfl
structure Mks (n:Nat) (z:List Int) (S:Int→Bool):Prop where
 len:z.length=n+1
 at_:∀ k (h:k < z.length),z[k]=if S (k:Int)=true then 1 else 0
theorem Mks.ext {n:Nat} {z:List Int} {S S':Int→Bool} (h:Mks n z S) (e:∀ k:Nat,k≤n→S k=S' k):Mks n z S' :=
 ⟨h.len,fun k hk=>by rw [h.at_ k hk,e k (by have:=h.len;omega)]⟩
theorem marks_l3 {n:Nat} {P:Bc} {i:Nat} (hi:i < P.length) (hn:n≤120) (h0:0≤P[i].At) (h1:P[i].At+P[i].Old.length≤n) {z:List Int} {S:Int→Bool} (hz:Mks n z S) :
  ∃ z',Eo (fun s=>A6.l3 P (i:Int) s.1 s.2) (P[i].At,z)=some z'∧Mks n z' (fun k=>S k || mkH k P[i]):=by
 obtain ⟨a,ha⟩:∃ a:Nat,P[i].At=(a:Int):=⟨P[i].At.toNat,by omega⟩
 rw [ha];refine inv_loopE a (a+P[i].Old.length+1) (by omega) (fun k z=>Mks n z fun j=>S j || (decide (P[i].At≤j) && decide (j < (k:Int)))) (fun z'=>Mks n z' (fun k=>S k || mkH k P[i])) ?_ ?_ z ?_
 ·intro k w hk1 hk2 hw;have hlw:=hw.len;refine .inl ⟨w.set k 1,?_,by rw [List.length_set];exact hlw,fun j hj=>?_⟩
  ·unfold A6.l3;simp only;rw [Ch hi,Aa,rend_f _ (by omega) (by omega) (by omega),Aa,A5,Af (by omega),Ch (by omega),Aa,Aa,Bh,Df (by omega) (by omega),Aa];rfl
  ·rw [List.length_set] at hj;rw [List.getElem_set];by_cases hjk:k=j
   ·subst hjk;rw [Af rfl,Af (by simp only [Gt,Ec,Cg];right;omega)]
   ·rw [Ae hjk,hw.at_ j hj];have:(decide ((j:Int) < (k:Int)))=decide ((j:Int) < ((k+1:Nat):Int)):=D4.2 (by omega)
    simp only [this]
 ·intro w hw;have hlw:=hw.len;refine ⟨w,?_,hw.ext fun k hk=>?_⟩
  ·unfold A6.l3;simp only;rw [Ch hi,Aa,rend_f _ (by omega) (by omega) (by omega),Aa,A5,Ae (by omega)]
  ·unfold mkH;have:(decide ((k:Int) < ((a+P[i].Old.length+1:Nat):Int)))=decide ((k:Int)≤P[i].At+P[i].Old.length):=D4.2 (by omega)
   rw [this]
 ·exact hz.ext fun k hk=>by
   have:(decide (P[i].At≤(k:Int)) && decide ((k:Int) < (a:Int)))=false:=by
    rw [Bool.and_eq_false_iff];simp only [E1];omega
   rw [this,N8]
theorem marks_l2 {t:Ac} (ht:t.length≤120) {P:Bc} (hP:Side t P) {z:List Int} {S:Int→Bool} (hz:Mks t.length z S) :
  ∃ z',Eo (fun s=>A6.l2 P s.1 s.2) (0,z)=some z'∧Mks t.length z' (fun k=>S k || mkB P k):=by
 have hl:=hP.len;refine Oa P.length (fun k z=>Mks t.length z fun j=>S j || mkB (P.take k) j) _ ?_ ?_ z (hz.ext fun k _=>by simp [mkB])
 ·intro k w hk hw;obtain ⟨h1,h2,_⟩:=hP.ins _ (Bn hk);obtain ⟨z',e,hz'⟩:=marks_l3 hk ht h1 h2 hw;refine ⟨z',?_,hz'.ext fun j _=>?_⟩
  ·unfold A6.l2;simp only;rw [A5,Af (by omega),Ch hk,Aa,e,Aa]
   unfold A6.j6 A6.j5;rw [Df (by omega) (by omega),Aa];rfl
  ·rw [Bg hk];unfold mkB;rw [Hy];simp [Bool.or_assoc]
 ·intro w hw;refine ⟨w,?_,by rw [De] at hw;exact hw⟩
  unfold A6.l2;simp only;rw [A5,Ae (by omega)]
theorem joined_f {t:Ac} (ht:t.length≤120) {P Q:Bc} (hP:Side t P) (hQ:Side t Q):∃ z,A6 t ⟨P⟩ ⟨Q⟩=some z∧Mks t.length z fun k=>mkB P k || mkB Q k:=by
 have h0:Mks t.length (List.replicate (t.length+1) 0) fun _=>false:=⟨by simp,fun k h=>by simp⟩
 obtain ⟨z1,e1,h1⟩:=marks_l2 ht hP h0;obtain ⟨z2,e2,h2⟩:=marks_l2 ht hQ h1;refine ⟨z2,?_,h2.ext fun k _=>by simp⟩
 have hj:∀ (x:Int) w,0≤x→x≤5→A6.j4 x w=some (.next (x+1,w)):=by
  intro x w hx hx5;unfold A6.j4 A6.j2;rw [Df (by omega) (by omega),Aa]
 have s0:A6.l1 ⟨P⟩ ⟨Q⟩ 0 (List.replicate (t.length+1) 0)=some (.next (1,z1)):=by
  unfold A6.l1;rw [A5,Af (by omega),A5,Ae (by omega)]
  unfold A6.j3;rw [e1,Aa,hj 0 z1 (by omega) (by omega)];rfl
 have s1:A6.l1 ⟨P⟩ ⟨Q⟩ 1 z1=some (.next (2,z2)):=by
  unfold A6.l1;rw [A5,Af (by omega),A5,Af (by omega)]
  unfold A6.j3;rw [e2,Aa,hj 1 z2 (by omega) (by omega)];rfl
 have s2:A6.l1 ⟨P⟩ ⟨Q⟩ 2 z2=some (.done z2):=by
  unfold A6.l1;rw [A5,Ae (by omega)]
 unfold A6;rw [Df (by omega) (by omega),Aa,mk_eq (by omega) (by omega),Aa,show ((t.length:Int)+1).toNat=t.length+1 by omega]
 rw [C0 (m:=fun s:Int×List Int=>A6.l1 ⟨P⟩ ⟨Q⟩ s.1 s.2) s0,C0 (m:=fun s:Int×List Int=>A6.l1 ⟨P⟩ ⟨Q⟩ s.1 s.2) s1,B5 (m:=fun s:Int×List Int=>A6.l1 ⟨P⟩ ⟨Q⟩ s.1 s.2) s2,Aa];rfl
def nwL (P:Bc) (k:Int):Ac:=(P.filter fun h=>decide (h.At=k)).flatMap (·.New)
def nwB (P:Bc) (k:Int):Bool:=P.any fun h=>decide (h.At=k)
def vT (t:Ac) (N:Int→Ac) (C:Int→Bool):Nat→Nat→Ac
 | k,0=>N k
 | k,n+1=>N k++((if C k=true then [] else (t.drop k).take 1)++vT t N C (k+1) n)
theorem vT_ext {t:Ac} {N N':Int→Ac} {C C':Int→Bool}:∀ (n k:Nat),(∀ j:Nat,k≤j→j≤k+n→N j=N' j)→(∀ j:Nat,k≤j→j < k+n→C j=C' j)→vT t N C k n=vT t N' C' k n
 | 0,k,h1,_=>by rw [vT,vT,h1 k (C1 _) (C1 _)]
 | n+1,k,h1,h2=>by
  rw [vT,vT,h1 k (C1 _) (by omega),h2 k (C1 _) (by omega),vT_ext n (k+1) (fun j h3 h4=>h1 j (by omega) (by omega)) fun j h3 h4=>h2 j (by omega) (by omega)]
theorem vT_free {t:Ac} {N:Int→Ac} {C:Int→Bool}:∀ (m k n:Nat),(∀ j:Nat,k≤j→j < k+m→N j=[]∧C j=false)→vT t N C k (m+n)=(t.drop k).take m++vT t N C (k+m) n
 | 0,k,n,_=>by simp
 | m+1,k,n,h=>by
  obtain ⟨h1,h2⟩:=h k (C1 _) (by omega)
  have ih:=vT_free (t:=t) (N:=N) (C:=C) m (k+1) n fun j h3 h4=>h j (by omega) (by omega)
  rw [show m+1+n=(m+n)+1 by omega,vT,h1,h2,Ae Ah,Bo,ih,← Az,show k+1+m=k+(m+1) by omega]
  congr 1;rw [show m+1=1+m by omega,Ua,G5]
theorem vT_gone {t:Ac} {N:Int→Ac} {C:Int→Bool}:∀ (m k n:Nat),(∀ j:Nat,k≤j→j < k+m→C j=true)→(∀ j:Nat,k < j→j < k+m→N j=[])→0 < m→vT t N C k (m+n)=N k++vT t N C (k+m) n
 | 1,k,n,h,_,_=>by
  rw [show 1+n=n+1 by omega,vT,h k (C1 _) (by omega),Af rfl,Bo]
 | m+2,k,n,h,h2,_=>by
  have ih:=vT_gone (t:=t) (N:=N) (C:=C) (m+1) (k+1) n (fun j h3 h4=>h j (by omega) (by omega)) (fun j h3 h4=>h2 j (by omega) (by omega)) (by omega)
  rw [show m+2+n=(m+1+n)+1 by omega,vT,h k (C1 _) (by omega),Af rfl,Bo,ih,h2 (k+1) (by omega) (by omega),Bo,show k+1+(m+1)=k+(m+2) by omega]
theorem nwL_nil {P:Bc} {k:Int} (h:∀ x∈P,x.At≠k):nwL P k=[]:=by
 unfold nwL;rw [List.filter_eq_nil_iff.2 fun x hx=>by simpa using h x hx];rfl
theorem cvB_no {P:Bc} {k:Int} (h:∀ x∈P,k < x.At∨x.At+x.Old.length≤k):cvB P k=false:=by
 rw [Bool.eq_false_iff];intro e;obtain ⟨x,hx,h1,h2⟩:=cvB_iff.1 e;have:=h x hx;omega
theorem vT_raw {t:Ac}:∀ (hs:Bc) (e:Int) (k n:Nat),Chn e hs→(∀ h∈hs,(k:Int)≤h.At)→(∀ h∈hs,h.At+h.Old.length≤((k+n:Nat):Int))→vT t (nwL hs) (cvB hs) k n=Yd t hs k (k+n)
 | [],e,k,n,_,_,_=>by
  have:=vT_free (t:=t) (N:=nwL []) (C:=cvB []) n k 0 fun j _ _=>⟨rfl,rfl⟩;rw [Eu] at this;rw [this,Yd,vT,show k+n - k=n by omega]
  show _++[]=_;rw [Bx]
 | h::hs,e,k,n,hc,h0,h1=>by
  obtain ⟨c1,c2⟩:=hc;have a0:=h0 h C6;have a1:=h1 h C6;have hlt:=chn_lt c2 fun x hx=>by have:=h0 x (B2 _ hx);omega
  obtain ⟨a,ha⟩:∃ a:Nat,h.At=(a:Int):=⟨h.At.toNat,by omega⟩
  rw [ha] at a0 a1 hlt;have hfar:∀ x∈hs,(a:Int)+h.Old.length < x.At:=fun x hx=>hlt x hx;obtain ⟨m,rfl⟩:∃ m,a=k+m:=⟨a - k,by omega⟩
  obtain ⟨n2,rfl⟩:∃ n2,n=m+(h.Old.length+n2):=⟨n - m - h.Old.length,by omega⟩
  rw [vT_free m k _ fun j h3 h4=>⟨nwL_nil fun x hx=>by
   rcases Cd.1 hx with rfl | hx
   ·omega
   ·have:=hfar x hx;omega,cvB_no fun x hx=>by
   rcases Cd.1 hx with rfl | hx
   ·omega
   ·have:=hfar x hx;omega⟩,Yd,show h.At.toNat=k+m by omega,show k+m - k=m by omega]
  congr 1
  have hN:nwL (h::hs) ((k+m:Nat):Int)=h.New:=by
   unfold nwL;rw [N2,Af (by simpa using ha),Ow,List.filter_eq_nil_iff.2 fun x hx=>by have:=hfar x hx;simp;omega]
   simp
  have hrest:vT t (nwL (h::hs)) (cvB (h::hs)) (k+m) (h.Old.length+n2)=h.New++vT t (nwL hs) (cvB hs) (k+m+h.Old.length) n2:=by
   have hC:∀ j:Nat,k+m+h.Old.length≤j→cvB (h::hs) (j:Int)=cvB hs j:=by
    intro j hj;unfold cvB;rw [Lj]
    have:cvH (j:Int) h=false:=by
     unfold cvH;rw [Bool.and_eq_false_iff];simp only [E1];omega
    rw [this,K1]
   have hNw:∀ j:Nat,k+m < j→nwL (h::hs) (j:Int)=nwL hs j:=by
    intro j hj;unfold nwL;rw [N2,Ae (by simp;omega)]
   by_cases hz:h.Old.length=0
   ·rw [hz,Ho,Eu];cases n2 with
    | zero =>
     rw [vT,vT,hN,nwL_nil fun x hx=>by have:=hfar x hx;omega];simp
    | succ n2 =>
     rw [vT,vT,hN,nwL_nil (P:=hs) fun x hx=>by have:=hfar x hx;omega,Bo,hC _ (by omega),vT_ext n2 (k+m+1) (fun j h3 _=>hNw j (by omega)) fun j h3 _=>hC j (by omega)]
   ·rw [vT_gone h.Old.length (k+m) n2 (fun j h3 h4=>cvB_iff.2 ⟨h,C6,by omega,by omega⟩) (fun j h3 h4=>by
     rw [hNw j (by omega)]
     exact nwL_nil fun x hx=>by have:=hfar x hx;omega) (by omega),hN,vT_ext n2 _ (fun j h3 _=>hNw j (by omega)) fun j h3 _=>hC j (by omega)]
  rw [hrest,vT_raw hs _ _ n2 c2 (fun x hx=>by have:=hfar x hx;omega) (fun x hx=>by have:=h1 x (B2 _ hx);omega)]
  congr 2;omega
theorem nwL_len {t:Ac} {P:Bc} (hP:Side t P) (k:Int):∀ i,(nwL (P.take i) k).length≤130 * 120:=by
 intro i
 have h1:∀ l:Bc,(∀ h∈l,h.New.length≤120)→(nwL l k).length≤l.length * 120:=by
  intro l
  induction l with
  | nil=>intro _;simp [nwL]
  | cons x l ih =>
   intro h;have:=ih fun y hy=>h y (B2 _ hy);have:=h x C6;unfold nwL at *;rw [N2,Ew];split
   ·rw [Ow,Av];omega
   ·omega
 have h2:=h1 (P.take i) fun x hx=>(hP.ins x (Hb hx)).2.2.1;have h3:=hP.len;have:(P.take i).length≤P.length:=by rw [B9];omega
 have:(P.take i).length * 120≤130 * 120:=A3 _ (by omega)
 omega
theorem var_l3 {t:Ac} {P:Bc} (hP:Side t P) (k:Int) (a:Bool) (o:Ac) (ho:o.length≤10000000) :
  Eo (fun s=>A1.l3 ⟨P⟩ k s.1 s.2.1 s.2.2) (0,a,o)=some (a || nwB P k,o++nwL P k):=by
 have hl:=hP.len
 obtain ⟨r,e,rfl⟩:=Oa (f:=fun s=>A1.l3 ⟨P⟩ k s.1 s.2.1 s.2.2) P.length (fun i s=>s=(a || nwB (P.take i) k,o++nwL (P.take i) k)) (fun r=>r=(a || nwB P k,o++nwL P k)) (by
  rintro i s hi rfl;have h0:=nwL_len hP k i;have h1:=(hP.ins _ (Bn hi)).2.2.1;refine ⟨_,?_,rfl⟩
  have eN:nwL (P.take (i+1)) k=nwL (P.take i) k++if P[i].At=k then P[i].New else []:=by
   unfold nwL;rw [Bg hi,M5,List.flatMap_append];by_cases h:P[i].At=k <;> simp [h]
  have eB:nwB (P.take (i+1)) k=(nwB (P.take i) k || decide (P[i].At=k)):=by
   unfold nwB;rw [Bg hi,Hy];simp
  unfold A1.l3;simp only;rw [A5,Af (by omega),Ch hi,Aa,A5,eN,eB]
  have hj:∀ (b:Bool) w,A1.j6 (i:Int) b w=some (.next (((i+1:Nat):Int),b,w)):=by
   intro b w;unfold A1.j6;rw [Df (by omega) (by omega),Aa];rfl
  by_cases h:P[i].At=k
  ·rw [Af h,Af h,Aa,Gm (by rw [Av];omega),Aa,hj,As h,Ux,Ux,Az]
  ·rw [Ae h,Ae h,hj,Ao h,N8,Bx]) (by
  rintro s rfl;unfold A1.l3;simp only;rw [A5,Ae (by omega),De]
  exact ⟨_,rfl,rfl⟩) (a,o) (by simp [nwB,nwL])
 exact e
theorem var_l2 {t:Ac} (ht:t.length≤120) {P:Bc} (hP:Side t P) (k:Int):Eo (fun s=>A1.l2 ⟨P⟩ k s.1 s.2) (0,false)=some (cvB P k):=by
 have hl:=hP.len
 obtain ⟨r,e,rfl⟩:=Oa (f:=fun s=>A1.l2 ⟨P⟩ k s.1 s.2) P.length (fun i s=>s=cvB (P.take i) k) (fun r=>r=cvB P k) (by
  rintro i s hi rfl;obtain ⟨h1,h2,_⟩:=hP.ins _ (Bn hi);refine ⟨_,?_,rfl⟩
  have eB:cvB (P.take (i+1)) k=(cvB (P.take i) k || cvH k P[i]):=by
   unfold cvB;rw [Bg hi,Hy];simp
  have hc:(if decide (P[i].At≤k)=true then (some P[i]).bind fun y=>(G4 y).bind fun z=>some (decide (k < z)) else some false)=some (cvH k P[i]):=by
   rw [Aa,rend_f _ (by omega) (by omega) (by omega),Aa]
   unfold cvH;by_cases h:P[i].At≤k <;> simp [h]
  have hj:∀ (b:Bool),A1.j5 (i:Int) b=some (.next (((i+1:Nat):Int),b)):=by
   intro b;unfold A1.j5;rw [Df (by omega) (by omega),Aa];rfl
  unfold A1.l2;simp only;rw [A5,Af (by omega),Ch hi,Aa,hc,Aa,eB,hj,hj]
  cases cvH k P[i]
  ·rw [Ae Ah,N8]
  ·rw [Af rfl,Ux]) (by
  rintro s rfl;unfold A1.l2;simp only;rw [A5,Ae (by omega),De]
  exact ⟨_,rfl,rfl⟩) false rfl
 exact e
theorem variant_f {t:Ac} (ht:t.length≤120) {P:Bc} (hP:Side t P) {lo hi:Nat} (hlh:lo≤hi) (hh:hi≤t.length) :
  ∃ b,A1 t ⟨P⟩ (lo:Int) (hi:Int)=some (vT t (nwL P) (cvB P) lo (hi - lo),b)∧(b=true↔∃ h∈P,(lo:Int)≤h.At∧h.At≤hi):=by
 obtain ⟨r,e,hr1,hr2⟩:=inv_loopE (f:=fun s=>A1.l1 t ⟨P⟩ (hi:Int) s.1 s.2.1 s.2.2) lo (hi+1) (by omega)
  (fun k s=>(k≤hi→s.2++vT t (nwL P) (cvB P) k (hi - k)=vT t (nwL P) (cvB P) lo (hi - lo))∧(k=hi+1→s.2=vT t (nwL P) (cvB P) lo (hi - lo))∧(s.1=true↔∃ h∈P,(lo:Int)≤h.At∧h.At < (k:Int))∧s.2.length≤k * 20000)
  (fun r=>r.2=vT t (nwL P) (cvB P) lo (hi - lo)∧(r.1=true↔∃ h∈P,(lo:Int)≤h.At∧h.At≤hi)) (by
  rintro k ⟨a,o⟩ hk1 hk2 ⟨i1,_,i3,i4⟩;simp only at i1 i3 i4;have i1:=i1 (by omega)
  have hnl:=nwL_len hP (k:Int) P.length;rw [De] at hnl;have hk9:k * 20000≤120 * 20000:=A3 _ (by omega)
  left
  have hj:∀ (b:Bool) w,A1.j2 (k:Int) w b=some (.next (((k+1:Nat):Int),b,w)):=by
   intro b w;unfold A1.j2;rw [Df (by omega) (by omega),Aa];rfl
  have hb:(a || nwB P (k:Int))=true↔∃ h∈P,(lo:Int)≤h.At∧h.At < ((k+1:Nat):Int):=by
   rw [Gt,i3];unfold nwB;rw [Kz];simp only [Cg];constructor
   ·rintro (⟨h,h1,h2,h3⟩ | ⟨h,h1,h2⟩)
    ·exact ⟨h,h1,h2,by omega⟩
    ·exact ⟨h,h1,by omega,by omega⟩
   ·rintro ⟨h,h1,h2,h3⟩;by_cases h4:h.At=(k:Int)
    ·exact .inr ⟨h,h1,h4⟩
    ·exact .inl ⟨h,h1,h2,by omega⟩
  have e0:A1.l1 t ⟨P⟩ (hi:Int) (k:Int) a o=if k < hi∧cvB P (k:Int)=false then some (.next (((k+1:Nat):Int),a || nwB P k,o++nwL P k++(t.drop k).take 1)) else some (.next (((k+1:Nat):Int),a || nwB P k,o++nwL P k)):=by
   unfold A1.l1;rw [A5,Af (by omega),var_l3 hP _ _ _ (by omega),Aa]
   simp only;unfold A1.j3;rw [var_l2 ht hP,Aa];unfold A1.j4;by_cases h1:k < hi
   ·rw [A5,Af (by omega),Aa]
    cases cvB P (k:Int)
    ·rw [Af (show (!false)=true from rfl),Af ⟨h1,rfl⟩,Ch (by omega),Aa,Gm (by rw [Av,Ax];omega),Aa,hj]
     rw [Eb (by omega),List.take_succ_cons,Hw]
    ·rw [Ae (show ¬ (!true)=true by decide),Ae (fun h=>Bool.noConfusion h.2),hj]
   ·rw [A5,Ae (by omega),Aa,Ae Ah,Ae (fun h=>h1 h.1),hj]
  simp only;rw [e0];by_cases h1:k < hi
  ·obtain ⟨d,hd⟩:∃ d,hi - k=d+1:=⟨hi - k - 1,by omega⟩
   rw [hd,vT] at i1;cases hc:cvB P (k:Int)
   ·rw [Af ⟨h1,rfl⟩];rw [hc,Ae Ah] at i1;refine ⟨_,rfl,fun _=>?_,fun h=>by omega,hb,?_⟩
    ·simp only;rw [show hi - (k+1)=d by omega,← i1]
     simp only [Az]
    ·simp only [Av,B9,Dg];omega
   ·rw [Ae (fun h=>Bool.noConfusion h.2)];rw [hc,Af rfl,Bo] at i1;refine ⟨_,rfl,fun _=>?_,fun h=>by omega,hb,?_⟩
    ·simp only;rw [show hi - (k+1)=d by omega,← i1]
     simp only [Az]
    ·simp only [Av];omega
  ·have hkh:k=hi:=by omega
   subst hkh;rw [Ae (fun h=>h1 h.1)];rw [Mf,vT] at i1;refine ⟨_,rfl,fun h=>by omega,fun _=>?_,hb,?_⟩
   ·simp only;exact i1
   ·simp only [Av];omega) (by
  rintro ⟨a,o⟩ ⟨_,i2,i3,_⟩;refine ⟨(a,o),?_,i2 rfl,?_⟩
  ·unfold A1.l1;simp only;rw [A5,Ae (by omega)]
  ·simp only at i3 ⊢;rw [i3];exact ⟨fun ⟨h,h1,h2,h3⟩=>⟨h,h1,h2,by omega⟩,fun ⟨h,h1,h2,h3⟩=>⟨h,h1,h2,by omega⟩⟩) (false,[]) ⟨fun _=>by simp,fun h=>by omega,by
   simp only [Cl,false_iff];rintro ⟨h,_,h2,h3⟩;omega,by simp⟩
 obtain ⟨b,o⟩:=r;simp only at hr1 hr2;subst hr1;refine ⟨b,?_,hr2⟩;unfold A1;rw [e,Aa];rfl
def Cvd (all:List RX) (r:RX):Prop:=∀ k:Int,r.Low≤k→k≤r.High→∃ a∈all,a.Low≤k∧k≤a.High∧(k < r.High→k < a.High)
theorem Cvd.mono {all all':List RX} {r:RX} (h:Cvd all r) (hs:∀ a∈all,a∈all'):Cvd all' r:=fun k h1 h2=>by
 obtain ⟨a,ha,hx⟩:=h k h1 h2;exact ⟨a,hs a ha,hx⟩
theorem cvd_fold {all:List RX}:∀ (rest out:List RX),(∀ r∈out,Cvd all r)→(∀ r∈rest,r∈all)→∀ r∈rest.foldl Uq out,Cvd all r
 | [],out,h,_=>h
 | x::rest,out,h,ha=>by
  rw [Hx];refine cvd_fold rest _ ?_ fun r hr=>ha r (B2 _ hr);have hxa:=ha x C6;have hx:Cvd all x:=fun k h1 h2=>⟨x,hxa,h1,h2,fun h=>h⟩;rcases Li out with rfl | ⟨o,l,rfl⟩
  ·intro r hr;rw [show Uq [] x=[x] from rfl,Bi] at hr;subst hr;exact hx
  ·rw [Mb] at *;have hl:=h l (by simp)
   have est:Uq (o++[l]) x=if Yv l x=true then o++[⟨l.Low,max l.High x.High,l.Growth⟩] else o++[l]++[x]:=by
    unfold Uq;rw [show (o++[l]).getLast? = some l by simp]
    simp only [Mn]
   rw [est];by_cases ht:Yv l x=true
   ·rw [Af ht];unfold Yv at ht;simp only [Ec,Cg] at ht;intro r hr;rcases Bj.1 hr with hr | hr
    ·exact h r (Ej _ hr)
    ·rw [Bi] at hr;subst hr;intro k h1 h2;simp only at h1 h2;rcases Int.lt_or_le k l.High with h3 | h3
     ·obtain ⟨a,q1,q2,q3,q4⟩:=hl k h1 (by omega)
      exact ⟨a,q1,q2,q3,fun _=>q4 h3⟩
     ·rcases Int.lt_or_le x.High k with h4 | h4
      ·obtain ⟨a,q1,q2,q3,q4⟩:=hl k h1 (by omega)
       exact ⟨a,q1,q2,q3,fun h5=>by simp only at h5;omega⟩
      ·exact ⟨x,hxa,by omega,h4,fun h5=>by simp only at h5;omega⟩
   ·rw [Ae ht];intro r hr;rcases Bj.1 hr with hr | hr
    ·exact h r hr
    ·rw [Bi] at hr;subst hr;exact hx
theorem reg_cvd {t:Ac} {P Q:Bc}:∀ r∈Zb P Q,Cvd (P.map rx++Q.map rx) r:=by
 have hperm:=List.mergeSort_perm (P.map rx++Q.map rx) fun x y=>!ltM Hh y x;unfold Zb;exact cvd_fold _ [] (by simp) fun r hr=>hperm.mem_iff.1 hr
theorem both_iff {P Q:Bc} {p:RX→Prop}:(∃ a∈P.map rx++Q.map rx,p a)↔(∃ h∈P,p (rx h))∨∃ h∈Q,p (rx h):=by
 constructor
 ·rintro ⟨a,ha,hp⟩;rcases Bj.1 ha with ha | ha
  ·obtain ⟨h,hh,rfl⟩:=Hz.1 ha;exact .inl ⟨h,hh,hp⟩
  ·obtain ⟨h,hh,rfl⟩:=Hz.1 ha;exact .inr ⟨h,hh,hp⟩
 ·rintro (⟨h,hh,hp⟩ | ⟨h,hh,hp⟩)
  ·exact ⟨_,Ej _ (Lb hh),hp⟩
  ·exact ⟨_,E5 _ (Lb hh),hp⟩
structure Gaps (t:Ac) (P Q:Bc) (R:List RX):Prop where
 sep:R.Pairwise fun a b=>a.High < b.Low
 bd:∀ r∈R,0≤r.Low∧r.Low≤r.High∧r.High≤t.length
 mrk:∀ k:Int,(mkB P k || mkB Q k)=true↔∃ r∈R,r.Low≤k∧k≤r.High
 cv:∀ r∈R,∀ k:Int,r.Low≤k→k < r.High→(cvB P k || cvB Q k)=true
 en:∀ r∈R,(cvB P r.High || cvB Q r.High)=false
 inP:∀ r∈R,∀ h∈P,inB r h=true∨h.At+h.Old.length < r.Low∨r.High < h.At
 inQ:∀ r∈R,∀ h∈Q,inB r h=true∨h.At+h.Old.length < r.Low∨r.High < h.At
theorem sep_two {R:List RX} (h:R.Pairwise fun a b=>a.High < b.Low) {a b:RX} (ha:a∈R) (hb:b∈R):a=b∨a.High < b.Low∨b.High < a.Low:=by
 obtain ⟨i,hi,rfl⟩:=Da ha;obtain ⟨j,hj,rfl⟩:=Da hb;rw [Ce] at h;rcases O0 i j with h1 | h1 | h1
 ·exact .inr (.inl (h i j hi hj h1))
 ·subst h1;exact .inl rfl
 ·exact .inr (.inr (h j i hj hi h1))
theorem gaps {t:Ac} (ht:t.length≤120) {P Q:Bc} (hP:Side t P) (hQ:Side t Q):Gaps t P Q (Zb P Q):=by
 have ok:=regF_ok ht hP hQ;obtain ⟨cP,cQ⟩:=reg_cov ht hP hQ;have hcv:=reg_cvd (t:=t) (P:=P) (Q:=Q)
 have hin:∀ {S:Bc},(∀ h∈S,∃ r∈Zb P Q,r.Low≤h.At∧h.At+h.Old.length≤r.High)→∀ r∈Zb P Q,∀ h∈S,inB r h=true∨h.At+h.Old.length < r.Low∨r.High < h.At:=by
  intro S hS r hr h hh;obtain ⟨q,hq,q1,q2⟩:=hS h hh;rcases sep_two ok.sep hr hq with rfl | h3 | h3
  ·left;unfold inB;rw [As q1,As q2];rfl
  ·right;right;omega
  ·right;left;omega
 refine ⟨ok.sep,ok.bd,fun k=>?_,fun r hr k h1 h2=>?_,fun r hr=>?_,hin cP,hin cQ⟩
 ·rw [Gt,mkB_iff,mkB_iff];constructor
  ·rintro (⟨h,hh,h1,h2⟩ | ⟨h,hh,h1,h2⟩)
   ·obtain ⟨r,hr,q1,q2⟩:=cP h hh;exact ⟨r,hr,by omega,by omega⟩
   ·obtain ⟨r,hr,q1,q2⟩:=cQ h hh;exact ⟨r,hr,by omega,by omega⟩
  ·rintro ⟨r,hr,h1,h2⟩;obtain ⟨a,ha,q1,q2,_⟩:=hcv r hr k h1 h2;rcases (both_iff (p:=fun a=>a.Low≤k∧k≤a.High)).1 ⟨a,ha,q1,q2⟩ with ⟨h,hh,h3⟩ | ⟨h,hh,h3⟩
   ·exact .inl ⟨h,hh,h3⟩
   ·exact .inr ⟨h,hh,h3⟩
 ·obtain ⟨a,ha,q1,q2,q3⟩:=hcv r hr k h1 (by omega)
  rw [Gt,cvB_iff,cvB_iff];rcases (both_iff (p:=fun a=>a.Low≤k∧k < a.High)).1 ⟨a,ha,q1,q3 h2⟩ with ⟨h,hh,h3⟩ | ⟨h,hh,h3⟩
  ·exact .inl ⟨h,hh,h3⟩
  ·exact .inr ⟨h,hh,h3⟩
 ·have hno:∀ {S:Bc},(∀ r∈Zb P Q,∀ h∈S,inB r h=true∨h.At+h.Old.length < r.Low∨r.High < h.At)→cvB S r.High=false:=by
   intro S hS;refine cvB_no fun x hx=>?_;have hb:=ok.bd r hr;rcases hS r hr x hx with h | h | h
   ·unfold inB at h;simp only [Ec,Cg] at h;exact .inr h.2
   ·right;omega
   ·left;exact h
  rw [hno (hin cP),hno (hin cQ)];rfl
theorem var_reg {t:Ac} (ht:t.length≤120) {P:Bc} (hP:Side t P) {r:RX} (hb:0≤r.Low∧r.Low≤r.High∧r.High≤t.length) (hi:∀ h∈P,inB r h=true∨h.At+h.Old.length < r.Low∨r.High < h.At) :
  A1 t ⟨P⟩ r.Low r.High=some (AA t P r,!decide (wi P r=[])):=by
 obtain ⟨lo,hlo⟩:∃ n:Nat,r.Low=(n:Int):=⟨r.Low.toNat,by omega⟩
 obtain ⟨hi',hhi⟩:∃ n:Nat,r.High=(n:Int):=⟨r.High.toNat,by omega⟩
 obtain ⟨b,e,hbb⟩:=variant_f ht hP (lo:=lo) (hi:=hi') (by omega) (by omega)
 rw [hlo,hhi,e]
 have hin:∀ h:Hunk,inB r h=true↔(lo:Int)≤h.At∧h.At+h.Old.length≤(hi':Int):=by
  intro h;unfold inB;simp only [Ec,Cg,hlo,hhi]
 have hmem:∀ h∈P,(lo:Int)≤h.At→h.At≤(hi':Int)→inB r h=true:=by
  intro h hh h1 h2;rcases hi h hh with h3 | h3 | h3
  ·exact h3
  ·omega
  ·omega
 have hbe:b = !decide (wi P r=[]):=by
  rw [Lu,hbb];simp only [Bool.not_eq_true',E1];constructor
  ·rintro ⟨h,hh,h1,h2⟩ hw;have:h∈wi P r:=G2.2 ⟨hh,hmem h hh h1 h2⟩;rw [hw] at this;cases this
  ·intro hw;cases hwc:wi P r with
   | nil=>exact absurd hwc hw
   | cons h l =>
    have:h∈wi P r:=by rw [hwc];exact C6
    obtain ⟨h1,h2⟩:=G2.1 this;have:=(hin h).1 h2;exact ⟨h,h1,this.1,by omega⟩
 have hvt:vT t (nwL P) (cvB P) lo (hi' - lo)=vT t (nwL (wi P r)) (cvB (wi P r)) lo (hi' - lo):=by
  refine vT_ext _ _ (fun j h1 h2=>?_) fun j h1 h2=>?_
  ·unfold nwL wi;rw [List.filter_filter];congr 1;refine List.filter_congr fun h hh=>?_;by_cases h3:h.At=(j:Int)
   ·rw [As h3,hmem h hh (by omega) (by omega)];rfl
   ·rw [Ao h3];rfl
  ·rw [Lu,cvB_iff,cvB_iff];constructor
   ·rintro ⟨h,hh,h3,h4⟩;refine ⟨h,G2.2 ⟨hh,?_⟩,h3,h4⟩;rcases hi h hh with h5 | h5 | h5
    ·exact h5
    ·omega
    ·omega
   ·rintro ⟨h,hh,h3,h4⟩;exact ⟨h,(G2.1 hh).1,h3,h4⟩
 have hraw:=vT_raw (t:=t) (wi P r) (-1) lo (hi' - lo) (chn_filter hP.chn) (fun h hh=>((hin h).1 (G2.1 hh).2).1) (fun h hh=>by have:=((hin h).1 (G2.1 hh).2).2;omega)
 rw [hvt,hraw,hbe];unfold AA;rw [show r.Low.toNat=lo by omega,show r.High.toNat=hi' by omega,show lo+(hi' - lo)=hi' by omega]
theorem rm_high {t:Ac} (ht:t.length≤120) {P Q:Bc} (hP:Side t P) (hQ:Side t Q) {hi:Nat} (hh:hi≤t.length) (hen:(cvB P (hi:Int) || cvB Q (hi:Int))=false):∀ (n k:Nat),k+n=hi→(∀ j:Nat,k≤j→j < hi→(cvB P (j:Int) || cvB Q (j:Int))=true) →
  Eo (fun s=>A0.l2 t ⟨P⟩ ⟨Q⟩ s) (k:Int)=some (hi:Int):=by
 intro n
 induction n with
 | zero =>
  intro k hk _;have hk:k=hi:=by omega
  subst hk;refine B5 ?_;unfold A0.l2;by_cases h:k < t.length
  ·rw [A5,Af (by omega),covers_f ht hP hQ,Aa,hen,Aa,Ae Ah]
  ·rw [A5,Ae (by omega),Aa,Ae Ah]
 | succ n ih =>
  intro k hk h
  have e:A0.l2 t ⟨P⟩ ⟨Q⟩ (k:Int)=some (.next ((k+1:Nat):Int)):=by
   unfold A0.l2;rw [A5,Af (by omega),covers_f ht hP hQ,Aa,h k (C1 _) (by omega),Aa,Af rfl,Df (by omega) (by omega),Aa];rfl
  rw [C0 e];exact ih (k+1) (by omega) fun j h1 h2=>h j (by omega) h2
def RmP (x:Ac) (out:B0) (y:Option Ac) (r:Ac×B0):Prop :=
 if T7 out=true then T7 r.2=true else match y with
 | some y=>r.2=[]∧r.1=x++y
 | Option.none=>T7 r.2=true
theorem rm_loop {t:Ac} (ht:t.length≤120) {P Q:Bc} (hP:Side t P) (hQ:Side t Q) {R:List RX} (hg:Gaps t P Q R) {z:List Int} (hz:Mks t.length z fun k=>mkB P k || mkB Q k) :
  ∀ (n k at_:Nat) (Rs pre:List RX) (x calm:Ac) (out:B0),t.length+1 - k≤n→R=pre++Rs→(∀ r∈pre,r.High < (k:Int))→(∀ r∈Rs,(k:Int)≤r.Low)→at_≤k→at_≤t.length→k≤t.length+1 →
   (T7 out=false→out=[]∧calm=x++(t.drop at_).take (k - at_))→calm.length≤k * 90000→Csm (2 * k) (k * 90000) out →
   ∃ r,Eo (fun s=>A0.l1 t ⟨P⟩ ⟨Q⟩ z s.1 s.2.1 s.2.2) ((k:Int),calm,out)=some r∧RmP x out (cmT t P Q Rs at_) r∧r.1.length≤20000000∧Csm 300 20000000 r.2:=by
 intro n
 induction n with
 | zero =>
  intro k at_ Rs pre x calm out hn hR hpre hRs hak hat hk hcal hcl hcs;have hk1:k=t.length+1:=by omega
  have:Rs=[]:=by
   cases Rs with
   | nil=>rfl
   | cons r Rs =>
    have h1:=hg.bd r (by rw [hR];simp)
    have h2:=hRs r C6;omega
  subst this;have h9:k * 90000≤121 * 90000:=A3 _ (by omega)
  refine ⟨(calm,out),B5 ?_,?_,by simp only;omega,Csm.le hcs (by omega) (by omega)⟩
  ·unfold A0.l1;simp only;rw [A5,Ae (by omega)]
  ·unfold RmP;cases hc:T7 out
   ·rw [Ae Ah,cmT];obtain ⟨h1,h2⟩:=hcal hc;refine ⟨h1,?_⟩;simp only;rw [h2,D0 (by simp;omega)]
   ·rw [Af rfl]
 | succ n ih =>
  intro k at_ Rs pre x calm out hn hR hpre hRs hak hat hk hcal hcl hcs;by_cases hkt:k=t.length+1
  ·have:Rs=[]:=by
    cases Rs with
    | nil=>rfl
    | cons r Rs =>
     have h1:=hg.bd r (by rw [hR];simp)
     have h2:=hRs r C6;omega
   subst this;have h9:k * 90000≤121 * 90000:=A3 _ (by omega)
   refine ⟨(calm,out),B5 ?_,?_,by simp only;omega,Csm.le hcs (by omega) (by omega)⟩
   ·unfold A0.l1;simp only;rw [A5,Ae (by omega)]
   ·unfold RmP;cases hc:T7 out
    ·rw [Ae Ah,cmT];obtain ⟨h1,h2⟩:=hcal hc;refine ⟨h1,?_⟩;simp only;rw [h2,D0 (by simp;omega)]
    ·rw [Af rfl]
  have hkl:k≤t.length:=by omega
  have h9:k * 90000≤120 * 90000:=A3 _ (by omega)
  have hzk:=hz.at_ k (by rw [hz.len];omega)
  have hcs1:=hcs.len
  have h3:∀ (m:Nat) (w:Ac) (o:B0),m≤130→A0.j3 w (m:Int) o=some (.next (((m+1:Nat):Int),w,o)):=by
   intro m w o hm;unfold A0.j3;rw [Df (by omega) (by omega),Aa];rfl
  by_cases hmk:(mkB P (k:Int) || mkB Q (k:Int))=true
  ·rw [Af hmk] at hzk;obtain ⟨r0,hr0,g1,g2⟩:=(hg.mrk k).1 hmk
   have hr0s:r0∈Rs:=by
    rw [hR] at hr0;rcases Bj.1 hr0 with h | h
    ·have:=hpre r0 h;omega
    ·exact h
   obtain ⟨r,rest,rfl⟩:∃ r rest,Rs=r::rest:=by
    cases Rs with
    | nil=>cases hr0s
    | cons r rest=>exact ⟨r,rest,rfl⟩
   have hsep:=hg.sep;rw [hR,G8,Em] at hsep
   have hrk:r.Low=(k:Int):=by
    have h1:=hRs r C6;rcases Cd.1 hr0s with rfl | h
    ·omega
    ·have:=hsep.2.1.1 r0 h;have h2:=hg.bd r (by rw [hR];simp)
     omega
   have hrR:r∈R:=by rw [hR];simp
   have hb:=hg.bd r hrR;obtain ⟨hi,hhi⟩:∃ n:Nat,r.High=(n:Int):=⟨r.High.toNat,by omega⟩
   have hkh:k≤hi:=by omega
   have hht:hi≤t.length:=by omega
   have e2:=rm_high ht hP hQ (hi:=hi) hht (by have:=hg.en r hrR;rw [hhi] at this;exact this) (hi - k) k (by omega) fun j h1 h2=>hg.cv r hrR j (by omega) (by omega)
   have vP:=var_reg ht hP hb (hg.inP r hrR);have vQ:=var_reg ht hQ hb (hg.inQ r hrR);rw [hrk,hhi] at vP vQ;have lA:=AA_len ht hP r;have lB:=AA_len ht hQ r
   have hj6:∀ (w:Ac) (o:B0),w.length≤20000000→A0.j6 t (hi:Int) w o=some (.next (((hi+1:Nat):Int),w++(t.drop hi).take 1,o)):=by
    intro w o hw;unfold A0.j6;by_cases h:hi < t.length
    ·rw [A5,Af (by omega),Ch h,Aa,Gm (by rw [Ax];omega),Aa,h3 _ _ _ (by omega),Eb h,List.take_succ_cons,Hw]
    ·rw [A5,Ae (by omega),h3 _ _ _ (by omega),L4 (by omega),List.take_nil,Bx]
   have hbase:((t.take hi).drop k).length≤120:=by simp;omega
   have e1:A0.l1 t ⟨P⟩ ⟨Q⟩ z (k:Int) calm out=if wi Q r=[]∨AA t P r=AA t Q r then some (.next (((hi+1:Nat):Int),calm++AA t P r++(t.drop hi).take 1,out))
     else if wi P r=[] then some (.next (((hi+1:Nat):Int),calm++AA t Q r++(t.drop hi).take 1,out))
     else some (.next (((hi+1:Nat):Int),[]++(t.drop hi).take 1,(if calm=[] then out else out++[Qd calm])++[⟨true,[],(t.take hi).drop k,AA t P r,AA t Q r⟩])):=by
    unfold A0.l1;rw [A5,Af (by omega),Ch (by rw [hz.len];omega),Aa,hzk,A5,Ae (by omega),e2,Aa]
    unfold A0.j5;rw [vP,Aa,vQ,Aa];simp only;rw [requal_f _ _ (by omega),Aa]
    have ec:(if (!!decide (wi Q r=[]))=true then some true else some (decide (AA t P r=AA t Q r)))=some (decide (wi Q r=[]∨AA t P r=AA t Q r)):=by
     by_cases h:wi Q r=[] <;> simp [h]
    rw [ec,Aa,A5];by_cases c1:wi Q r=[]∨AA t P r=AA t Q r
    ·rw [Af c1,Af c1,Gm (by omega),Aa,hj6 _ _ (by rw [Av];omega)]
    ·rw [Ae c1,Ae c1,Bool.not_not,A5];by_cases c2:wi P r=[]
     ·rw [Af c2,Af c2,Gm (by omega),Aa,hj6 _ _ (by rw [Av];omega)]
     ·rw [Ae c2,Ae c2,A5]
      have hj7:∀ (w:Ac) (o:B0),w.length≤20000000→o.length≤1000→A0.j7 t (k:Int) (hi:Int) (AA t P r,!decide (wi P r=[])) (AA t Q r,!decide (wi Q r=[])) w o=some (.next (((hi+1:Nat):Int),w++(t.drop hi).take 1,o++[⟨true,[],(t.take hi).drop k,AA t P r,AA t Q r⟩])):=by
       intro w o hw ho;unfold A0.j7;rw [Uj (by omega) (by omega) (by omega),Aa,Bh,Bh,Gm (by rw [Ax];omega),Aa,hj6 _ _ hw]
      by_cases c3:calm=[]
      ·subst c3;rw [Ae (by simp),Af rfl,hj7 _ _ (by simp) (by omega)]
      ·have:0 < calm.length:=L1.2 c3;rw [Af (by omega),Ae c3,Gm (by rw [Ax];omega),Aa,hj7 _ _ (by simp) (by rw [Av,Ax];omega)]
       rfl
   have hR':R=(pre++[r])++rest:=by rw [hR];simp
   have hpre':∀ q∈pre++[r],q.High < ((hi+1:Nat):Int):=by
    intro q hq;rcases Bj.1 hq with h | h
    ·have:=hpre q h;omega
    ·rw [Bi] at h;subst h;omega
   have hRs':∀ q∈rest,((hi+1:Nat):Int)≤q.Low:=fun q hq=>by
    have:=hsep.2.1.1 q hq;omega
   have hHi:r.High.toNat=hi:=by omega
   have hLo:r.Low.toNat=k:=by omega
   have htk:((t.drop hi).take 1).length≤1:=by rw [B9];omega
   have hkh9:k * 90000≤hi * 90000:=A3 _ hkh
   have next:∀ (x' calm':Ac) (out':B0) (Y:Option Ac),A0.l1 t ⟨P⟩ ⟨Q⟩ z (k:Int) calm out=some (.next (((hi+1:Nat):Int),calm',out')) →
     (T7 out'=false→out'=[]∧calm'=x'++(t.drop hi).take (hi+1 - hi))→calm'.length≤(hi+1) * 90000→Csm (2 * (hi+1)) ((hi+1) * 90000) out' →
     (∀ r,RmP x' out' (cmT t P Q rest hi) r→RmP x out Y r)→∃ r,Eo (fun s=>A0.l1 t ⟨P⟩ ⟨Q⟩ z s.1 s.2.1 s.2.2) ((k:Int),calm,out)=some r∧RmP x out Y r∧r.1.length≤20000000∧Csm 300 20000000 r.2:=by
    intro x' calm' out' Y h1 h2 h4 h5 h6;obtain ⟨q,q1,q2,q3,q4⟩:=ih (hi+1) hi rest (pre++[r]) x' calm' out' (by omega) hR' hpre' hRs' (by omega) hht (by omega) h2 h4 h5
    exact ⟨q,by rw [C0 (m:=fun s:Int×Ac×B0=>A0.l1 t ⟨P⟩ ⟨Q⟩ z s.1 s.2.1 s.2.2) h1];exact q1,h6 q q2,q3,q4⟩
   have hk90:k * 90000≤(hi+1) * 90000:=A3 _ (by omega)
   have hcsm':Csm (2 * (hi+1)) ((hi+1) * 90000) out:=Csm.le hcs (by omega) hk90
   rw [cmT,hHi,hLo];by_cases c1:wi Q r=[]∨AA t P r=AA t Q r
   ·rw [Af c1] at e1 ⊢;refine next (x++(t.drop at_).take (k - at_)++AA t P r) _ _ _ e1 (fun h=>?_) ?_ hcsm' ?_
    ·obtain ⟨h1,h2⟩:=hcal h;exact ⟨h1,by rw [h2,show hi+1 - hi=1 by omega]⟩
    ·simp only [Av];omega
    ·intro q hq;unfold RmP at hq ⊢;split
     ·rename_i hc;rw [Af hc] at hq;exact hq
     ·rename_i hc;rw [Ae hc] at hq
      cases hy:cmT t P Q rest hi with
      | none=>rw [hy] at hq;exact hq
      | some y=>rw [hy] at hq;simp only [Og] at hq ⊢;exact ⟨hq.1,by rw [hq.2];simp⟩
   ·rw [Ae c1] at e1 ⊢;by_cases c2:wi P r=[]
    ·rw [Af c2] at e1 ⊢;refine next (x++(t.drop at_).take (k - at_)++AA t Q r) _ _ _ e1 (fun h=>?_) ?_ hcsm' ?_
     ·obtain ⟨h1,h2⟩:=hcal h;exact ⟨h1,by rw [h2,show hi+1 - hi=1 by omega]⟩
     ·simp only [Av];omega
     ·intro q hq;unfold RmP at hq ⊢;split
      ·rename_i hc;rw [Af hc] at hq;exact hq
      ·rename_i hc;rw [Ae hc] at hq
       cases hy:cmT t P Q rest hi with
       | none=>rw [hy] at hq;exact hq
       | some y=>rw [hy] at hq;simp only [Og] at hq ⊢;exact ⟨hq.1,by rw [hq.2];simp⟩
    ·rw [Ae c2] at e1 ⊢
     have hhc:T7 ((if calm=[] then out else out++[Qd calm])++[⟨true,[],(t.take hi).drop k,AA t P r,AA t Q r⟩])=true:=by
      unfold T7;rw [Hy];simp
     refine next [] _ _ _ e1 (fun h=>?_) ?_ ⟨?_,fun c hc=>?_,fun c hc=>?_⟩ ?_
     ·rw [hhc] at h;cases h
     ·simp only [Av,G1];omega
     ·rw [Av,Ax];split
      ·omega
      ·rw [Av,Ax];omega
     ·rcases Bj.1 hc with h | h
      ·split at h
       ·exact Cc (hcs.lin c h) hk90
       ·rcases Bj.1 h with h | h
        ·exact Cc (hcs.lin c h) hk90
        ·rw [Bi] at h;subst h;exact Cc hcl hk90
      ·rw [Bi] at h;subst h;simp
     ·rcases Bj.1 hc with h | h
      ·split at h
       ·exact hcs.oth c h
       ·rcases Bj.1 h with h | h
        ·exact hcs.oth c h
        ·rw [Bi] at h;subst h;simp [Qd]
      ·rw [Bi] at h;subst h;exact ⟨by simp only;omega,lA,lB⟩
     ·intro q hq;unfold RmP at hq ⊢;rw [Af hhc] at hq;split
      ·exact hq
      ·exact hq
  ·rw [Ae hmk] at hzk
   have e1:A0.l1 t ⟨P⟩ ⟨Q⟩ z (k:Int) calm out=some (.next (((k+1:Nat):Int),calm++(t.drop k).take 1,out)):=by
    unfold A0.l1;rw [A5,Af (by omega),Ch (by rw [hz.len];omega),Aa,hzk,A5,Af rfl,A5]
    unfold A0.j4;by_cases h:k < t.length
    ·rw [Af (by omega),Ch h,Aa,Gm (by rw [Ax];omega),Aa,h3 _ _ _ (by omega),Eb h,List.take_succ_cons,Hw]
    ·rw [Ae (by omega),h3 _ _ _ (by omega),L4 (by omega),List.take_nil,Bx]
   obtain ⟨q,q1,q2,q3,q4⟩:=ih (k+1) at_ Rs pre x (calm++(t.drop k).take 1) out (by omega) hR (fun r hr=>by have:=hpre r hr;omega) (fun r hr=>by
    have h1:=hRs r hr;have h2:¬ r.Low=(k:Int):=fun e=>hmk ((hg.mrk k).2 ⟨r,by rw [hR];exact E5 _ hr,by omega,by have:=hg.bd r (by rw [hR];exact E5 _ hr);omega⟩)
    omega) (by omega) hat (by omega) (fun h=>by
    obtain ⟨h1,h2⟩:=hcal h;refine ⟨h1,?_⟩;rw [h2,Az,show k+1 - at_=(k - at_)+1 by omega,Ua,G5,show at_+(k - at_)=k by omega]) (by rw [Av,B9];omega) (Csm.le hcs (by omega) (A3 _ (by omega)))
   exact ⟨q,by rw [C0 (m:=fun s:Int×Ac×B0=>A0.l1 t ⟨P⟩ ⟨Q⟩ z s.1 s.2.1 s.2.2) e1];exact q1,q2,q3,q4⟩
theorem RTwo_ok {a b:Ac} (ha:Ll a) (hb:Ll b):Hf a b=some ⟨0,0⟩:=by
 have h1:=(Lo a).1 ha;have h2:=(Lo b).1 hb;unfold Hf Hf.j1;rw [linesFault_f,Aa,N7,h1];simp only [Hk,Gi,Aa];rw [h2];rfl
theorem RMerge_f {b l r:Ac} (hb:Ll b) (hl:Ll l) (hr:Ll r):∃ o,A0 b l r=some (o,⟨0,0⟩)∧Csm 301 20000000 o ∧
  ((∃ y,cmT b (Lt b l) (Lt b r) (Zb (Lt b l) (Lt b r)) 0=some y∧o=nrm y∧∀ s∈y,V4 s)∨(cmT b (Lt b l) (Lt b r) (Zb (Lt b l) (Lt b r)) 0=Option.none∧T7 o=true)):=by
 have ht:=hb.1;have hP:=Vf hb hl;have hQ:=Vf hb hr;have tr:=(H4 r).1 ((Lo r).1 hr);have hg:=gaps ht hP hQ;obtain ⟨z,e1,hz⟩:=joined_f ht hP hQ;obtain ⟨⟨calm,out⟩,e2,h1,h2,h3⟩:=rm_loop ht hP hQ hg hz _ 0 0 (Zb (Lt b l) (Lt b r)) [] [] [] [] (C1 _) rfl (by simp) (fun r hr=>(hg.bd r hr).1) (C1 _) (D3 _) (by omega) (fun _=>by simp) (by simp) ⟨by simp,by simp,by simp⟩
 have hline:=fun y=>cmT_line (t:=b) hb.2 hP hQ (Zb (Lt b l) (Lt b r)) 0 y;unfold A0;rw [RTwo_ok hb hl,Aa];simp only [Hk,G9];rw [Ae Ah,N7,Aa,tr];simp only [Hk,G9];rw [Ae Ah,rscript_f (by have:=hb.1;omega) (by have:=hl.1;omega),Aa,rscript_f (by have:=hb.1;omega) (by have:=hr.1;omega),Aa,e1,Aa]
 rw [show ((0:Nat):Int)=0 from rfl] at e2;rw [e2,Aa];simp only at h2 h3;have hlen:=h3.len
 have hfin:A0.j1 calm out=some (if calm=[] then out else out++[Qd calm],⟨0,0⟩):=by
  unfold A0.j1 A0.j2;rw [A5];by_cases hc:calm=[]
  ·subst hc;rw [Ae (by simp),Af rfl]
  ·have:0 < calm.length:=L1.2 hc;rw [Af (by omega),Ae hc,Gm (by rw [Ax];omega),Aa];rfl
 rw [hfin];refine ⟨_,rfl,?_,?_⟩
 ·by_cases hc:calm=[]
  ·rw [Af hc];exact Csm.le h3 (by omega) (C1 _)
  ·rw [Ae hc];refine ⟨by rw [Av,Ax];omega,fun c hh=>?_,fun c hh=>?_⟩
   ·rcases Bj.1 hh with hh | hh
    ·exact h3.lin c hh
    ·rw [Bi] at hh;subst hh;exact h2
   ·rcases Bj.1 hh with hh | hh
    ·exact h3.oth c hh
    ·rw [Bi] at hh;subst hh;simp [Qd]
 ·unfold RmP at h1;rw [show T7 []=false from rfl,Ae Ah] at h1;cases hy:cmT b (Lt b l) (Lt b r) (Zb (Lt b l) (Lt b r)) 0 with
  | none =>
   rw [hy] at h1;simp only at h1;refine .inr ⟨rfl,?_⟩;split
   ·exact h1
   ·unfold T7 at *;rw [Hy,h1];rfl
  | some y =>
   rw [hy] at h1;simp only [Bo] at h1;obtain ⟨rfl,rfl⟩:=h1;exact .inl ⟨_,rfl,rfl,hline _ hy⟩
end Go.Dc
set_option linter.unusedSimpArgs false
set_option linter.unusedVariables false
set_option maxRecDepth 4000
namespace Go.Dc
open Go
def WSrt (l:Ai):Prop:=l.Pairwise fun a b=>sLt b.Path a.Path=false
theorem ordG_inner {L m:Ai} {k:Nat} (hk:k < L.length) (hm:WSrt m) (hl:m.length≤1000):∀ (j:Nat) (gb:File),j≤m.length→(∀ i (hi:i < m.length),j≤i→sLt L[k].Path m[i].Path=true) →
  ∃ p gb',p≤m.length∧Eo (fun s=>A9.l2 L (k:Int) s.1 s.2) ((j:Int),Ol m j gb)=some ((p:Int),Ol m p gb')∧(∀ i (hi:i < m.length),p≤i→sLt L[k].Path m[i].Path=true)∧∀ i (hi:i < m.length),i < p→sLt L[k].Path m[i].Path=false:=by
 intro j
 induction j with
 | zero =>
  intro gb hj h;refine ⟨0,gb,D3 _,B5 ?_,h,fun i _ h=>by omega⟩
  show A9.l2 L (k:Int) ((0:Nat):Int) (Ol m 0 gb)=_;unfold A9.l2;rw [Ao (by omega),Ae Ah,Aa,Ae Ah]
 | succ j ih =>
  intro gb hjl h;have hz:ckK .i64 (((j+1:Nat):Int) - 1)=some (j:Int):=by rw [Df (by omega) (by omega)];congr 1;omega
  cases hlt:sLt L[k].Path m[j].Path
  ·refine ⟨j+1,gb,hjl,B5 ?_,h,fun i hi h2=>?_⟩
   ·show A9.l2 L (k:Int) ((j+1:Nat):Int) (Ol m (j+1) gb)=_;unfold A9.l2;rw [As (by omega),Af rfl,Ch hk,Aa,hz,Aa,Ch (by rw [T3 hjl];omega),Aa,Y1 hjl (by omega),hlt,Aa,Ae Ah]
   ·rcases Ht (Nn h2) with h3 | h3
    ·exact sLt_not_trans hlt (Ce.1 hm i j hi (by omega) h3)
    ·subst h3;exact hlt
  ·have hstep:A9.l2 L (k:Int) ((j+1:Nat):Int) (Ol m (j+1) gb)=some (Step.next ((j:Int),Ol m j m[j])):=by
    unfold A9.l2
    rw [As (by omega),Af rfl,Ch hk,Aa,hz,Aa,Ch (by rw [T3 hjl];omega),Aa,Y1 hjl (by omega),hlt,Aa,Af rfl,Aa,
     Ch (by rw [T3 hjl];omega),Aa,Y1 hjl (by omega),Ch (by rw [T3 hjl];omega),Aa,Aa,Aa,Bh,hole_set hjl,hole_shift (by omega)]
   obtain ⟨p,gb',h1,h2,h3,h4⟩:=ih m[j] (by omega) fun i hi hji=>by
    rcases Ht hji with h5 | h5
    ·exact h i hi h5
    ·subst h5;exact hlt
   exact ⟨p,gb',h1,by rw [C0 (s':=((j:Int),Ol m j m[j])) hstep];exact h2,h3,h4⟩
theorem ordG_step {L m:Ai} {k:Nat} (hk:k < L.length) (hL:L.length≤1000) (hm:WSrt m) (hl:m.length≤1000) :
  ∃ w,A9.l1 L (k:Int) m=some (Step.next (((k+1:Nat):Int),w))∧WSrt w∧w.Perm (m++[L[k]]):=by
 have e0:m++[L[k]]=Ol m m.length L[k]:=by unfold Ol;simp
 obtain ⟨p,gb',hp,e,h1,h2⟩:=ordG_inner hk hm hl m.length L[k] (C1 _) fun i hi h=>by omega
 refine ⟨Ol m p L[k],?_,?_,?_⟩
 ·unfold A9.l1;rw [As (by omega),Af rfl,Ch hk,Aa,Gm (by simp;omega),Aa]
  rw [e0,e,Aa];unfold A9.j3 A9.j2;rw [Ch hk,Aa,Ch (by rw [T3 hp];omega),Aa,Aa,Bh,hole_set hp,Df (by omega) (by omega),Aa]
  rfl
 ·unfold WSrt Ol;rw [Az,G8,List.singleton_append,Em];refine ⟨hm.sublist (List.take_sublist _ _),⟨fun b hb=>?_,hm.sublist (List.drop_sublist _ _)⟩,fun a ha b hb=>?_⟩
  ·obtain ⟨i,hi,rfl⟩:=Da hb;rw [Dg] at hi;rw [Eg];exact Qk (h1 _ (by omega) (by omega))
  ·obtain ⟨i,hi,rfl⟩:=Da ha;rw [B9] at hi;rw [E7];rcases Cd.1 hb with rfl | hb
   ·exact h2 i (by omega) (by omega)
   ·obtain ⟨q,hq,rfl⟩:=Da hb;rw [Dg] at hq;rw [Eg];exact Ce.1 hm i (p+q) (by omega) (by omega) (by omega)
 ·unfold Ol
  have h3:(m.take p++[L[k]]++m.drop p).Perm (m.take p++(m.drop p++[L[k]])):=by
   rw [Az];exact He _ H2
  rw [← Az,Ki] at h3;exact h3
theorem Ordered_g {l:Ai} (hl:l.length≤900):∃ z,A9 l=some ⟨z⟩∧z.Perm l∧WSrt z:=by
 obtain ⟨z,e,h1,h2⟩:=Oa (f:=fun s=>A9.l1 l s.1 s.2) l.length (fun k m=>WSrt m∧m.Perm (l.take k)) (fun z=>z.Perm l∧WSrt z) (by
  rintro k m hk ⟨h1,h2⟩;have hlm:=h2.length_eq;rw [B9] at hlm;obtain ⟨w,e,w1,w2⟩:=ordG_step hk (by omega) h1 (by omega)
  refine ⟨w,e,w1,w2.trans ?_⟩;rw [Bg hk];exact Hp _ h2) (by
  rintro m ⟨h1,h2⟩;rw [De] at h2;refine ⟨m,?_,h2,h1⟩;show A9.l1 l _ _=_;unfold A9.l1;rw [Ao (by omega),Ae Ah]) [] ⟨O5,by simp⟩
 refine ⟨z,?_,h1,h2⟩;unfold A9;rw [e,Aa];rfl
theorem wsrt_srt {l:Ai} (h:WSrt l) (hn:(l.map (·.Path)).Nodup):Ng l:=by
 unfold WSrt at h;unfold Ng;rw [Ce] at h ⊢;intro i j hi hj hij;rcases sLt_not (h i j hi hj hij) with e | e
 ·have:=(Ce.1 hn) i j (by simpa using hi) (by simpa using hj) hij
  rw [List.getElem_map,List.getElem_map] at this;exact absurd e.symm this
 ·exact e
theorem Yx {l:Ai} (h:TrOk l) (p:ByteArray):(Co ⟨l⟩ p=some (-1)∧lk l p=Option.none)∨∃ k,∃ hk:k < l.length,Co ⟨l⟩ p=some (k:Int)∧l[k].Path=p∧lk l p=some l[k].Lines:=by
 have hl:=h.len;rw [FileAt_f h.srt (by omega)]
 unfold lk;cases hh:Mv l p
 ·left;exact ⟨rfl,rfl⟩
 ·right;obtain ⟨hp,e⟩:=X5 h.srt hh;exact ⟨Ky l p,hp,rfl,e,by rw [Af rfl,Bv hp];rfl⟩
theorem sameAt_f {a b:Ai} (ha:TrOk a) (hb:TrOk b) (p:ByteArray):Ld ⟨a⟩ ⟨b⟩ p=some (decide (lk a p=lk b p)):=by
 unfold Ld;rcases Yx ha p with ⟨e1,l1⟩ | ⟨i,hi,e1,_,l1⟩
 ·rcases Yx hb p with ⟨e2,l2⟩ | ⟨j,hj,e2,_,l2⟩
  ·rw [e1,Aa,e2,Aa,l1,l2];rfl
  ·rw [e1,Aa,e2,Aa,l1,l2,Af (by decide),Aa,Af rfl,Af (by decide),Aa,Ao (by omega)]
   simp
 ·rcases Yx hb p with ⟨e2,l2⟩ | ⟨j,hj,e2,_,l2⟩
  ·rw [e1,Aa,e2,Aa,l1,l2,A5,Ae (by omega),Aa,Af (by decide),A5,Ae (by omega),Aa]
   simp
  ·have:=ha.text_len (Bn hi);rw [e1,Aa,e2,Aa,l1,l2,A5,Ae (by omega),Aa,Ao (by omega),Ae Ah]
   simp only;rw [Ch hi,Aa,Ch hj,Aa,requal_f _ _ (by omega),Aa]
   congr 1;exact D4.2 ⟨fun h=>by rw [h],fun h=>Km h⟩
def ccL (c:Chunk):Int:=if (Cq c.Lines).Code=0 then (if (Cq c.Base).Code=0 then (if (Cq c.Left).Code=0 then (Cq c.Right).Code else (Cq c.Left).Code) else (Cq c.Base).Code) else (Cq c.Lines).Code
def ccF (c:Chunk):Int:=if ccL c=0∧(c.Conflict≠decide (c.Lines=[])∨(c.Conflict=false∧(c.Base.length+c.Left.length+c.Right.length > 0))) then 5 else ccL c
theorem rcheck_step {o:B0} {k:Nat} (hk:k < o.length) (hn:o.length≤100000) (h1:o[k].Base.length≤40000) (h2:o[k].Left.length≤40000) (h3:o[k].Right.length≤40000) :
  Bb.l1 o (k:Int)=if ccF o[k]=0 then some (.next ((k+1:Nat):Int)) else some (.done (.inl ⟨ccF o[k],k⟩)):=by
 have hj5:∀ x:Int,Bb.j5 (k:Int) x=if x=0 then some (.next ((k+1:Nat):Int)) else some (.done (.inl ⟨x,k⟩)):=by
  intro x;unfold Bb.j5 B7;rw [L5];by_cases h:x=0
  ·rw [Af h,Af h,Df (by omega) (by omega),Aa];rfl
  ·rw [Ae h,Ae h,Aa]
 have hj4:Bb.j4 (k:Int) o[k] (ccL o[k])=Bb.j5 (k:Int) (ccF o[k]):=by
  generalize o[k]=c at h1 h2 h3;unfold Bb.j4;rw [A5,A5];have hd:decide ((c.Lines.length:Int)=0)=decide (c.Lines=[]):=len0 _;rw [hd];unfold ccF;by_cases hz:ccL c=0
  ·rw [Af hz,Aa,Df (by omega) (by omega),Aa,Df (by omega) (by omega),Aa,Af hz,Aa]
   by_cases c1:c.Conflict=decide (c.Lines=[])
   ·rw [As c1,G9,Ae Ah];cases hc:c.Conflict
    ·rw [Af (show (!false)=true from rfl),Aa,Aa];rw [hc] at c1;by_cases c2:c.Base.length+c.Left.length+c.Right.length > 0
     ·rw [As (by omega),Af rfl,Af ⟨hz,.inr ⟨rfl,c2⟩⟩]
     ·rw [Ao (by omega),Ae Ah,Ae (by rintro ⟨_,h | h⟩;exact h c1;exact c2 h.2)]
    ·rw [Ae (show ¬ (!true)=true by decide),Aa,Aa,Ae Ah]
     rw [hc] at c1;rw [Ae (by rintro ⟨_,h | h⟩;exact h c1;exact Bool.noConfusion h.1)]
   ·rw [Ao c1,Bool.not_false,Af rfl,Aa,Af rfl,Af ⟨hz,.inl c1⟩]
  ·rw [Ae hz,Aa,Ae Ah,Ae hz,Aa,Ae Ah,Aa,Aa,Ae Ah,Ae (fun h=>hz h.1)]
 rw [hj5] at hj4;unfold Bb.l1;rw [A5,Af (by omega),Ch hk,Aa,N7,Aa,A5]
 unfold ccL at hj4;by_cases a1:(Cq o[k].Lines).Code=0
 ·rw [Af a1] at hj4 ⊢;rw [N7,Aa];unfold Bb.j2;rw [A5];by_cases a2:(Cq o[k].Base).Code=0
  ·rw [Af a2] at hj4 ⊢;rw [N7,Aa];unfold Bb.j3;rw [A5];by_cases a3:(Cq o[k].Left).Code=0
   ·rw [Af a3] at hj4 ⊢;rw [N7,Aa,hj4]
   ·rw [Ae a3] at hj4 ⊢;exact hj4
  ·rw [Ae a2] at hj4 ⊢;unfold Bb.j3;rw [A5,Ae a2,hj4]
 ·rw [Ae a1] at hj4 ⊢;unfold Bb.j2 Bb.j3;rw [A5,Ae a1,A5,Ae a1,hj4]
theorem rcheck_tot {k B:Nat} {o:B0} (h:Csm k B o) (hk:k≤100000):∃ f,Bb o=some f∧(o.length≤240→(∀ c∈o,ccF c=0)→f=⟨0,0⟩):=by
 have hlen:=h.len;unfold Bb;rw [A5];by_cases h240:o.length > 240
 ·rw [Af (by omega)]
  unfold B7;exact ⟨_,rfl,fun h=>by omega⟩
 rw [Ae (by omega)]
 rw [scan0 o (fun i c=>if ccF c=0 then Option.none else some (⟨ccF c,((i:Nat):Int)⟩:Fault)) (fun i hi _=>by
  have:=h.oth _ (Bn hi);rw [rcheck_step hi (by omega) this.1 this.2.1 this.2.2]
  by_cases hc:ccF o[i]=0
  ·rw [Af hc,Af hc]
  ·rw [Ae hc,Ae hc]) (by
  unfold Bb.l1;rw [A5,Ae (by omega)]),Aa]
 cases hs:Mw (fun i c=>if ccF c=0 then Option.none else some (⟨ccF c,((i:Nat):Int)⟩:Fault)) 0 o with
 | none=>exact ⟨_,rfl,fun _ _=>rfl⟩
 | some f =>
  refine ⟨f,rfl,fun _ hz=>?_⟩;obtain ⟨j,hj,e⟩:=Tw hs;rw [Af (hz _ (Bn hj))] at e;cases e
theorem conflicts_f {o:B0} (h:o.length≤100000):∃ n:Nat,C3 o=some (n:Int)∧(0 < n↔T7 o=true):=by
 obtain ⟨r,e,n,rfl,hn⟩:=Oa (f:=fun s=>C3.l1 o s.1 s.2) o.length (fun k s=>∃ n:Nat,s=(n:Int)∧n≤k∧(0 < n↔T7 (o.take k)=true)) (fun r=>∃ n:Nat,r=(n:Int)∧(0 < n↔T7 o=true)) (by
  rintro k s hk ⟨n,rfl,h1,h2⟩
  have hj:∀ w:Int,C3.j2 (k:Int) w=some (.next (((k+1:Nat):Int),w)):=by
   intro w;unfold C3.j2;rw [Df (by omega) (by omega),Aa];rfl
  have hh:T7 (o.take (k+1))=(T7 (o.take k) || o[k].Conflict):=by
   unfold T7;rw [Bg hk,Hy];simp
  unfold C3.l1;simp only;rw [A5,Af (by omega),Ch hk,Aa]
  cases hc:o[k].Conflict
  ·rw [Ae Ah,hj];refine ⟨_,rfl,n,rfl,by omega,?_⟩
   rw [hh,hc,N8];exact h2
  ·rw [Af rfl,Df (by omega) (by omega),Aa,hj]
   refine ⟨_,rfl,n+1,rfl,by omega,?_⟩
   rw [hh,hc,Ux]
   simp) (by
  rintro s ⟨n,rfl,h1,h2⟩;unfold C3.l1;simp only;rw [A5,Ae (by omega)]
  rw [De] at h2;exact ⟨_,rfl,n,rfl,h2⟩) 0 ⟨0,rfl,C1 _,by simp [T7]⟩
 refine ⟨n,?_,hn⟩;unfold C3;rw [e,Aa];rfl
theorem ccF_lin {y:Ac} (h:Ll y) (h0:y≠[]):ccF (Qd y)=0:=by
 have h1:=(H4 y).1 ((Lo y).1 h);have hn:(Cq []).Code=0:=by decide +kernel
 have h2:ccL (Qd y)=0:=by
  unfold ccL Qd;simp only;rw [Af h1,Af hn,Af hn,hn]
 unfold ccF
 rw [h2,Ae (by
  unfold Qd;simp only;rw [Ao h0]
  simp)]
theorem resolve_nrm {y:Ac} (hy:y.length≤20000000) {f:Fault} (hf:Bb (nrm y)=some f) (h0:f.Code=0):Be (nrm y) []=some (if y.length > 120 then ([],⟨10,-1⟩) else (y,⟨0,0⟩)):=by
 obtain ⟨n,e,hn⟩:=conflicts_f (o:=nrm y) (by unfold nrm;split <;> simp)
 have hc:T7 (nrm y)=false:=by unfold T7 nrm Qd;split <;> simp
 rw [hc] at hn
 have hn0:n=0:=by
  rcases Nat.eq_zero_or_pos n with h | h
  ·exact h
  ·have:=hn.1 h;cases this
 subst hn0
 have hj2:Be.j2 y=some (if y.length > 120 then ([],⟨10,-1⟩) else (y,⟨0,0⟩)):=by
  unfold Be.j2 B7;rw [A5];by_cases h:y.length > 120
  ·rw [Af (by omega),Af h];rfl
  ·rw [Ae (by omega),Ae h]
 have hl2:Be.l2 [] 0=some (.done (.inr ())):=by
  unfold Be.l2;rw [A5,Ae (by simp)]
 unfold Be;rw [hf,Aa,h0];simp only [Hk,G9];rw [Ae Ah,e,Aa];simp only [G1,Hk,G9];rw [Ae Ah,B5 (m:=fun s:Int=>Be.l2 [] s) hl2,Aa];simp only;unfold Be.j1 nrm;by_cases hy0:y=[]
 ·subst hy0;rw [Af rfl];have e1:Be.l1 [] [] 0 0 []=some (.done []):=by unfold Be.l1;rw [A5,Ae (by simp)]
  rw [B5 (m:=fun s:Int×Int×Ac=>Be.l1 [] [] s.1 s.2.1 s.2.2) e1,Aa,hj2]
 ·rw [Ae hy0]
  have e1:Be.l1 [Qd y] [] 0 0 []=some (.next (1,0,y)):=by
   unfold Be.l1;rw [A5,Af (by simp),show at? [Qd y] 0=some (Qd y) from rfl,Aa,Aa]
   unfold Qd;simp only;rw [Af (show (!false)=true from rfl),Gm (by simp;omega),Aa]
   unfold Be.j3;rw [Df (by omega) (by omega),Aa];rfl
  have e2:Be.l1 [Qd y] [] 1 0 y=some (.done y):=by unfold Be.l1;rw [A5,Ae (by simp)]
  rw [C0 (m:=fun s:Int×Int×Ac=>Be.l1 [Qd y] [] s.1 s.2.1 s.2.2) e1,B5 (m:=fun s:Int×Int×Ac=>Be.l1 [Qd y] [] s.1 s.2.1 s.2.2) e2,Aa,hj2]
theorem tmT {b l r:Ac} (hb:Ll b) (hl:Ll l) (hr:Ll r):∃ y7,A0 b l r=some y7∧∃ s ok,G7.j1 y7=some (s,ok)∧((Zq b l r=some s∧ok=true)∨(Zq b l r=Option.none∧ok=false)):=by
 obtain ⟨o,e,hsm,hc⟩:=RMerge_f hb hl hr;refine ⟨_,e,?_⟩;unfold G7.j1;simp only [Hk,G9];rw [Ae Ah];obtain ⟨f,ef,hf⟩:=rcheck_tot hsm (by omega)
 obtain ⟨n,en,hn⟩:=conflicts_f (o:=o) (by have:=hsm.len;omega)
 unfold Zq;rcases hc with ⟨y,hy,rfl,hline⟩ | ⟨hy,hh⟩
 ·rw [hy];simp only;have hc0:T7 (nrm y)=false:=by unfold T7 nrm Qd;split <;> simp
  rw [hc0] at hn
  have hn0:n=0:=by
   rcases Nat.eq_zero_or_pos n with h | h
   ·exact h
   ·have:=hn.1 h;cases this
  subst hn0
  have hyl:y.length≤20000000:=by
   by_cases hy0:y=[]
   ·subst hy0;simp
   ·have:=hsm.lin (Qd y) (by unfold nrm;rw [Ae hy0];simp)
    exact this
  by_cases h0:f.Code=0
  ·have hres:=resolve_nrm hyl ef h0;unfold L8;rw [ef,Aa,h0];simp only [Hk,G9];rw [Ae Ah,en,Aa,Ao (by omega),Ae Ah]
   by_cases h120:y.length≤120
   ·rw [Ae (by omega)] at hres
    rw [hres,Aa,Aa,Af h120];exact ⟨y,true,rfl,.inl ⟨rfl,rfl⟩⟩
   ·rw [Af (by omega)] at hres
    rw [hres,Aa,Aa,Ae h120];exact ⟨[],false,rfl,.inr ⟨rfl,rfl⟩⟩
  ·have h120:¬ y.length≤120:=fun h=>h0 (by
    rw [hf (by unfold nrm;split <;> simp) (fun c hc=>by
     unfold nrm at hc;by_cases hy0:y=[]
     ·rw [Af hy0] at hc;cases hc
     ·rw [Ae hy0,Bi] at hc;subst hc;exact ccF_lin ⟨h,hline⟩ hy0)])
   unfold L8;rw [ef,Aa,Ao h0,Af (show (!false)=true from rfl),Aa,Ae h120];exact ⟨[],false,rfl,.inr ⟨rfl,rfl⟩⟩
 ·rw [hy];simp only;unfold L8;rw [ef,Aa];by_cases h0:f.Code=0
  ·rw [h0];simp only [Hk,G9];have:=hn.2 hh;rw [Ae Ah,en,Aa,As (by omega),Af rfl,Aa]
   exact ⟨_,_,rfl,.inr ⟨trivial,rfl⟩⟩
  ·rw [Ao h0,Af (show (!false)=true from rfl),Aa];exact ⟨_,_,rfl,.inr ⟨trivial,rfl⟩⟩
theorem textMerge_f {B L R:Ai} (hB:TrOk B) (hL:TrOk L) (hR:TrOk R) (p:ByteArray):∃ s ok,G7 ⟨B⟩ ⟨L⟩ ⟨R⟩ p=some (s,ok) ∧
  match lk B p,lk L p,lk R p with
  | some x,some y,some z=>(Zq x y z=some s∧ok=true)∨(Zq x y z=Option.none∧ok=false)
  | _,_,_=>ok=false:=by
 unfold G7;rcases Yx hB p with ⟨e1,l1⟩ | ⟨i,hi,e1,_,l1⟩
 ·rw [e1,Aa,l1];obtain ⟨j,ej⟩:∃ j,Co ⟨L⟩ p=some j:=by rcases Yx hL p with ⟨e,_⟩ | ⟨_,_,e,_⟩ <;> exact ⟨_,e⟩
  obtain ⟨k,ek⟩:∃ j,Co ⟨R⟩ p=some j:=by rcases Yx hR p with ⟨e,_⟩ | ⟨_,_,e,_⟩ <;> exact ⟨_,e⟩
  rw [ej,Aa,ek,Aa,Af (by decide),Aa,Af rfl,Aa,Af rfl]
  exact ⟨_,_,rfl,rfl⟩
 rw [e1,Aa,l1];rcases Yx hL p with ⟨e2,l2⟩ | ⟨j,hj,e2,_,l2⟩
 ·rw [e2,Aa,l2];obtain ⟨k,ek⟩:∃ j,Co ⟨R⟩ p=some j:=by rcases Yx hR p with ⟨e,_⟩ | ⟨_,_,e,_⟩ <;> exact ⟨_,e⟩
  rw [ek,Aa,A5,Ae (by omega),Aa,Af (by decide),Aa,Af rfl]
  exact ⟨_,_,rfl,rfl⟩
 rw [e2,Aa,l2];rcases Yx hR p with ⟨e3,l3⟩ | ⟨k,hk,e3,_,l3⟩
 ·rw [e3,Aa,l3,A5,Ae (by omega),Aa,Ao (by omega),Ae Ah,Aa,Af (by decide)]
  exact ⟨_,_,rfl,rfl⟩
 rw [e3,Aa,l3,A5,Ae (by omega),Aa,Ao (by omega),Ae Ah,Aa,Ao (by omega),Ae Ah]
 simp only;rw [Ch hi,Aa,Ch hj,Aa,Ch hk,Aa];obtain ⟨y7,e7,s,ok,ej1,hc⟩:=tmT (hB.text _ (Bn hi)) (hL.text _ (Bn hj)) (hR.text _ (Bn hk));rw [e7,Aa,ej1];exact ⟨s,ok,rfl,hc⟩
def LastP (p:TreePatch) (path:ByteArray) (x:Int):Prop:=(x = -1∧∀ c∈p.Changes,Tz path c=false)∨∃ k,∃ h:k < p.Changes.length,x=(k:Int)∧Tz path p.Changes[k]=true∧∀ j (hj:j < p.Changes.length),k < j→Tz path p.Changes[j]=false
theorem LastP.uniq {p:TreePatch} {path:ByteArray} {x y:Int} (hx:LastP p path x) (hy:LastP p path y):x=y:=by
 rcases hx with ⟨rfl,h1⟩ | ⟨k,hk,rfl,h1,h2⟩
 ·rcases hy with ⟨rfl,h3⟩ | ⟨j,hj,rfl,h3,h4⟩
  ·rfl
  ·rw [h1 _ (Bn hj)] at h3;cases h3
 ·rcases hy with ⟨rfl,h3⟩ | ⟨j,hj,rfl,h3,h4⟩
  ·rw [h3 _ (Bn hk)] at h1;cases h1
  ·rcases O0 k j with h | h | h
   ·rw [h2 j hj h] at h3;cases h3
   ·rw [h]
   ·rw [h4 k hk h] at h1;cases h1
theorem last_g {p:TreePatch} (hp:∀ c∈p.Changes,OkCh c) (hl:p.Changes.length≤30) {path:ByteArray} (hs:path.size≤1000000):LastP p path (Wo p path):=by
 have key:∀ k,k≤p.Changes.length→(∀ j (h:j < p.Changes.length),k≤j→Tz path p.Changes[j]=false) →
   ∃ r,Eo (fun s=>D9.l1 p path s) ((k:Int) - 1)=some r∧((r=.inr ()∧∀ c∈p.Changes,Tz path c=false)∨∃ j,∃ h:j < p.Changes.length,r=.inl (j:Int)∧Tz path p.Changes[j]=true∧∀ i (hi:i < p.Changes.length),j < i→Tz path p.Changes[i]=false):=by
  intro k
  induction k with
  | zero =>
   intro _ h;refine ⟨.inr (),B5 ?_,.inl ⟨rfl,fun c hc=>?_⟩⟩
   ·unfold D9.l1;rw [A5,Ae (by omega)]
   ·obtain ⟨j,hj,rfl⟩:=Da hc;exact h j hj (D3 _)
  | succ k ih =>
   intro hk h;have hlt:k < p.Changes.length:=by omega
   have e1:((k+1:Nat):Int) - 1=(k:Int):=by omega
   rw [e1]
   have hs1:D9.l1 p path (k:Int)=if Tz path p.Changes[k]=true then some (.done (.inl (k:Int))) else some (.next ((k:Int) - 1)):=by
    unfold D9.l1;rw [A5,Af (by omega),Ch hlt,Aa,touches_f hs (hp _ (Bn hlt)).size,Aa]
    split
    ·rfl
    ·rw [Df (by omega) (by omega),Aa]
   by_cases ht:Tz path p.Changes[k]=true
   ·rw [Af ht] at hs1;exact ⟨_,B5 hs1,.inr ⟨k,hlt,rfl,ht,fun i hi h2=>h i hi h2⟩⟩
   ·rw [Ae ht] at hs1;rw [C0 hs1];refine ih (by omega) fun j hj hkj=>?_
    rcases Ht hkj with h2 | h2
    ·exact h j hj h2
    ·subst h2;simpa using ht
 obtain ⟨r,e,hr⟩:=key p.Changes.length (C1 _) fun j hj h=>by omega
 have e0:∃ x,D9 p path=some x∧LastP p path x:=by
  unfold D9;rw [Df (by omega) (by omega),Aa,e,Aa]
  rcases hr with ⟨rfl,h2⟩ | ⟨j,hj,rfl,h2⟩
  ·exact ⟨_,rfl,.inl ⟨rfl,h2⟩⟩
  ·exact ⟨_,rfl,.inr ⟨j,hj,rfl,h2⟩⟩
 obtain ⟨x,e1,h1⟩:=e0;have ex:Wo p path=x:=by unfold Wo;rw [e1];rfl
 rw [ex];exact h1
theorem Yc {p:TreePatch} (hp:∀ c∈p.Changes,OkCh c) (hl:p.Changes.length≤30) {path:ByteArray} (hs:path.size≤1000000):Cv p path=some (Wo p path):=by
 obtain ⟨r,e,hr⟩:=Oa (f:=fun s=>Cv.l1 p path s.1 s.2) p.Changes.length (fun k s=>(s = -1∧∀ j (hj:j < p.Changes.length),j < k→Tz path p.Changes[j]=false)∨∃ i,∃ h:i < p.Changes.length,i < k∧s=(i:Int)∧Tz path p.Changes[i]=true∧∀ j (hj:j < p.Changes.length),i < j→j < k→Tz path p.Changes[j]=false) (fun r=>LastP p path r) (by
  rintro k s hk hI
  have hj:∀ w:Int,Cv.j2 (k:Int) w=some (.next (((k+1:Nat):Int),w)):=by
   intro w;unfold Cv.j2;rw [Df (by omega) (by omega),Aa];rfl
  unfold Cv.l1;simp only;rw [A5,Af (by omega),Ch hk,Aa,Touches_f,Aa]
  cases ht:Tz path p.Changes[k]
  ·rw [Ae Ah,hj];refine ⟨_,rfl,?_⟩;rcases hI with ⟨rfl,h1⟩ | ⟨i,hi,hik,rfl,h1,h2⟩
   ·refine .inl ⟨rfl,fun j hj hjk=>?_⟩;rcases Ht (Nn hjk) with h3 | h3
    ·exact h1 j hj h3
    ·subst h3;exact ht
   ·refine .inr ⟨i,hi,by omega,rfl,h1,fun j hj hij hjk=>?_⟩
    rcases Ht (Nn hjk) with h3 | h3
    ·exact h2 j hj hij h3
    ·subst h3;exact ht
  ·rw [Af rfl,hj];exact ⟨_,rfl,.inr ⟨k,hk,by omega,rfl,ht,fun j hj h3 h4=>by omega⟩⟩) (by
  rintro s hI;refine ⟨s,?_,?_⟩
  ·unfold Cv.l1;simp only;rw [A5,Ae (by omega)]
  ·rcases hI with ⟨rfl,h1⟩ | ⟨i,hi,hik,rfl,h1,h2⟩
   ·refine .inl ⟨rfl,fun c hc=>?_⟩;obtain ⟨j,hj,rfl⟩:=Da hc;exact h1 j hj hj
   ·exact .inr ⟨i,hi,rfl,h1,fun j hj h3=>h2 j hj h3 hj⟩) (-1) (.inl ⟨rfl,fun j hj h=>by omega⟩)
 unfold Cv;rw [e,Aa,LastP.uniq (last_g hp hl hs) hr];rfl
theorem ref_walk {B L R:Ai} (hB:TrOk B) (hL:TrOk L) (hR:TrOk R) {left right:TreePatch} (hcl:∀ c∈left.Changes,OkCh c) (hll:left.Changes.length≤30) (hcr:∀ c∈right.Changes,OkCh c) (hrl:right.Changes.length≤30) {fl fr:Fault}
  {z:Ai} (hz:WSrt z) (hp:z.Perm (B++L++R)) :
  Eo (fun s=>Aq.l3 ⟨B⟩ left right (⟨L⟩,fl) (⟨R⟩,fr) ⟨z⟩ s.1 s.2.1 s.2.2.1 s.2.2.2) (0,[],[],[])=some (O8 B L R,Vo B L R,tmFst B L R left right):=by
 have hzl:z.length≤72:=by
  have:=hp.length_eq;have h1:=hB.len;have h2:=hL.len;have h3:=hR.len;rw [Av,Av] at this;omega
 have hzs:∀ f∈z,f.Path.size≤60:=by
  intro f hf;have:=hp.mem_iff.1 hf;rw [Bj,Bj] at this;rcases this with (h | h) | h
  ·exact Mx (hB.path f h)
  ·exact Mx (hL.path f h)
  ·exact Mx (hR.path f h)
 have hfin:∀ K,SAsc K→(∀ p,p∈K↔∃ f∈z,f.Path=p)→K=tmK B L R:=by
  intro K h1 h2;refine sasc_uniq h1 (ksort_asc _) fun p=>?_;rw [h2,mem_K,Q8,Q8,Q8];constructor
  ·rintro ⟨f,hf,rfl⟩;have:=hp.mem_iff.1 hf;rw [Bj,Bj] at this;rcases this with (h | h) | h
   ·exact .inl ⟨f,h,rfl⟩
   ·exact .inr (.inl ⟨f,h,rfl⟩)
   ·exact .inr (.inr ⟨f,h,rfl⟩)
  ·rintro (⟨f,h,rfl⟩ | ⟨f,h,rfl⟩ | ⟨f,h,rfl⟩)
   ·exact ⟨f,hp.mem_iff.2 (by simp [h]),rfl⟩
   ·exact ⟨f,hp.mem_iff.2 (by simp [h]),rfl⟩
   ·exact ⟨f,hp.mem_iff.2 (by simp [h]),rfl⟩
 obtain ⟨r,e,rfl⟩:=Oa (f:=fun s=>Aq.l3 ⟨B⟩ left right (⟨L⟩,fl) (⟨R⟩,fr) ⟨z⟩ s.1 s.2.1 s.2.2.1 s.2.2.2) z.length
  (fun k s=>∃ K,SAsc K∧(∀ p,p∈K↔∃ f∈z.take k,f.Path=p)∧K.length≤k∧s=(K.filterMap (Ud B L R),K.filterMap (Xw B L R),K.filterMap (fstO B L R left right)))
  (fun r=>r=(O8 B L R,Vo B L R,tmFst B L R left right)) (by
  rintro k s hk ⟨K,k1,k2,k3,rfl⟩;have hsz:=hzs _ (Bn hk);have lo:(K.filterMap (Xw B L R)).length≤k:=Cc (Dh _ _) k3;have ll:(K.filterMap (Ud B L R)).length≤k:=Cc (Dh _ _) k3;have lf:(K.filterMap (fstO B L R left right)).length≤k:=Cc (Dh _ _) k3
  have hj6:∀ (a b:Ai) (c:Bp),Aq.j6 (k:Int) a b c=some (.next (((k+1:Nat):Int),a,b,c)):=by
   intro a b c;unfold Aq.j6;rw [Df (by omega) (by omega),Aa];rfl
  have hcond:∃ b:Bool,(if decide ((k:Int) > 0)=true then (ckK .i64 ((k:Int) - 1)).bind fun z4=>(at? z z4).bind fun y26=>some (decide (y26.Path=z[k].Path)) else some false)=some b∧(b=true↔z[k].Path∈K):=by
   by_cases h0:k=0
   ·subst h0;refine ⟨false,by rw [A5,Ae (by omega)],?_⟩
    simp only [Cl,false_iff];intro h;obtain ⟨f,hf,_⟩:=(k2 _).1 h;cases hf
   ·have hk1:k - 1 < z.length:=by omega
    refine ⟨decide (z[k - 1].Path=z[k].Path),by rw [A5,Af (by omega),Df (by omega) (by omega),Aa,show (k:Int) - 1=((k - 1:Nat):Int) by omega,Ch hk1,Aa],?_⟩
    rw [Cg];constructor
    ·intro e;exact (k2 _).2 ⟨z[k - 1],H9.2 ⟨k - 1,by omega,rfl⟩,e⟩
    ·intro h;obtain ⟨f,hf,e⟩:=(k2 _).1 h;rw [H9] at hf;obtain ⟨i,hi,rfl⟩:=hf;have h1:sLt z[k].Path z[k - 1].Path=false:=Ce.1 hz (k - 1) k (by omega) hk (by omega)
     have h2:sLt z[k - 1].Path z[k].Path=false:=by
      rw [← e];rcases Ht (show i≤k - 1 by omega) with h3 | h3
      ·exact Ce.1 hz i (k - 1) (by omega) (by omega) h3
      ·subst h3;exact Tr _
     rcases sLt_not h1 with h3 | h3
     ·exact h3.symm
     ·rw [h2] at h3;cases h3
  obtain ⟨bk,hcond,hbk⟩:=hcond
  have hc2:∀ y25:File,y25=z[k]→(if decide ((k:Int) > 0)=true then (ckK .i64 ((k:Int) - 1)).bind fun z4=>(at? z z4).bind fun y26=>some (decide (y26.Path=y25.Path)) else some false)=some bk:=by
   rintro _ rfl;exact hcond
  unfold Aq.l3;simp only;rw [A5,Af (by omega),Ch hk,Aa,hc2 _ rfl,Aa]
  by_cases hin:z[k].Path∈K
  ·rw [Af (hbk.2 hin),hj6];refine ⟨_,rfl,K,k1,fun p=>?_,by omega,rfl⟩
   rw [k2,Bg hk];constructor
   ·rintro ⟨f,hf,e⟩;exact ⟨f,Ej _ hf,e⟩
   ·rintro ⟨f,hf,e⟩;rcases Bj.1 hf with hf | hf
    ·exact ⟨f,hf,e⟩
    ·rw [Bi] at hf;subst hf;subst e;exact (k2 _).1 hin
  ·rw [Ae (fun h=>hin (hbk.1 h))];clear hbk hc2 hcond;generalize hpp:z[k].Path=p at hin hsz
   have hnext:∀ a b c,a=K.filterMap (Ud B L R)++(Ud B L R p).toList→b=K.filterMap (Xw B L R)++(Xw B L R p).toList→c=K.filterMap (fstO B L R left right)++(fstO B L R left right p).toList →
     ∃ s',some (Step.next (((k+1:Nat):Int),a,b,c))=some (Step.next (σ:=Int×Ai×Ai×Bp) (ρ:=Ai×Ai×Bp) (((k+1:Nat):Int),s'))∧∃ K,SAsc K∧(∀ q,q∈K↔∃ f∈z.take (k+1),f.Path=q)∧K.length≤k+1∧s'=(K.filterMap (Ud B L R),K.filterMap (Xw B L R),K.filterMap (fstO B L R left right)):=by
    rintro a b c rfl rfl rfl;refine ⟨_,rfl,K++[p],?_,fun q=>?_,by rw [Av,Ax];omega,by rw [Yh,Yh,Yh]⟩
    ·unfold SAsc;rw [G8];refine ⟨k1,K8 _ _,fun a ha b hb=>?_⟩;rw [Bi] at hb;subst hb;obtain ⟨f,hf,rfl⟩:=(k2 a).1 ha;rw [H9] at hf;obtain ⟨i,hi,rfl⟩:=hf;have h1:sLt z[k].Path z[i].Path=false:=Ce.1 hz i k (by omega) hk (by omega)
     rw [hpp] at h1;rcases sLt_not h1 with h3 | h3
     ·rw [← h3] at ha;exact absurd ha hin
     ·exact h3
    ·rw [Bj,Bi,k2,Bg hk];constructor
     ·rintro (⟨f,hf,e⟩ | rfl)
      ·exact ⟨f,Ej _ hf,e⟩
      ·exact ⟨z[k],E5 _ (Bi.2 rfl),hpp⟩
     ·rintro ⟨f,hf,e⟩;rcases Bj.1 hf with hf | hf
      ·exact .inl ⟨f,hf,e⟩
      ·rw [Bi] at hf;subst hf;exact .inr (by rw [← e,hpp])
   have t1:=Yc hcl hll (path:=p) (by omega)
   have t2:=Yc hcr hrl (path:=p) (by omega)
   obtain ⟨s,ok,et,htm⟩:=textMerge_f hB hL hR p;simp only [sameAt_f hR hB,sameAt_f hL hR,sameAt_f hL hB,t1,t2,et,Aa]
   have ec:(if decide (lk R p=lk B p)=true then some true else some (decide (lk L p=lk R p)))=some (decide (lk R p=lk B p∨lk R p=lk L p)):=by
    by_cases h:lk R p=lk B p <;> simp [h,eq_comm]
   simp only [ec,Aa]
   have fin:∀ (X:OT) (f:Bool) (l:OT),lk L p=l→mgO (lk B p) l (lk R p)=(X,f)→∀ a b c,a=K.filterMap (Ud B L R)++(match X,l with | some v,Option.none=>some (⟨p,v⟩:File) | _,_=>Option.none).toList →
     b=K.filterMap (Xw B L R)++(match X,l with | some v,some _=>some (⟨p,v⟩:File) | _,_=>Option.none).toList→c=K.filterMap (fstO B L R left right)++(if f=true then Option.none else some (⟨Wo left p,Wo right p⟩:Arr2_Int)).toList →
     ∃ s',some (Step.next (((k+1:Nat):Int),a,b,c))=some (Step.next (σ:=Int×Ai×Ai×Bp) (ρ:=Ai×Ai×Bp) (((k+1:Nat):Int),s'))∧∃ K,SAsc K∧(∀ q,q∈K↔∃ f∈z.take (k+1),f.Path=q)∧K.length≤k+1∧s'=(K.filterMap (Ud B L R),K.filterMap (Xw B L R),K.filterMap (fstO B L R left right)):=by
    intro X f l hl hm a b c ha hb hc;subst hl;refine hnext a b c ?_ ?_ ?_
    ·rw [ha];unfold Ud vF;rw [hm];try (cases X <;> cases lk L p <;> rfl)
    ·rw [hb];unfold Xw vF;rw [hm];try (cases X <;> cases lk L p <;> rfl)
    ·rw [hc];unfold fstO vF;rw [hm]
   clear hnext;rcases Yx hL p with ⟨e2,l2⟩ | ⟨j,hj,e2,hjp,l2⟩
   ·rw [e2,Aa];rcases Yx hR p with ⟨e3,l3⟩ | ⟨i,hi,e3,hip,l3⟩
    ·rw [e3,Aa,As (.inr (by rw [l2,l3])),Af rfl,A5,Ae (by omega),hj6]
     exact fin Option.none true Option.none l2 (by unfold mgO;rw [Af (.inr l3)]) _ _ _ (by simp) (by simp) (by simp)
    ·rw [e3,Aa];by_cases c1:lk R p=lk B p
     ·rw [As (.inl c1),Af rfl,A5,Ae (by omega),hj6]
      exact fin Option.none true Option.none l2 (by unfold mgO;rw [Af (.inl c1)]) _ _ _ (by simp) (by simp) (by simp)
     ·have c1':¬ (lk R p=lk B p∨lk R p=lk L p):=by
       rintro (h | h)
       ·exact c1 h
       ·rw [l3,l2] at h;cases h
      rw [Ao c1',Ae Ah];rw [l2] at c1';by_cases c2:lk L p=lk B p
      ·rw [As c2,Af rfl,A5,Ae (by omega),Aa,Ae Ah]
       unfold Aq.j7;rw [As (by omega),Af rfl]
       simp only;rw [Ch hi,Aa,Gm (by rw [Ax];omega),Aa,hj6]
       exact fin (some R[i].Lines) true Option.none l2 (by unfold mgO;rw [Ae c1',Af (by rw [← c2,l2]),l3]) _ _ _ (by simp [← hip]) (by simp) (by simp)
      ·rw [Ao c2,Ae Ah];rw [l2] at c2 htm
       obtain ⟨x,hx⟩:∃ x,lk B p=some x:=by
        cases h:lk B p with
        | none=>exact absurd h.symm c2
        | some x=>exact ⟨x,rfl⟩
       rw [hx,l3] at htm;simp only at htm;subst htm;rw [Ae Ah,Gm (by rw [Ax];omega),Aa,A5,Ae (by omega),hj6]
       exact fin Option.none false Option.none l2 (by unfold mgO;rw [Ae c1',Ae c2,hx,l3]) _ _ _ (by simp) (by simp) (by simp)
   ·have hLf:L[j]=(⟨p,L[j].Lines⟩:File):=by rw [← hjp]
    rw [e2,Aa];obtain ⟨i3,e3⟩:∃ i,Co ⟨R⟩ p=some i:=by rcases Yx hR p with ⟨e,_⟩ | ⟨_,_,e,_⟩ <;> exact ⟨_,e⟩
    by_cases c1:lk R p=lk B p∨lk R p=lk L p
    ·rw [e3,Aa,As c1,Af rfl,A5,Af (by omega),Ch hj,Aa,Gm (by rw [Ax];omega),Aa,hj6]
     rw [l2] at c1;exact fin (some L[j].Lines) true (some L[j].Lines) l2 (by unfold mgO;rw [Af c1]) _ _ _ (by simp) (by simp only [Option.toList_some];rw [← hLf]) (by simp)
    ·simp only [Ao c1,Cl,Eh];rw [l2] at c1;by_cases c2:lk L p=lk B p
     ·simp only [As c2,Gi];rw [l2] at c2;rcases Yx hR p with ⟨e3,l3⟩ | ⟨i,hi,e3,hip,l3⟩
      ·rw [e3,Aa,A5,Af (by omega),Ao (by omega),Aa,Ae Ah]
       unfold Aq.j7;rw [Ao (by omega),Ae Ah,hj6]
       exact fin Option.none true (some L[j].Lines) l2 (by unfold mgO;rw [Ae c1,Af c2,l3]) _ _ _ (by simp) (by simp) (by simp)
      ·rw [e3,Aa,A5,Af (by omega),As (by omega),Aa,Af rfl,Ch hi,Aa,Gm (by rw [Ax];omega),Aa]
       unfold Aq.j7;rw [Ao (by omega),Ae Ah,hj6]
       exact fin (some R[i].Lines) true (some L[j].Lines) l2 (by unfold mgO;rw [Ae c1,Af c2,l3]) _ _ _ (by simp) (by simp only [Option.toList_some];rw [show R[i]=(⟨p,R[i].Lines⟩:File) by rw [← hip]]) (by simp)
     ·rw [e3,Aa,Ao c2,Ae Ah];rw [l2] at c2 htm
      have hbad:ok=false→mgO (lk B p) (some L[j].Lines) (lk R p)=(some L[j].Lines,false):=by
       intro hok;subst hok;unfold mgO;rw [Ae c1,Ae c2];cases hb:lk B p with
       | none=>rfl
       | some x =>
        cases hr:lk R p with
        | none=>rfl
        | some w =>
         rw [hb,hr] at htm;simp only at htm ⊢;rcases htm with ⟨_,h⟩ | ⟨h,_⟩
         ·cases h
         ·rw [h]
      cases ok
      ·rw [Ae Ah,Gm (by rw [Ax];omega),Aa,A5,Af (by omega),Ch hj,Aa,Gm (by rw [Ax];omega),Aa,hj6]
       exact fin _ _ _ l2 (hbad rfl) _ _ _ (by simp) (by simp only [Option.toList_some];rw [← hLf]) (by simp)
      ·rw [Af rfl,Gm (by rw [Ax];omega),Aa,hj6]
       have hgood:mgO (lk B p) (some L[j].Lines) (lk R p)=(some s,true):=by
        unfold mgO;rw [Ae c1,Ae c2];cases hb:lk B p with
        | none=>rw [hb] at htm;simp at htm
        | some x =>
         cases hr:lk R p with
         | none=>rw [hb,hr] at htm;simp at htm
         | some w =>
          rw [hb,hr] at htm;simp only at htm ⊢;rcases htm with ⟨h,_⟩ | ⟨_,h⟩
          ·rw [h]
          ·cases h
       exact fin _ _ _ l2 hgood _ _ _ (by simp) (by simp) (by simp)) (by
  rintro s ⟨K,k1,k2,k3,rfl⟩;rw [De] at k2;have:=hfin K k1 k2;subst this;unfold Aq.l3;simp only;rw [A5,Ae (by omega)]
  exact ⟨_,rfl,rfl⟩) ([],[],[]) ⟨[],O5,fun p=>by simp,by simp,rfl⟩
 exact e
theorem ref_block {R mine new:Ai} (hR:TrOk R) (hm:mine.length≤1000) {i:Nat} (hi:i < new.length) {fr:Fault} :
  Eo (fun s=>Aq.l2 (⟨R⟩,fr) new mine (i:Int) s.1 s.2) (0,false)=some (Hm (Wh R mine) new[i].Path):=by
 have hl:=hR.len
 obtain ⟨r,e,rfl⟩:=Oa (f:=fun s=>Aq.l2 (⟨R⟩,fr) new mine (i:Int) s.1 s.2) mine.length (fun k s=>s=Hm (Wh R (mine.take k)) new[i].Path) (fun r=>r=Hm (Wh R mine) new[i].Path) (by
  rintro k s hk rfl;refine ⟨_,?_,rfl⟩
  have e1:Hm (Wh R (mine.take (k+1))) new[i].Path=(Hm (Wh R (mine.take k)) new[i].Path || (!Mv R mine[k].Path && Oj mine[k].Path new[i].Path)):=by
   unfold Hm Wh;rw [Bg hk,M5,Hy];congr 1;cases h:Mv R mine[k].Path <;> simp [h]
  unfold Aq.l2;simp only;rw [A5,Af (by omega),e1]
  have hfa:∃ a:Int,Co ⟨R⟩ mine[k].Path=some a∧decide (a < 0) = !Mv R mine[k].Path:=by
   rw [FileAt_f hR.srt (by omega)]
   cases Mv R mine[k].Path
   ·exact ⟨_,rfl,by rw [Ae Ah];rfl⟩
   ·exact ⟨_,rfl,by rw [Af rfl,Ao (by omega)];rfl⟩
  obtain ⟨a,ea,ha⟩:=hfa;rw [Ch hk,Aa,ea,Aa,Ch hi,Aa,Aa,Xo,Aa,ha];have hz:ckK .i64 ((k:Int)+1)=some ((k+1:Nat):Int):=by rw [Df (by omega) (by omega)];rfl
  cases Hm (Wh R (mine.take k)) new[i].Path
  ·cases Mv R mine[k].Path
   ·simp [hz]
   ·simp [hz]
  ·simp [hz]) (by
  rintro s rfl;unfold Aq.l2;simp only;rw [A5,Ae (by omega),De]
  exact ⟨_,rfl,rfl⟩) false rfl
 exact e
theorem ref_late {R mine new:Ai} (hR:TrOk R) (hm:mine.length≤1000) (hn:new.length≤1000) (hsz:∀ f∈new,f.Path.size≤60) {left right:TreePatch} (hcl:∀ c∈left.Changes,OkCh c) (hll:left.Changes.length≤30) (hcr:∀ c∈right.Changes,OkCh c) (hrl:right.Changes.length≤30) {fr:Fault}
  {bad:Bp} (hb:bad.length≤1000) :
  Eo (fun s=>Aq.l1 left right (⟨R⟩,fr) new mine s.1 s.2.1 s.2.2) (0,mine,bad)=some (mine++new.filter (fun x=>!Hm (Wh R mine) x.Path),bad++new.filterMap (secO left right (Wh R mine))):=by
 obtain ⟨r,e,rfl⟩:=Oa (f:=fun s=>Aq.l1 left right (⟨R⟩,fr) new mine s.1 s.2.1 s.2.2) new.length
  (fun k s=>s=(mine++(new.take k).filter (fun x=>!Hm (Wh R mine) x.Path),bad++(new.take k).filterMap (secO left right (Wh R mine))))
  (fun r=>r=(mine++new.filter (fun x=>!Hm (Wh R mine) x.Path),bad++new.filterMap (secO left right (Wh R mine)))) (by
  rintro k s hk rfl;have h1:((new.take k).filter (fun x=>!Hm (Wh R mine) x.Path)).length≤k:=Cc (Kv _ _) (by rw [B9];omega)
  have h2:((new.take k).filterMap (secO left right (Wh R mine))).length≤k:=Cc (Dh _ _) (by rw [B9];omega)
  have hs:=hsz _ (Bn hk);have t1:=Yc hcl hll (path:=new[k].Path) (by omega)
  have t2:=Yc hcr hrl (path:=new[k].Path) (by omega)
  have hj4:∀ a b,Aq.j4 (k:Int) a b=some (.next (((k+1:Nat):Int),b,a)):=by
   intro a b;unfold Aq.j4;rw [Df (by omega) (by omega),Aa];rfl
  refine ⟨_,?_,rfl⟩;rw [Bg hk,Yh,M5];unfold Aq.l1;simp only;rw [A5,Af (by omega),ref_block hR hm hk,Aa]
  unfold Aq.j5;cases h:Hm (Wh R mine) new[k].Path
  ·rw [Ae Ah,Ch hk,Aa,Gm (by rw [Av,Ax];omega),Aa,hj4]
   simp [h,secO]
  ·rw [Af rfl,Ch hk,Aa,Aa,t1,Aa,t2,Aa,Gm (by rw [Av,Ax];omega),Aa,hj4]
   simp [h,secO]) (by
  rintro s rfl;unfold Aq.l1;simp only;rw [A5,Ae (by omega),De]
  exact ⟨_,rfl,rfl⟩) (mine,bad) (by simp)
 exact e
noncomputable def mgT (B:Ai) (left right:TreePatch):FileTree×Bp×Fault :=
 if (K0 B).Code≠0 then (⟨[]⟩,[],K0 B)
 else if (Ke left.Changes B).2.Code≠0 then (⟨[]⟩,[],⟨(Ke left.Changes B).2.Code,-2⟩)
 else if (Ke right.Changes B).2.Code≠0 then (⟨[]⟩,[],⟨(Ke right.Changes B).2.Code,-3⟩)
 else if (tmFin B (Ke left.Changes B).1 (Ke right.Changes B).1).length > 24 then (⟨[]⟩,[],⟨10,-1⟩)
 else (⟨tmFin B (Ke left.Changes B).1 (Ke right.Changes B).1⟩,tmFst B (Ke left.Changes B).1 (Ke right.Changes B).1 left right++tmSec B (Ke left.Changes B).1 (Ke right.Changes B).1 left right,⟨0,0⟩)
theorem apply_zero {p:Ei} {B:Ai} (h:(Ke p B).2.Code=0):(Ke p B).2=⟨0,0⟩:=by
 obtain ⟨_,c2,c3,c4,_⟩:=T9 h;rw [c4] at h ⊢;exact (run_ok _ _ _ c3 c2 h).2
theorem impl_mgT (B:Ai) (left right:TreePatch):A8 ⟨B⟩ left right=some (mgT B left right):=by
 unfold mgT;by_cases h0:(K0 B).Code=0
 ·rw [Ae (fun h=>h h0)];have hB:=(Od B).1 h0
  have eB:K0 B=⟨0,0⟩:=by
   rcases Zk B with h | h
   ·exact h
   ·exact absurd h0 h
  by_cases h1:(Ke left.Changes B).2.Code=0
  ·rw [Ae (fun h=>h h1)];by_cases h2:(Ke right.Changes B).2.Code=0
   ·rw [Ae (fun h=>h h2)];exact tmerge hB h1 h2
   ·rw [Af h2];have e1:=apply_zero h1;unfold A8;rw [Xe,Aa];simp only;rw [eB];simp only [Hk,Lz,G9,Cl,Eh];rw [Apply_f,Aa];simp only;rw [e1];simp only [Hk,Lz,G9,Cl,Eh];rw [Apply_f,Aa];simp only;rw [Af (by simp [h2])]
  ·rw [Af h1];unfold A8;rw [Xe,Aa];simp only;rw [eB];simp only [Hk,Lz,G9,Cl,Eh];rw [Apply_f,Aa];simp only;rw [Af (by simp [h1])]
 ·rw [Af h0];unfold A8;rw [Xe,Aa];simp only;rw [Af (by simp [h0])]
theorem ref_mgT (B:Ai) (left right:TreePatch):Aq ⟨B⟩ left right=some (mgT B left right):=by
 unfold mgT Aq B7;rw [TreeFault_f,Aa];simp only;rw [L5];by_cases h0:(K0 B).Code=0
 ·rw [Af h0,Ae (fun h=>h h0),RApply_f,Aa];simp only;rw [L5];have hB:=(Od B).1 h0;by_cases h1:(Ke left.Changes B).2.Code=0
  ·rw [Af h1,Ae (fun h=>h h1),RApply_f,Aa];simp only;rw [L5];by_cases h2:(Ke right.Changes B).2.Code=0
   ·rw [Af h2,Ae (fun h=>h h2)];obtain ⟨a1,a2,_,_,hL⟩:=T9 h1;obtain ⟨b1,b2,_,_,hR⟩:=T9 h2;generalize (Ke left.Changes B).1=L at hL ⊢;generalize (Ke right.Changes B).1=R at hR ⊢;generalize (Ke left.Changes B).2=fl;generalize (Ke right.Changes B).2=fr;have lB:=hB.len;have lL:=hL.len;have lR:=hR.len;obtain ⟨z,ez,z1,z2⟩:=Ordered_g (l:=B++L++R) (by rw [Av,Av];omega)
    rw [Gm (by simp;omega),Aa,Bo,Gm (by omega),Aa,Gm (by rw [Av];omega),Aa,ez,Aa]
    unfold Aq.j1;rw [ref_walk hB hL hR a2 a1 b2 b1 z2 z1,Aa];simp only;have lK:=K_len hB hL hR;have sK:=K_size hB hL hR;have lo:(Vo B L R).length≤72:=Cc (Dh _ _) lK;have ll:(O8 B L R).length≤72:=Cc (Dh _ _) lK;have lf:(tmFst B L R left right).length≤72:=Cc (Dh _ _) lK
    have hsz:∀ f∈O8 B L R,f.Path.size≤60:=by
     intro f hf;have hv:=((mem_late hB.srt hL.srt hR.srt).1 hf).1;by_cases hk:f.Path∈tmK B L R
     ·exact sK _ hk
     ·rw [not_K hB.srt hL.srt hR.srt hk] at hv;cases hv
    unfold Aq.j2;rw [Gm (by simp;omega),Aa,Bo,ref_late hR (by omega) (by omega) hsz a2 a1 b2 b1 (by omega),Aa]
    simp only;rw [show Wh R (Vo B L R)=Yi B L R from rfl,show (O8 B L R).filterMap (secO left right (Yi B L R))=tmSec B L R left right from rfl];have hfl:((O8 B L R).filter (fun x=>!Hm (Yi B L R) x.Path)).length≤72:=Cc (Kv _ _) ll;obtain ⟨w,ew,w1,w2⟩:=Ordered_g (l:=Vo B L R++(O8 B L R).filter (fun x=>!Hm (Yi B L R) x.Path)) (by rw [Av];omega)
    have hnd:((Vo B L R++(O8 B L R).filter (fun x=>!Hm (Yi B L R) x.Path)).map (·.Path)).Nodup:=by
     rw [Lx,List.nodup_append]
     have hs:∀ {l:Ai},Ng l→(l.map (·.Path)).Nodup:=by
      intro l h;unfold List.Nodup;rw [List.pairwise_map];exact h.imp fun h=>sLt_ne h
     refine ⟨hs (out_srt B L R),hs ((late_srtT B L R).sublist List.filter_sublist),fun a ha b hb e=>?_⟩;subst e;obtain ⟨f,hf,rfl⟩:=Hz.1 ha;obtain ⟨g,hg,e⟩:=Hz.1 hb;have h1:=late_no hB.srt hL.srt hR.srt g (G2.1 hg).1;rw [Q8.2 ⟨f,hf,e.symm⟩] at h1;cases h1
    have hw:w=tmFin B L R:=by
     refine res_eq (wsrt_srt w2 ((w1.map _).nodup_iff.2 hnd)) (fin_srt hB.srt hL.srt hR.srt) fun f=>?_;rw [w1.mem_iff,fin_mem,Bj,G2];simp
    have hlw:=w1.length_eq;rw [hw] at ew hlw;unfold Aq.j3 B7;rw [A5,ew];by_cases h24:(tmFin B L R).length > 24
    ·rw [Af (by omega),Af h24];rfl
    ·rw [Ae (by omega),Ae h24];rfl
   ·rw [Ae h2,Af h2];rfl
  ·rw [Ae h1,Af h1];rfl
 ·rw [Ae h0,Af h0]
theorem pairs_refl {l:Bp} (hl:l.length≤1000000):Gb l l=some true:=by
 unfold Gb
 rw [Ae (by simp),scan0 l (fun _ _=>(Option.none:Option Bool)) (fun k hk _=>by
  unfold Gb.l1;rw [A5,Af (by omega),Ch hk,Aa,Aa]
  simp only [Hk,Lz,G9];rw [Ae Ah,Df (by omega) (by omega),Aa];rfl) (by
  unfold Gb.l1;rw [A5,Ae (by omega)]),Aa]
 rw [V7.2 (fun _ _=>rfl)];rfl
theorem mgT_small (B:Ai) (left right:TreePatch):Ex (mgT B left right).1 (mgT B left right).1=some true∧(mgT B left right).2.1.length≤1000:=by
 unfold mgT;by_cases h0:(K0 B).Code=0
 ·rw [Ae (fun h=>h h0)];have hB:=(Od B).1 h0;by_cases h1:(Ke left.Changes B).2.Code=0
  ·rw [Ae (fun h=>h h1)];by_cases h2:(Ke right.Changes B).2.Code=0
   ·rw [Ae (fun h=>h h2)];obtain ⟨a1,a2,_,_,hL⟩:=T9 h1;obtain ⟨b1,b2,_,_,hR⟩:=T9 h2;generalize (Ke left.Changes B).1=L at hL ⊢;generalize (Ke right.Changes B).1=R at hR ⊢;have lK:=K_len hB hL hR;by_cases h24:(tmFin B L R).length > 24
    ·rw [Af h24];exact ⟨tree_nil,by simp⟩
    ·rw [Ae h24];refine ⟨tree_refl (fun f hf=>?_) (by omega),?_⟩
     ·have hv:(vF B L R f.Path).1=some f.Lines:=by
       rcases fin_mem.1 hf with hf | ⟨hf,_⟩
       ·exact ((mem_out hB.srt hL.srt hR.srt).1 hf).1
       ·exact ((mem_late hB.srt hL.srt hR.srt).1 hf).1
      have:=(vF_ok hB hL hR f.Path f.Lines hv).1;omega
     ·have lf:(tmFst B L R left right).length≤72:=Cc (Dh _ _) lK;have ll:(O8 B L R).length≤72:=Cc (Dh _ _) lK;have ls:(tmSec B L R left right).length≤72:=Cc (Dh _ _) ll;simp only [Av];omega
   ·rw [Af h2];exact ⟨tree_nil,by simp⟩
  ·rw [Af h1];exact ⟨tree_nil,by simp⟩
 ·rw [Af h0];exact ⟨tree_nil,by simp⟩
theorem tm_matches (base:FileTree) (left right:TreePatch):Kb base left right=some true:=by
 obtain ⟨B⟩:=base;obtain ⟨h1,h2⟩:=mgT_small B left right;unfold Kb;rw [impl_mgT,Aa,ref_mgT,Aa,h1,Aa,Af rfl,pairs_refl (by omega),Aa,Aa,Af rfl,Aa]
 simp only [Hk,Lz,Gi,Aa,followed_f]
end Go.Dc
