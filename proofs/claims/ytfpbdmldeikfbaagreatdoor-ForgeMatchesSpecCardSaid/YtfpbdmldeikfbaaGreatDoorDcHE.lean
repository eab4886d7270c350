import Derived.Test.YtfpbdmldeikfbaaGreatDoorDcJM
set_option linter.unusedSimpArgs false
set_option linter.unusedVariables false
set_option maxRecDepth 4000
noncomputable section
namespace Go.Dc
open Go
def dg (l:List UInt8):Int:=((H0 l).map (·.1)).getD 0
def pr (a b:Int):Int:=((Gp a b).map (·.1)).getD 0
theorem dg_ok {l:List UInt8} (hl:l.length≤4096):H0 l=some (dg l,⟨0,0⟩)∧Dig (dg l)∧Cu l=some (dg l):=by
 obtain ⟨r,h1,h2⟩:=of_ok hl;have e:dg l=r:=by unfold dg;rw [h1];rfl
 rw [e];exact ⟨h1,h2,DigestOf_f hl h1⟩
theorem pr_ok {a b:Int} (ha:Dig a) (hb:Dig b):Gp a b=some (pr a b,⟨0,0⟩)∧N1 a b=some (pr a b)∧Dig (pr a b)∧Dy a b=some (pr a b):=by
 obtain ⟨r,h1,h2⟩:=Pair_ok ha hb;have e:pr a b=r:=by unfold pr;rw [h1];rfl
 rw [e];refine ⟨h1,?_,h2,DigestPair_f ha hb h1⟩;rw [Pair_pair ha hb] at h1;obtain ⟨r',h3,_⟩:=pair_ok ha hb;rw [h3,Aa] at h1;cases h1;exact h3
theorem Lj {x:Int} (h0:0≤x) (h1:x≤1000000000000):Dig x:=⟨h0,by omega⟩
def ds (l:Ab):Int:=l.foldl (fun h s=>pr h (dg s.data.toList)) 2
theorem line_len {s:ByteArray} (h:s.size≤4096):s.data.toList.length≤4096:=by rw [Array.length_toList];exact h
theorem dfold_dig:∀ (l:Ab) (x:Int),Dig x→(∀ s∈l,s.size≤4096)→Dig (l.foldl (fun h s=>pr h (dg s.data.toList)) x)
 | [],_,h,_=>h
 | s::l,x,h,hl=>dfold_dig l _ (pr_ok h (dg_ok (line_len (hl s (by simp)))).2.1).2.2.1 fun t ht=>hl t (by simp [ht])
theorem ds_ok {m:Ab} (h:Kb m):Kj m=some (ds m,⟨0,0⟩)∧Dig (ds m)∧C8 m=some (ds m,⟨0,0⟩)∧Lo m=some (ds m):=by
 have hl:=h.1;have hs:∀ s∈m,s.size≤4096:=fun s hs=>Bx (h.2 s hs).1 (by decide)
 have hd:Dig (ds m):=dfold_dig m 2 (Lj (by decide) (by decide)) hs
 have k1:Kj m=some (ds m,⟨0,0⟩):=by
  unfold Kj;rw [Al,Ac (by omega)]
  obtain ⟨r,hr,rfl⟩:=La (f:=fun s:Int×Int=>Kj.l1 m s.1 s.2) m.length (fun k x=>x=(m.take k).foldl (fun h s=>pr h (dg s.data.toList)) 2) (fun r=>r=.inr (ds m))
   (by
    rintro k x hk rfl;have hx:Dig ((m.take k).foldl (fun h s=>pr h (dg s.data.toList)) 2):=dfold_dig _ 2 (Lj (by decide) (by decide)) fun s hs'=>hs s (C4 hs')
    refine ⟨_,?_,rfl⟩;rw [As hk,Km];generalize (m.take k).foldl (fun h s=>pr h (dg s.data.toList)) 2=x at hx ⊢;obtain ⟨d1,d2,_⟩:=dg_ok (line_len (hs _ (Ar hk)));unfold Kj.l1;rw [Al,Ad (by omega),Bg hk,Aa,d1,Aa]
    simp only [C3,Gk,Ct,A6,Cg];rw [(pr_ok hx d2).2.1,Aa,Br (by omega) (by omega),Aa];rfl)
   (by
    rintro x rfl;unfold Kj.l1;rw [Al,Ac (by omega),Bw]
    exact ⟨_,rfl,rfl⟩) 2 rfl
  rw [hr,Aa]
 refine ⟨k1,hd,?_,by unfold Lo;rw [k1,Aa]⟩
 unfold C8;rw [Al,Ac (by omega)]
 obtain ⟨r,hr,rfl⟩:=La (f:=fun s:Int×Int=>C8.l1 m s.1 s.2) m.length (fun k x=>x=(m.take k).foldl (fun h s=>pr h (dg s.data.toList)) 2) (fun r=>r=.inr (ds m))
  (by
   rintro k x hk rfl;have hx:Dig ((m.take k).foldl (fun h s=>pr h (dg s.data.toList)) 2):=dfold_dig _ 2 (Lj (by decide) (by decide)) fun s hs'=>hs s (C4 hs')
   refine ⟨_,?_,rfl⟩;rw [As hk,Km];generalize (m.take k).foldl (fun h s=>pr h (dg s.data.toList)) 2=x at hx ⊢;have hz:=hs _ (Ar hk);obtain ⟨_,d2,d3⟩:=dg_ok (line_len hz);unfold C8.l1;rw [Al,Ad (by omega),Bg hk,Aa,Al,Ac (by omega),Aa,d3,Aa,(pr_ok hx d2).2.2.2,Aa,Br (by omega) (by omega),Aa];rfl)
  (by
   rintro x rfl;unfold C8.l1;rw [Al,Ac (by omega),Bw]
   exact ⟨_,rfl,rfl⟩) 2 rfl
 rw [hr,Aa]
theorem pfold_dig:∀ (l:List Int) (x:Int),Dig x→(∀ s∈l,Dig s)→Dig (l.foldl pr x)
 | [],_,h,_=>h
 | s::l,x,h,hl=>pfold_dig l _ (pr_ok h (hl s (by simp))).2.2.1 fun t ht=>hl t (by simp [ht])
theorem combine_f {h:Int} {l:List Int} (hh:Dig h) (hl:∀ s∈l,Dig s) (hn:l.length≤1000):Ky h l=some (l.foldl pr h):=by
 unfold Ky
 obtain ⟨r,hr,rfl⟩:=La (f:=fun s:Int×Int=>Ky.l1 l s.1 s.2) l.length (fun k x=>x=(l.take k).foldl pr h) (fun r=>r=l.foldl pr h)
  (by
   rintro k x hk rfl;have hx:=pfold_dig (l.take k) h hh fun s hs=>hl s (C4 hs);refine ⟨_,?_,rfl⟩;rw [As hk,Km];generalize (l.take k).foldl pr h=x at hx ⊢;unfold Ky.l1;rw [Al,Ad (by omega),Bg hk,Aa,(pr_ok hx (hl _ (Ar hk))).1,Aa,Br (by omega) (by omega),Aa];rfl)
  (by
   rintro x rfl;unfold Ky.l1;rw [Al,Ac (by omega),Bw]
   exact ⟨_,rfl,rfl⟩) h rfl
 rw [hr,Aa]
def hd (x:Int) (h:Hunk):Int:=[h.At,ds h.Old,ds h.New].foldl pr x
def cd0 (x:Int) (c:TreeChange):Int:=[c.Kind,dg c.Path.data.toList,dg c.To.data.toList,ds c.Lines].foldl pr x
def cd (x:Int) (c:TreeChange):Int:=c.Patch.Hunks.foldl hd (cd0 x c)
def pd (p:Ap):Int:=p.foldl cd 3
structure HOk (h:Hunk):Prop where
 at0:Dig h.At
 old:Kb h.Old
 new:Kb h.New
theorem hunks_ok {c:TreeChange} (hc:OkCh c):c.Patch.Hunks.length≤130∧∀ h∈c.Patch.Hunks,HOk h:=by
 obtain ⟨h1,h2⟩:=(On _).1 hc.patch;refine ⟨h1,fun x hx=>?_⟩;obtain ⟨a1,a2,a3,a4,_⟩:=good_at h2 (by omega) x hx
 exact ⟨Lj (by omega) (by omega),(Hr _).2 ((Er _).2 a3),(Hr _).2 ((Er _).2 a4)⟩
theorem hd_list {h:Hunk} (hh:HOk h):∀ s∈[h.At,ds h.Old,ds h.New],Dig s:=by
 intro s hs;simp only [Bf,List.not_mem_nil,or_false] at hs;rcases hs with rfl | rfl | rfl
 ·exact hh.at0
 ·exact (ds_ok hh.old).2.1
 ·exact (ds_ok hh.new).2.1
theorem hd_dig {x:Int} {h:Hunk} (hx:Dig x) (hh:HOk h):Dig (hd x h):=pfold_dig _ _ hx (hd_list hh)
theorem hds_dig:∀ (l:A7) (x:Int),Dig x→(∀ h∈l,HOk h)→Dig (l.foldl hd x)
 | [],_,h,_=>h
 | s::l,x,h,hl=>hds_dig l _ (hd_dig h (hl s (by simp))) fun t ht=>hl t (by simp [ht])
theorem path_sz {p:ByteArray} (h:Kq p=true):p.size≤60:=by
 unfold Kq at h;rw [Cv] at h;exact Lr h.1
theorem ch_len {c:TreeChange} (hc:OkCh c):c.Path.data.toList.length≤4096∧c.To.data.toList.length≤4096:=by
 refine ⟨line_len (Bx (path_sz hc.path) (by decide)),?_⟩
 by_cases h3:c.Kind=3
 ·exact line_len (Bx (path_sz (hc.to h3).1) (by decide))
 ·rw [hc.noTo h3];decide
theorem cd0_list {c:TreeChange} (hc:OkCh c):∀ s∈[c.Kind,dg c.Path.data.toList,dg c.To.data.toList,ds c.Lines],Dig s:=by
 intro s hs;have hk:=hc.kind;simp only [Bf,List.not_mem_nil,or_false] at hs;rcases hs with rfl | rfl | rfl | rfl
 ·exact Lj (by omega) (by omega)
 ·exact (dg_ok (ch_len hc).1).2.1
 ·exact (dg_ok (ch_len hc).2).2.1
 ·exact (ds_ok ((Hr _).2 ((Er _).2 hc.lines))).2.1
theorem cd0_dig {x:Int} {c:TreeChange} (hx:Dig x) (hc:OkCh c):Dig (cd0 x c):=pfold_dig _ _ hx (cd0_list hc)
theorem cd_dig {x:Int} {c:TreeChange} (hx:Dig x) (hc:OkCh c):Dig (cd x c):=hds_dig _ _ (cd0_dig hx hc) (hunks_ok hc).2
theorem cds_dig:∀ (l:Ap) (x:Int),Dig x→(∀ h∈l,OkCh h)→Dig (l.foldl cd x)
 | [],_,h,_=>h
 | s::l,x,h,hl=>cds_dig l _ (cd_dig h (hl s (by simp))) fun t ht=>hl t (by simp [ht])
theorem dig3:Dig 3:=Lj (by decide) (by decide)
theorem pd_dig {p:Ap} (hp:∀ c∈p,OkCh c):Dig (pd p):=cds_dig p 3 dig3 hp
theorem hloop_f {c:TreeChange} (hc:OkCh c) {x:Int} (hx:Dig x):C7 (fun s=>Dh.l2 c s.1 s.2) (0,x)=some (c.Patch.Hunks.foldl hd x):=by
 obtain ⟨hn,hh⟩:=hunks_ok hc
 obtain ⟨r,hr,rfl⟩:=La (f:=fun s:Int×Int=>Dh.l2 c s.1 s.2) c.Patch.Hunks.length (fun k y=>y=(c.Patch.Hunks.take k).foldl hd x) (fun r=>r=c.Patch.Hunks.foldl hd x)
  (by
   rintro k y hk rfl;have hy:=hds_dig (c.Patch.Hunks.take k) x hx fun s hs=>hh s (C4 hs);refine ⟨_,?_,rfl⟩;rw [As hk,Km];generalize (c.Patch.Hunks.take k).foldl hd x=y at hy ⊢;have ho:=hh _ (Ar hk);unfold Dh.l2;rw [Al,Ad (by omega),Bg hk,Aa,(ds_ok ho.old).2.2.2,Aa,(ds_ok ho.new).2.2.2,Aa,combine_f hy (hd_list ho) (by simp),Aa,Br (by omega) (by omega),Aa];rfl)
  (by
   rintro y rfl;unfold Dh.l2;rw [Al,Ac (by omega),Bw]
   exact ⟨_,rfl,rfl⟩) x rfl
 exact hr
theorem s1_f {s:ByteArray} (h:s.data.toList.length≤4096):Ml s=some (dg s.data.toList):=by
 unfold Ml;rw [(dg_ok h).1,Aa]
def pdT (p:Ap):Int×Fault:=if (pcF p).Code≠0 then (0,pcF p) else (pd p,⟨0,0⟩)
theorem PatchDigest_f (p:TreePatch):Dh p=some (pdT p.Changes):=by
 obtain ⟨p⟩:=p;unfold Dh pdT;rw [VPatch_f,Aa];simp only;rcases pcF_ok p with h | h
 ·obtain ⟨hl,hp⟩:=(Vu p).1 (by rw [h])
  rw [h];simp only [C3,Gk,Ct,A6,Cg,ne_eq,not_true_eq_false]
  obtain ⟨r,hr,rfl⟩:=La (f:=fun s:Int×Int=>Dh.l1 ⟨p⟩ s.1 s.2) p.length (fun k y=>y=(p.take k).foldl cd 3) (fun r=>r=pd p)
   (by
    rintro k y hk rfl;have hy:=cds_dig (p.take k) 3 dig3 fun s hs=>hp s (C4 hs);refine ⟨_,?_,rfl⟩;rw [As hk,Km];generalize (p.take k).foldl cd 3=y at hy ⊢;have hc:=hp _ (Ar hk);have hcl:=(Hr _).2 ((Er _).2 hc.lines);unfold Dh.l1;simp only;rw [Al,Ad (by omega),Bg hk,Aa,s1_f (ch_len hc).1,Aa,s1_f (ch_len hc).2,Aa,(ds_ok hcl).2.2.2,Aa,combine_f hy (cd0_list hc) (by simp),Aa]
    rw [hloop_f hc (pfold_dig _ _ hy (cd0_list hc)),Aa];unfold Dh.j3 Dh.j2;rw [Br (by omega) (by omega),Aa];rfl)
   (by
    rintro y rfl;unfold Dh.l1;simp only;rw [Al,Ac (by omega),Bw]
    exact ⟨_,rfl,rfl⟩) 3 rfl
  rw [hr,Aa]
 ·rw [Ad h,Ad (Om.2 fun h2=>h h2.1)]
theorem rhloop_f {c:TreeChange} (hc:OkCh c) {x:Int} (hx:Dig x):C7 (fun s=>Bi.l2 c s.1 s.2) (0,x)=some (c.Patch.Hunks.foldl hd x):=by
 obtain ⟨hn,hh⟩:=hunks_ok hc
 obtain ⟨r,hr,rfl⟩:=La (f:=fun s:Int×Int=>Bi.l2 c s.1 s.2) c.Patch.Hunks.length (fun k y=>y=(c.Patch.Hunks.take k).foldl hd x) (fun r=>r=c.Patch.Hunks.foldl hd x)
  (by
   rintro k y hk rfl;have hy:=hds_dig (c.Patch.Hunks.take k) x hx fun s hs=>hh s (C4 hs);refine ⟨_,?_,rfl⟩;rw [As hk,Km];generalize (c.Patch.Hunks.take k).foldl hd x=y at hy ⊢;have ho:=hh _ (Ar hk);have d1:=ds_ok ho.old;have d2:=ds_ok ho.new;have p1:=pr_ok hy ho.at0;have p2:=pr_ok p1.2.2.1 d1.2.1;have p3:=pr_ok p2.2.2.1 d2.2.1;unfold Bi.l2;rw [Al,Ad (by omega),Bg hk,Aa,d1.2.2.1,Aa,d2.2.2.1,Aa,p1.2.2.2,Aa,p2.2.2.2,Aa,p3.2.2.2,Aa,Br (by omega) (by omega),Aa];rfl)
  (by
   rintro y rfl;unfold Bi.l2;rw [Al,Ac (by omega),Bw]
   exact ⟨_,rfl,rfl⟩) x rfl
 exact hr
theorem RPatchDigest_f {p:Ap} (h:(pcF p).Code=0):Bi ⟨p⟩=some (pd p):=by
 obtain ⟨hl,hp⟩:=(Vu p).1 h;unfold Bi
 obtain ⟨r,hr,rfl⟩:=La (f:=fun s:Int×Int=>Bi.l1 ⟨p⟩ s.1 s.2) p.length (fun k y=>y=(p.take k).foldl cd 3) (fun r=>r=pd p)
  (by
   rintro k y hk rfl;have hy:=cds_dig (p.take k) 3 dig3 fun s hs=>hp s (C4 hs);refine ⟨_,?_,rfl⟩;rw [As hk,Km];generalize (p.take k).foldl cd 3=y at hy ⊢;have hc:=hp _ (Ar hk);have hcl:=ds_ok ((Hr _).2 ((Er _).2 hc.lines));have hq:=hc.kind;have p1:=pr_ok hy (Lj (x:=p[k].Kind) (by omega) (by omega))
   have g1:=dg_ok (ch_len hc).1;have g2:=dg_ok (ch_len hc).2;have p2:=pr_ok p1.2.2.1 g1.2.1;have p3:=pr_ok p2.2.2.1 g2.2.1;have p4:=pr_ok p3.2.2.1 hcl.2.1;unfold Bi.l1;simp only;rw [Al,Ad (by omega),Bg hk,Aa,hcl.2.2.1,Aa,p1.2.2.2,Aa]
   unfold Bi.j3;rw [g1.2.2,Aa,p2.2.2.2,Aa,g2.2.2,Aa,p3.2.2.2,Aa,p4.2.2.2,Aa,rhloop_f hc p4.2.2.1,Aa];unfold Bi.j4 Bi.j2;rw [Br (by omega) (by omega),Aa];rfl)
  (by
   rintro y rfl;unfold Bi.l1;simp only;rw [Al,Ac (by omega),Bw]
   exact ⟨_,rfl,rfl⟩) 3 rfl
 rw [hr,Aa]
def N0 (k:Int):Prop:=1≤k∧k≤1000000000
instance (k:Int):Decidable (N0 k):=inferInstanceAs (Decidable (_∧_))
theorem isKey_f (k:Int):O7 k=some (decide (N0 k)):=by
 unfold O7 N0;rw [Al];by_cases h:k ≥ 1
 ·rw [Ad h,Aa];exact congrArg some (Ch.2 ⟨fun h2=>⟨h,h2⟩,fun h2=>h2.2⟩)
 ·rw [Ac h,Aa];exact congrArg some (Af fun h2=>h h2.1).symm
theorem isDig_f {a:Int} (h:Dig a):N4 a=some true:=by
 obtain ⟨h1,h2⟩:=h;unfold N4;rw [Al,Ad h1,Aa,Ag h2]
def sg (key:Int) (d:List UInt8):Int:=pr key (dg d)
theorem sign_f {key:Int} {d:List UInt8} (hk:N0 key) (hd:d.length≤4096):Uw key d=some (sg key d,⟨0,0⟩)∧Dig (sg key d):=by
 obtain ⟨d1,d2,_⟩:=dg_ok hd;have p:=pr_ok (Lj (x:=key) (by have:=hk.1;omega) (by have:=hk.2;omega)) d2
 refine ⟨?_,p.2.2.1⟩;unfold Uw;rw [isKey_f,Aa,Ag hk,Ac (by decide),d1,Aa]
 simp only [C3,Gk,Ct,A6,Cg];rw [p.1,Aa];rfl
theorem verify_f {key s:Int} {d:List UInt8} (hk:N0 key) (hd:d.length≤4096) (hs:Dig s):Uo key d s=some (decide (sg key d=s),⟨0,0⟩):=by
 unfold Uo;rw [(sign_f hk hd).1,Aa];simp only [C3,Gk,Ct,A6,Cg];rw [isDig_f hs,Aa,Ac (by decide)]
def byl (n:Int) (j:Nat):List UInt8:=(List.range j).map fun i=>u8w ((n / (72057594037927936 / 256 ^ i)) % 256)
def by8 (n:Int):List UInt8:=byl n 8
theorem byl_len (n:Int) (j:Nat):(byl n j).length=j:=by simp [byl]
theorem byl_succ (n:Int) (j:Nat):byl n (j+1)=byl n j++[u8w ((n / (72057594037927936 / 256 ^ j)) % 256)]:=by simp [byl,List.range_succ]
theorem by8_len (n:Int):(by8 n).length=8:=byl_len n 8
theorem u8m (p:Int):u8w (p % 256)=u8w p:=by
 unfold u8w;congr 2;simp only [IntKind.wrap,IntKind.bits,IntKind.signed];simp
theorem big_f {n:Int} (h:Dig n):My n=some (by8 n):=by
 obtain ⟨h0,h1⟩:=h;unfold My
 obtain ⟨r,hr,rfl⟩:=U5 (m:=fun s:Int×List UInt8=>My.l1 n s.1 s.2) (fun s=>∃ j:Nat,j≤8∧s.1=56 - 8 * (j:Int)∧s.2=byl n j) (fun s=>(s.1+8).toNat) (fun r=>r=by8 n) (by
  rintro ⟨x,l⟩ ⟨j,hj,hx,hl⟩;simp only at hx hl ⊢;subst hx hl;unfold My.l1;rw [Al];by_cases h8:j=8
  ·right;rw [Ac (by omega),h8]
   exact ⟨_,rfl,rfl⟩
  ·left
   have hz:∃ z,shr? .i64 n (56 - 8 * (j:Int))=some z∧u8w z=u8w ((n / (72057594037927936 / 256 ^ j)) % 256):=by
    unfold shr?;rw [Ac (by omega)]
    refine ⟨_,rfl,?_⟩;rw [u8m,Int.fdiv_eq_ediv_of_nonneg _ (Int.le_of_lt (Int.pow_pos (by decide)))]
    have:j=0∨j=1∨j=2∨j=3∨j=4∨j=5∨j=6∨j=7:=by omega
    rcases this with rfl | rfl | rfl | rfl | rfl | rfl | rfl | rfl <;> exact congrArg (fun d=>u8w (n / d)) (by decide +kernel)
   obtain ⟨z,hz,he⟩:=hz;rw [Ad (by omega),hz,Aa,Aa,Dp (by rw [Ak,byl_len];omega),Aa,Br (by omega) (by omega),Aa,he]
   exact ⟨_,rfl,⟨j+1,by omega,by simp only;omega,(byl_succ n j).symm⟩,by simp only;omega⟩) (56,[]) ⟨0,by omega,by simp,rfl⟩
 rw [hr,Aa]
def msb (l:List Int):List UInt8:=l.flatMap by8
theorem msb_len (l:List Int):(msb l).length=8 * l.length:=by
 induction l with
 | nil=>rfl
 | cons x l ih=>rw [msb,Nj,Aj,by8_len,show (l.flatMap by8)=msb l from rfl,ih,Eb];omega
theorem msb_take {l:List Int} {k:Nat} (hk:k < l.length):msb (l.take (k+1))=msb (l.take k)++by8 l[k]:=by
 unfold msb;rw [As hk,List.flatMap_append];simp
theorem message_f {l:List Int} (hl:l.length≤64) (hd:∀ x∈l,Dig x):Kh l=some (msb l,⟨0,0⟩):=by
 unfold Kh;rw [Al,Ac (by omega)]
 obtain ⟨r,hr,rfl⟩:=La (f:=fun s:Int×List UInt8=>Kh.l1 l s.1 s.2) l.length (fun k y=>y=msb (l.take k)) (fun r=>r=.inr (msb l))
  (by
   rintro k y hk rfl;refine ⟨_,?_,(msb_take hk).symm⟩;have hh:=msb_len (l.take k);rw [Bl] at hh;unfold Kh.l1;simp only;rw [Al,Ad (by omega),Bg hk,Aa,isDig_f (hd _ (Ar hk)),Aa,Ac (by decide),big_f (hd _ (Ar hk)),Aa,Dp (by rw [by8_len];omega),Aa,Br (by omega) (by omega),Aa]
   rfl)
  (by
   rintro y rfl;unfold Kh.l1;rw [Al,Ac (by omega),Bw]
   exact ⟨_,rfl,rfl⟩) [] rfl
 rw [hr,Aa]
def md (m:Message_forge):List UInt8:=msb [m.user,m.number,m.base,(pdT m.patch.Changes).1]
structure MsgOk (m:Message_forge):Prop where
 user:Dig m.user
 number:Dig m.number
 base:Dig m.base
theorem pdT_dig (p:Ap):Dig (pdT p).1:=by
 unfold pdT;split
 ·exact (Lj (by decide) (by decide):Dig 0)
 ·next h=>exact pd_dig ((Vu p).1 (by simpa using h)).2
theorem md_digs {m:Message_forge} (h:MsgOk m):∀ x∈[m.user,m.number,m.base,(pdT m.patch.Changes).1],Dig x:=by
 intro x hx;simp only [Bf,List.not_mem_nil,or_false] at hx;rcases hx with rfl | rfl | rfl | rfl
 ·exact h.user
 ·exact h.number
 ·exact h.base
 ·exact pdT_dig _
theorem md_f {m:Message_forge} (h:MsgOk m):Lz m=some (md m)∧(md m).length=32:=by
 refine ⟨?_,by rw [md,msb_len];rfl⟩
 unfold Lz;rw [PatchDigest_f,Aa,message_f (by simp) (md_digs h),Aa]
 rfl
theorem signed_l2 {m:Letter_changeforgeref2} {p a:Int} {k:Nat} {b:List UInt8} (ha:at? ([m.User,m.Number,m.Base,p]:List Int) (k:Int)=some a) (hd:Dig a) (hb:b.length≤1000) :
  C7 (fun s:Int×Int×List UInt8=>Cc.l2 m p (k:Int) s.1 s.2.1 s.2.2) (0,72057594037927936,b)=some (b++by8 a):=by
 obtain ⟨h0,h1⟩:=hd
 obtain ⟨r,hr,rfl⟩:=La (f:=fun s:Int×(Int×List UInt8)=>Cc.l2 m p (k:Int) s.1 s.2.1 s.2.2) 8 (fun j y=>y=(72057594037927936 / 256 ^ j,b++byl a j)) (fun r=>r=b++by8 a)
  (by
   rintro j y hj rfl;refine ⟨_,?_,rfl⟩
   have hz:(72057594037927936 / 256 ^ j:Int) > 0∧(72057594037927936 / 256 ^ j:Int)≤72057594037927936∧(72057594037927936 / 256 ^ j:Int) / 256=72057594037927936 / 256 ^ (j+1):=by
    have:j=0∨j=1∨j=2∨j=3∨j=4∨j=5∨j=6∨j=7:=by omega
    rcases this with rfl | rfl | rfl | rfl | rfl | rfl | rfl | rfl <;> decide +kernel
   obtain ⟨z1,z2,z3⟩:=hz;rw [byl_succ,← z3];generalize (72057594037927936 / 256 ^ j:Int)=D at z1 z2 ⊢
   have q1:quo? .i64 a D=some (a / D):=by
    unfold quo?;have:=Int.ediv_le_self D h0;have:=Int.ediv_nonneg h0 (by omega:0≤D)
    rw [Ac (by omega),Int.tdiv_eq_ediv_of_nonneg h0,Br (by omega) (by omega)]
   have q2:quo? .i64 D 256=some (D / 256):=by
    unfold quo?;rw [Ac (by decide),Int.tdiv_eq_ediv_of_nonneg (by omega),Br (by omega) (by omega)]
   unfold Cc.l2;simp only;rw [Al,Ad (by omega),ha,Aa,q1,Aa,Wd (Int.ediv_nonneg h0 (by omega)) (by decide),Aa,Aa,Dp (by rw [Aj,byl_len,Ak];omega),Aa,q2,Aa,Br (by omega) (by omega),Aa,Am]
   rfl)
  (by
   rintro y rfl;unfold Cc.l2;simp only;rw [Al,Ac (by omega)]
   exact ⟨_,rfl,rfl⟩) (72057594037927936,b) (by simp [byl])
 exact hr
theorem signed_f {key:Int} {m:Letter_changeforgeref2} (hk:Dig key) (hp:(pcF m.Patch.Changes).Code=0) (h1:Dig m.User) (h2:Dig m.Number) (h3:Dig m.Base) :
  Cc key m=some (sg key (msb [m.User,m.Number,m.Base,(pdT m.Patch.Changes).1])):=by
 have hpd:(pdT m.Patch.Changes).1=pd m.Patch.Changes:=by unfold pdT;rw [Ac (by omega)]
 have hd:=md_digs (m:=⟨m.User,m.Number,m.Base,0,m.Patch⟩) ⟨h1,h2,h3⟩;simp only at hd;unfold Cc;have e1:Bi m.Patch=some (pd m.Patch.Changes):=RPatchDigest_f (p:=m.Patch.Changes) hp;rw [e1,Aa,hpd];rw [hpd] at hd;generalize pd m.Patch.Changes=p at hd ⊢
 obtain ⟨r,hr,rfl⟩:=La (f:=fun s:Int×List UInt8=>Cc.l1 m p s.1 s.2) 4 (fun k y=>y=msb ([m.User,m.Number,m.Base,p].take k)) (fun r=>r=msb [m.User,m.Number,m.Base,p])
  (by
   rintro k y hk rfl;have hk':k < [m.User,m.Number,m.Base,p].length:=hk;refine ⟨_,?_,(msb_take hk').symm⟩;have hh:=msb_len ([m.User,m.Number,m.Base,p].take k);rw [Bl] at hh;unfold Cc.l1;simp only;rw [Al,Ad (by simp;omega),signed_l2 (Bg hk') (hd _ (Ar hk')) (by omega),Aa]
   unfold Cc.j3 Cc.j2;rw [Br (by omega) (by omega),Aa]
   rfl)
  (by
   rintro y rfl;unfold Cc.l1;rw [Al,Ac (by simp)]
   exact ⟨_,rfl,rfl⟩) [] rfl
 rw [hr,Aa];have hl:=msb_len [m.User,m.Number,m.Base,p];obtain ⟨g1,g2,g3⟩:=dg_ok (l:=msb [m.User,m.Number,m.Base,p]) (by rw [hl];show 32≤4096;omega)
 unfold Cc.j1;rw [g3,Aa,(pr_ok hk g2).2.2.2,Aa];rfl
end Go.Dc
set_option linter.unusedSimpArgs false
set_option linter.unusedVariables false
set_option maxRecDepth 4000
namespace Go.Dc
open Go
def Net (e:ForgeEvent):Prop:=e.Kind=4∨e.Kind=5∨e.Kind=6∨e.Kind=7
instance (e:ForgeEvent):Decidable (Net e):=inferInstanceAs (Decidable (_∨_))
def evD (n:Int) (e:ForgeEvent):Int:=if e.User < 0∨e.User ≥ n∨(e.Kind=3∧¬ N0 e.Key) then 3 else if e.Kind=2 then (pcF e.Patch.Changes).Code else 0
def evN (e:ForgeEvent):Int:=if e.N < 0∨e.N > 1000000000 then 3 else 0
def evC (n:Int) (e:ForgeEvent):Int :=
 if Net e then evN e
 else if e.Kind=1∨e.Kind=2∨e.Kind=3∨e.Kind=8 then
  evD n e
 else 4
theorem ce2 (e:ForgeEvent) (n:Int) (b:Bool):Eu.j2 e n b=some (if b=true then evD n e else 4):=by
 unfold Eu.j2 evD;cases b
 ·rw [Ac Ae,Ac Ae]
 rw [Ad rfl,Ad rfl];simp only [Al,isKey_f,VPatch_f,Aa];by_cases h1:e.User < 0
 ·rw [Ad h1,Aa,Ad rfl,Aa,Ad rfl,Ad (.inl h1)]
 rw [Ac h1,Aa];simp only [Al];by_cases h2:e.User ≥ n
 ·rw [Ad h2,Aa,Ad rfl,Ad (.inr (.inl h2))]
 rw [Ac h2];by_cases h3:e.Kind=3
 ·rw [Ad h3,Aa,Aa];by_cases h4:N0 e.Key
  ·have hP:¬ (e.User < 0∨e.User ≥ n∨(e.Kind=3∧¬ N0 e.Key)):=by rintro (h | h | h);exact h1 h;exact h2 h;exact h.2 h4
   rw [Ag h4,Ac (by decide),Ac hP]
   split <;> rfl
  ·rw [Af h4,Ad (by decide),Ad (.inr (.inr ⟨h3,h4⟩))]
 ·have hP:¬ (e.User < 0∨e.User ≥ n∨(e.Kind=3∧¬ N0 e.Key)):=by rintro (h | h | h);exact h1 h;exact h2 h;exact h3 h.1
  rw [Ac h3,Aa,Aa,Ac Ae,Ac hP];split <;> rfl
theorem checkEvent_f (e:ForgeEvent) (n:Int):Eu e n=some (evC n e):=by
 have j1t:Eu.j1 e n true=some (evN e):=by
  unfold Eu.j1 evN;rw [Ad rfl];by_cases h1:e.N < 0
  ·rw [Ag h1,Ad rfl,Aa,Ad rfl,Ad (.inl h1)]
  ·rw [Af h1,Ac Ae,Aa,Al];by_cases h2:e.N > 1000000000
   ·rw [Ad h2,Ad (.inr h2)]
   ·rw [Ac h2,Ac (by omega)]
 have j1f:Eu.j1 e n false=some (if e.Kind=1∨e.Kind=2∨e.Kind=3∨e.Kind=8 then
  evD n e
 else 4):=by
  unfold Eu.j1;rw [Ac Ae,Al];by_cases h1:e.Kind=1
  ·rw [Ad h1,ce2,Ad (Ag h1),Ad (.inl h1)]
  rw [Ac h1,Al];by_cases h2:e.Kind=2
  ·rw [Ad h2,ce2,Ad (Ag h2),Ad (.inr (.inl h2))]
  rw [Ac h2,Al];by_cases h3:e.Kind=3
  ·rw [Ad h3,ce2,Ad (Ag h3),Ad (.inr (.inr (.inl h3)))]
  rw [Ac h3,ce2,Al];by_cases h8:e.Kind=8
  ·rw [Ad h8,Ad (.inr (.inr (.inr h8)))]
  ·rw [Ac h8,Ac (by omega)]
 unfold Eu evC;rw [Al];by_cases h4:e.Kind=4
 ·rw [Ad h4,Ag h4,j1t,Ad (show Net e from .inl h4)]
 rw [Ac h4,Al];by_cases h5:e.Kind=5
 ·rw [Ad h5,Ag h5,j1t,Ad (show Net e from .inr (.inl h5))]
 rw [Ac h5,Al];by_cases h6:e.Kind=6
 ·rw [Ad h6,Ag h6,j1t,Ad (show Net e from .inr (.inr (.inl h6)))]
 rw [Ac h6];by_cases h7:e.Kind=7
 ·rw [Ag h7,j1t,Ad (show Net e from .inr (.inr (.inr h7)))]
 ·rw [Af h7,j1f,Ac (show ¬ Net e by rintro (h | h | h | h) <;> contradiction)]
def evG (n:Int) (k:Nat) (e:ForgeEvent):Option Fault:=if evC n e≠0 then some ⟨evC n e,k⟩ else Option.none
def kyG (k:Nat) (x:Int):Option Fault:=if N0 x then Option.none else some ⟨3,-3 - (k:Int)⟩
def fvF (keys:List Int) (events:Cx):Fault :=
 if keys.length=0∨keys.length > 4 then ⟨9,-2⟩ else match K1 kyG 0 keys with
 | some f=>f
 | Option.none=>if events.length > 40 then ⟨2,-1⟩ else (K1 (evG keys.length) 0 events).getD ⟨0,0⟩
theorem Aaq (keys:List Int) (events:Cx):E9 keys events=some (fvF keys events):=by
 unfold E9 fvF
 have e1:(if decide ((keys.length:Int)=0)=true then some true else some (decide ((keys.length:Int) > 4)))=some (decide (keys.length=0∨keys.length > 4)):=by
  rw [Al];split
  ·rw [Ag (by omega)]
  ·exact congrArg some (Ch.2 (by omega))
 rw [e1,Aa,Al];by_cases hk:keys.length=0∨keys.length > 4
 ·rw [Ad hk,Ad hk]
 rw [Ac hk,Ac hk,Xh keys kyG ?_ ?_,Aa]
 ·cases hs:K1 kyG 0 keys with
  | some f=>rfl
  | none =>
   show E9.j1 keys events=_;unfold E9.j1;simp only;rw [Al];by_cases h40:events.length > 40
   ·rw [Ad (by omega),Ad h40]
   rw [Ac (by omega),Ac h40,Xh events (evG keys.length) ?_ ?_,Aa]
   ·cases K1 (evG keys.length) 0 events <;> rfl
   ·intro k hk _;unfold E9.l1 evG;rw [Al,Ad (by omega),Bg hk,Aa,checkEvent_f,Aa]
    by_cases hc:evC keys.length events[k]=0
    ·rw [Ag hc,Ac (by decide),Ac (fun hn=>hn hc),Br (by omega) (by omega)];rfl
    ·rw [Af hc,Ad (show (!false)=true from rfl),Ad hc]
   ·unfold E9.l1;rw [Al,Ac (by omega)]
 ·intro k hk2 _;unfold E9.l2 kyG;rw [Al,Ad (by omega),Bg hk2,Aa,isKey_f,Aa]
  by_cases hc:N0 keys[k]
  ·rw [Ag hc,Ac (by decide),Ad hc,Br (by omega) (by omega)];rfl
  ·rw [Af hc,Ad (show (!false)=true from rfl),Ac hc,Br (by omega) (by omega)];rfl
 ·unfold E9.l2;rw [Al,Ac (by omega)]
theorem fvF_ok (keys:List Int) (events:Cx):fvF keys events=⟨0,0⟩∨(fvF keys events).Code≠0:=by
 unfold fvF;split
 ·right;decide
 ·cases hs:K1 kyG 0 keys with
  | some f =>
   right;obtain ⟨j,hj,e⟩:=M1 hs;unfold kyG at e;split at e
   ·cases e
   ·cases e;simp
  | none =>
   simp only;split
   ·right;decide
   ·cases h:K1 (evG keys.length) 0 events with
    | none=>left;rfl
    | some y =>
     right;obtain ⟨j,hj,e⟩:=M1 h;unfold evG at e;split at e
     ·rename_i hc;cases e;exact hc
     ·cases e
theorem fvF_zero (keys:List Int) (events:Cx):(fvF keys events).Code=0↔(1≤keys.length∧keys.length≤4∧∀ k∈keys,N0 k)∧events.length≤40∧∀ e∈events,evC keys.length e=0:=by
 unfold fvF;by_cases hk:keys.length=0∨keys.length > 4
 ·rw [Ad hk];exact ⟨fun h=>by simp at h,fun h=>by omega⟩
 rw [Ac hk];cases hs:K1 kyG 0 keys with
 | some f =>
  obtain ⟨j,hj,e⟩:=M1 hs;unfold kyG at e;split at e
  ·cases e
  ·rename_i hc
   cases e;exact ⟨fun h=>by simp at h,fun h=>absurd (h.1.2.2 _ (Ar hj)) hc⟩
 | none =>
  have hall:∀ k∈keys,N0 k:=by
   intro x hx;obtain ⟨j,hj,rfl⟩:=Ci hx;have:=O6.1 hs j hj;unfold kyG at this;split at this
   ·assumption
   ·cases this
  simp only;by_cases h40:events.length > 40
  ·rw [Ad h40];exact ⟨fun h=>by simp at h,fun h=>by omega⟩
  rw [Ac h40];cases h:K1 (evG keys.length) 0 events with
  | some y =>
   obtain ⟨j,hj,e⟩:=M1 h;unfold evG at e;split at e
   ·rename_i hc
    cases e;exact ⟨fun h=>absurd h hc,fun h=>absurd (h.2.2 _ (Ar hj)) hc⟩
   ·cases e
  | none =>
   refine ⟨fun _=>⟨⟨by omega,by omega,hall⟩,by omega,fun e he=>?_⟩,fun _=>rfl⟩
   obtain ⟨j,hj,rfl⟩:=Ci he;have:=O6.1 h j hj;unfold evG at this;split at this
   ·cases this
   ·rename_i hc;exact Classical.not_not.1 hc
noncomputable def Nv (s:State_forge) (e:ForgeEvent):Option (Int×State_forge):=if Net e then Ej s e else C0 s e
noncomputable def runs:State_forge→List Int→Cx→Option (State_forge×List Int)
 | s,out,[]=>some (s,out)
 | s,out,e::r=>(Nv s e).bind fun y=>runs y.2 (out++[y.1]) r
theorem runs_cons {s s':State_forge} {out:List Int} {e:ForgeEvent} {r:Cx} {c:Int} (h:Nv s e=some (c,s')):runs s out (e::r)=runs s' (out++[c]) r:=by
 rw [runs,h,Aa]
theorem play_loop (keys:List Int) (events:Cx) (hl:events.length≤1000):∀ (rest:Cx) (k:Nat) (out:List Int) (s s':State_forge) (out':List Int),events.drop k=rest→k≤events.length→out.length=k →
  runs s out rest=some (s',out') →
  C7 (fun s=>Hb.l1 keys events s.1 s.2.1 s.2.2.1 s.2.2.2.1 s.2.2.2.2.1 s.2.2.2.2.2.1 s.2.2.2.2.2.2) ((k:Int),out,s.keys,s.versions,s.developers,s.flight,s.log)=some (out',s'.keys,s'.versions,s'.developers,s'.flight,s'.log):=by
 intro rest
 induction rest with
 | nil =>
  intro k out s s' out' hk hkl ho hr;have:=Kt hk;rw [runs] at hr;cases hr;refine Bm ?_;unfold Hb.l1;simp only;rw [Al,Ac (by omega)]
 | cons e r ih =>
  intro k out s s' out' hk hkl ho hr;obtain ⟨hlt,hx,hr'⟩:=K9 hk;rw [runs] at hr;cases he:Nv s e with
  | none=>rw [he] at hr;cases hr
  | some y =>
   obtain ⟨c,t⟩:=y;rw [he,Aa] at hr;simp only at hr
   have key:Hb.l1 keys events (k:Int) out s.keys s.versions s.developers s.flight s.log=some (.next (((k+1:Nat):Int),out++[c],t.keys,t.versions,t.developers,t.flight,t.log)):=by
    have j2:∀ b:Bool,b=decide (Net e)→Hb.j2 keys (k:Int) out s.keys s.versions s.developers s.flight s.log e b=some (.next (((k+1:Nat):Int),out++[c],t.keys,t.versions,t.developers,t.flight,t.log)):=by
     rintro b rfl;unfold Hb.j2;unfold Nv at he;rw [Al];by_cases hn:Net e
     ·rw [Ad hn] at he ⊢;rw [show ({ keys:=s.keys,versions:=s.versions,developers:=s.developers,flight:=s.flight,log:=s.log }:State_forge)=s from rfl,he,Aa,Dp (by rw [Ak];omega),Aa,Br (by omega) (by omega),Aa];rfl
     ·rw [Ac hn] at he ⊢;rw [show ({ keys:=s.keys,versions:=s.versions,developers:=s.developers,flight:=s.flight,log:=s.log }:State_forge)=s from rfl,he,Aa,Dp (by rw [Ak];omega),Aa,Br (by omega) (by omega),Aa];rfl
    unfold Hb.l1;rw [Al,Ad (by omega),Bg hlt,Aa,hx,Al]
    by_cases h4:e.Kind=4
    ·rw [Ad h4];exact j2 _ (Ch.2 ⟨fun h=>.inl h,fun _=>h4⟩)
    rw [Ac h4,Al];by_cases h5:e.Kind=5
    ·rw [Ad h5];exact j2 _ (Ch.2 ⟨fun h=>.inr (.inl h),fun _=>h5⟩)
    rw [Ac h5,Al];by_cases h6:e.Kind=6
    ·rw [Ad h6];exact j2 _ (Ch.2 ⟨fun h=>.inr (.inr (.inl h)),fun _=>h6⟩)
    rw [Ac h6];exact j2 _ (Ch.2 ⟨fun h=>.inr (.inr (.inr h)),fun h=>by rcases h with h | h | h | h;exact absurd h h4;exact absurd h h5;exact absurd h h6;exact h⟩)
   rw [Bz (m:=fun s:Int×List Int×List Int×Ea×Kd×Em×D2=>Hb.l1 keys events s.1 s.2.1 s.2.2.1 s.2.2.2.1 s.2.2.2.2.1 s.2.2.2.2.2.1 s.2.2.2.2.2.2) key];exact ih (k+1) _ t s' out' hr' (by omega) (by rw [Aj,ho];rfl) hr
def st0 (keys:List Int):State_forge:=⟨keys,[⟨[]⟩],List.replicate keys.length ⟨⟨[]⟩,0,0,0⟩,[],[]⟩
theorem play_f {keys:List Int} {events:Cx} {s:State_forge} {out:List Int} (hv:(fvF keys events).Code=0) (hr:runs (st0 keys) [] events=some (s,out)):Hb keys events=some (.inr (s,out)):=by
 have hz:=(fvF_zero keys events).1 hv;unfold Hb;rw [Aaq,Aa];rcases fvF_ok keys events with h | h
 ·rw [h];simp only [C3,Gk,Ct,A6,Cg];rw [mk_eq (by omega) (by omega),Aa,Ay]
  have:=play_loop keys events (by omega) events 0 [] (st0 keys) s out rfl (Cs _) rfl hr
  rw [show ((0:Nat):Int)=0 from rfl] at this;unfold st0 at this;simp only at this;rw [this,Aa]
 ·exact absurd hv h
theorem play_bad {keys:List Int} {events:Cx} (hv:(fvF keys events).Code≠0):Hb keys events=some (.inl (fvF keys events)):=by
 unfold Hb;rw [Aaq,Aa,Ad (Om.2 fun h2=>hv h2.1)]
theorem Run_bad {keys:List Int} {events:Cx} (hv:(fvF keys events).Code≠0):Wj keys events=some (⟨[]⟩,[],[],fvF keys events):=by
 unfold Wj;rw [play_bad hv,Aa]
theorem newest_f {s:State_forge} {v:Ea} {t:FileTree} (h:s.versions=v++[t]) (hl:v.length≤100000):Lf s=some t:=by
 unfold Lf;rw [h,Aj,Ak,Br (by omega) (by omega),Aa]
 rw [show ((v.length+1:Nat):Int) - 1=(v.length:Int) by omega,Bg (by simp),Aa]
 simp
theorem Run_f {keys:List Int} {events:Cx} {s:State_forge} {out:List Int} {v:Ea} {t:Ai} (hv:(fvF keys events).Code=0) (hr:runs (st0 keys) [] events=some (s,out))
  (h:s.versions=v++[⟨t⟩]) (hl:v.length≤100000) (ht:TrOk t):Wj keys events=some (⟨t⟩,s.log,out,⟨0,0⟩):=by
 unfold Wj;rw [play_f hv hr,Aa];simp only;rw [newest_f h hl,Aa,copyT_f (fun f hf=>by have:=ht.text_len hf;omega) (by have:=ht.len;omega),Aa]
end Go.Dc
set_option linter.unusedSimpArgs false
set_option linter.unusedVariables false
set_option maxRecDepth 4000
namespace Go.Dc
open Go
theorem Networked_f (e:ForgeEvent):K3 e=some (decide (Net e)):=by
 unfold K3 Net;by_cases h4:e.Kind=4
 ·simp [h4]
 by_cases h5:e.Kind=5
 ·simp [h5]
 by_cases h6:e.Kind=6
 ·simp [h6]
 by_cases h7:e.Kind=7
 ·simp [h7]
 ·simp [h4,h5,h6,h7]
theorem rev_f (keys:List Int) (l:List ForgeEvent) {k:Nat} (hk:k < l.length) (hl:l.length≤1000) :
  Bt.l1 keys l (k:Int)=match evG keys.length k l[k] with | some r=>some (.done (.inl r)) | Option.none=>some (.next ((k+1:Nat):Int)):=by
 unfold Bt.l1 evG;rw [Al,Ad (by omega),Bg hk,Aa]
 generalize l[k]=e
 have j3:Bt.j3 (k:Int)=some (.next ((k+1:Nat):Int)):=by
  unfold Bt.j3;rw [Br (by omega) (by omega),Aa];rfl
 have a1:∀ c:Int,Bd c (k:Int)=some ⟨c,k⟩:=fun _=>rfl;have v1:C2 e.Patch=some (pcF e.Patch.Changes):=RVPatch_f e.Patch;rw [j3,v1,Networked_f];simp only [a1,Aa];unfold evC;by_cases hn:Net e
 ·have hk1:¬ e.Kind < 1:=by unfold Net at hn;omega
  have hk8:¬ e.Kind > 8:=by unfold Net at hn;omega
  rw [Ad hn];unfold evN;by_cases h1:e.N < 0
  ·simp [hk1,hk8,hn,h1]
  ·by_cases h2:e.N > 1000000000
   ·simp [hk1,hk8,hn,h1,h2]
   ·simp [hk1,hk8,hn,h1,h2]
 ·rw [Ac hn];by_cases hK:e.Kind=1∨e.Kind=2∨e.Kind=3∨e.Kind=8
  ·have hk1:¬ e.Kind < 1:=by omega
   have hk8:¬ e.Kind > 8:=by omega
   rw [Ad hK];unfold evD;by_cases h1:e.User < 0
   ·simp [hk1,hk8,hn,h1]
   ·by_cases h2:e.User ≥ keys.length
    ·simp [hk1,hk8,hn,h1,h2]
    ·by_cases h3:e.Kind=3
     ·by_cases h4:e.Key < 1
      ·have h6:¬ N0 e.Key:=by unfold N0;omega
       simp [hk1,hk8,hn,h1,h2,h3,h4,h6]
      ·by_cases h5:e.Key > 1000000000
       ·have h6:¬ N0 e.Key:=by unfold N0;omega
        simp [hk1,hk8,hn,h1,h2,h3,h4,h5,h6]
       ·have h6:N0 e.Key:=⟨by omega,by omega⟩
        simp [hk1,hk8,hn,h1,h2,h3,h4,h5,h6]
     ·by_cases h4:e.Kind=2
      ·by_cases h5:(pcF e.Patch.Changes).Code=0
       ·simp [hk1,hk8,hn,h1,h2,h3,h4,h5]
       ·simp [hk1,hk8,hn,h1,h2,h3,h4,h5]
      ·simp [hk1,hk8,hn,h1,h2,h3,h4]
  ·rw [Ac hK];unfold Net at hn;have:e.Kind < 1∨e.Kind > 8:=by omega
   by_cases hk1:e.Kind < 1
   ·simp [hk1]
   ·have hk8:e.Kind > 8:=by omega
    simp [hk1,hk8]
theorem ForgeFault_f (keys:List Int) (events:List ForgeEvent):Bt keys events=some (fvF keys events):=by
 unfold Bt fvF
 have e1:(if decide ((keys.length:Int)=0)=true then some true else some (decide ((keys.length:Int) > 4)))=some (decide (keys.length=0∨keys.length > 4)):=by
  rw [Al];split
  ·rw [Ag (by omega)]
  ·exact congrArg some (Ch.2 (by omega))
 rw [e1,Aa,Al];by_cases hk:keys.length=0∨keys.length > 4
 ·rw [Ad hk,Ad hk];rfl
 rw [Ac hk,Ac hk,Xh keys kyG ?_ ?_,Aa]
 ·cases hs:K1 kyG 0 keys with
  | some f=>rfl
  | none =>
   show Bt.j1 keys events=_;unfold Bt.j1;rw [Al];by_cases h40:events.length > 40
   ·rw [Ad (by omega)]
    simp only [Ad h40];rfl
   rw [Ac (by omega)]
   simp only [Ac h40];rw [Xh events (evG keys.length) ?_ ?_,Aa]
   ·cases K1 (evG keys.length) 0 events <;> rfl
   ·intro k hk _;rw [rev_f keys events hk (by omega)]
    cases evG keys.length k events[k] <;> rfl
   ·unfold Bt.l1;rw [Al,Ac (by omega)]
 ·intro k hk2 _;unfold Bt.l2 kyG;rw [Al,Ad (by omega),Bg hk2,Aa]
  by_cases h1:keys[k] < 1
  ·rw [Ag h1,Ad rfl,Aa,Ad rfl,Br (by omega) (by omega),Ac (by unfold N0;omega)];rfl
  ·rw [Af h1,Ac Ae,Aa,Aa,Al];by_cases h2:keys[k] > 1000000000
   ·rw [Ad h2,Br (by omega) (by omega),Ac (by unfold N0;omega)];rfl
   ·rw [Ac h2,Br (by omega) (by omega),Ad (by unfold N0;omega)];rfl
 ·unfold Bt.l2;rw [Al,Ac (by omega)]
instance:DecidableEq File:=fun x y=>if h:x.Path=y.Path∧x.Lines=y.Lines then isTrue (by obtain ⟨p,q⟩:=x;obtain ⟨p',q'⟩:=y;simp only at h;rw [h.1,h.2]) else isFalse fun e=>h (by rw [e];exact ⟨rfl,rfl⟩)
theorem same_s1 (f g:File) (h:f.Lines.length≤1000000):Oq f g=some (decide (f=g)):=by
 obtain ⟨p,x⟩:=f;obtain ⟨q,y⟩:=g;unfold Oq;simp only at h ⊢;rw [Al];by_cases hp:p=q
 ·rw [Ad hp,sequal_f x y h,Aa,Aa];exact congrArg some (Ch.2 (by simp [hp]))
 ·rw [Ac hp,Aa];exact congrArg some (Af (by simp [hp])).symm
def smG (b:List File) (k:Nat) (f:File):Option Bool:=if b[k]? = some f then Option.none else some false
theorem sm_scan {a b:List File} (hn:a.length=b.length):K1 (smG b) 0 a=if a=b then Option.none else some false:=by
 cases h:K1 (smG b) 0 a with
 | none =>
  have he:a=b:=List.ext_getElem hn fun j h1 h2=>by
   have:=O6.1 h j h1;rw [Gc] at this;unfold smG at this;split at this
   ·next hh=>rw [A3 h2] at hh;exact (Gg hh).symm
   ·cases this
  rw [Ad he]
 | some y =>
  obtain ⟨j,hj,e⟩:=M1 h;unfold smG at e;split at e
  ·cases e
  ·next hh =>
   rw [Ac fun he=>hh (by subst he;simp)]
   cases e;rfl
theorem Same_f {a b:List File} (ha:∀ f∈a,f.Lines.length≤1000000) (hl:a.length≤1000):Hq ⟨a⟩ ⟨b⟩=some (decide (a=b)):=by
 unfold Hq;simp only;by_cases hn:a.length=b.length
 ·rw [Ag (by omega),Ac (by decide),Xh a (smG b) ?_ ?_,Aa,sm_scan hn]
  ·by_cases he:a=b
   ·rw [Ad he,Ag he];rfl
   ·rw [Ac he,Af he];rfl
  ·intro k hk _;have hkb:k < b.length:=by omega
   unfold Hq.l1 smG;simp only;rw [Al,Ad (by omega),Bg hk,Aa,Bg hkb,Aa,same_s1 _ _ (ha _ (Ar hk)),Aa,A3 hkb]
   by_cases he:a[k]=b[k]
   ·rw [Ag he,Ac (by decide),Ad (by rw [he]),Br (by omega) (by omega)];rfl
   ·rw [Af he,Ad (show (!false)=true from rfl),Ac fun h=>he (Gg h).symm]
  ·unfold Hq.l1;simp only;rw [Al,Ac (by omega)]
 ·rw [Af (by omega),Ad (show (!false)=true from rfl),Af fun h=>hn (by rw [h])]
theorem SameTree_f {a b:List File} (ha:∀ f∈a,f.Lines.length≤1000000) (hl:a.length≤1000):Et ⟨a⟩ ⟨b⟩=some (decide (a=b)):=by
 unfold Et;simp only;by_cases hn:a.length=b.length
 ·rw [Ag (by omega),Ac (by decide),Xh a (smG b) ?_ ?_,Aa,sm_scan hn]
  ·by_cases he:a=b
   ·rw [Ad he,Ag he];rfl
   ·rw [Ac he,Af he];rfl
  ·intro k hk _;have hkb:k < b.length:=by omega
   unfold Et.l1 smG;simp only;rw [Al,Ad (by omega),Bg hk,Aa,Bg hkb,Aa,Aa,Aa,requal_f _ _ (ha _ (Ar hk)),Aa,A3 hkb]
   have hx:=hk;generalize a[k]=f;generalize b[k]=g;obtain ⟨p,x⟩:=f;obtain ⟨q,y⟩:=g;simp only;by_cases hp:p=q
   ·subst hp;by_cases hx:x=y
    ·subst hx;simp only [C3,Ct,A6,Cg,Aa,E4];rw [Br (by omega) (by omega)];rfl
    ·have:¬ y=x:=fun h=>hx h.symm;simp [hx,this]
   ·have:¬ q=p:=fun h=>hp h.symm;simp [hp,this]
  ·unfold Et.l1;simp only;rw [Al,Ac (by omega)]
 ·rw [Af (by omega),Ad (show (!false)=true from rfl),Af fun h=>hn (by rw [h])]
theorem Working_bad {keys:List Int} {events:List ForgeEvent} (user:Int) (hv:(fvF keys events).Code≠0):O8 keys events user=some (⟨[]⟩,fvF keys events):=by
 unfold O8;rw [play_bad hv,Aa]
theorem Working_f {keys:List Int} {events:List ForgeEvent} {s:State_forge} {out:List Int} {user:Int} {D:Developer_forge} (hv:(fvF keys events).Code=0) (hr:runs (st0 keys) [] events=some (s,out))
  (hD:user < 0∨user ≥ keys.length∨(at? s.developers user=some D∧TrOk D.tree.Files)):O8 keys events user=some (if user < 0∨user ≥ keys.length then (⟨[]⟩,⟨3,-20⟩) else (D.tree,⟨0,0⟩)):=by
 unfold O8;rw [play_f hv hr,Aa];simp only;by_cases h1:user < 0
 ·simp [h1]
 by_cases h2:user ≥ keys.length
 ·simp [h1,h2]
 obtain h | h | ⟨h3,ht⟩:=hD
 ·exact absurd h h1
 ·exact absurd h h2
 have e1:Ez D.tree=some D.tree:=copyT_f (l:=D.tree.Files) (fun f hf=>by have:=ht.text_len hf;omega) (by have:=ht.len;omega)
 rw [Af h1,Ac Ae,Aa,Af h2,Ac Ae,h3,Aa,e1,Aa,Ac (by rintro (h | h) <;> contradiction)]
theorem entries_refl {l:List ForgeEntry} (h:∀ e∈l,(∀ x∈e.Patch.Changes,OkCh x)∧e.Patch.Changes.length≤1000) (hl:l.length≤1000):Ef l l=some true:=by
 unfold Ef;rw [Ac (by simp),Xh l (fun _ _=>(Option.none:Option Bool)) ?_ ?_,Aa,O6.2 fun _ _=>rfl]
 ·rfl
 ·intro k hk _;obtain ⟨h1,h2⟩:=h _ (Ar hk);have e1:Ed l[k].Patch l[k].Patch=some true:=tp_refl h1 h2;unfold Ef.l1;rw [Al,Ad (by omega),Bg hk,Aa,Aa]
  simp only [C3,Ct,A6,Cg,Aa,e1];rw [Br (by omega) (by omega)];rfl
 ·unfold Ef.l1;rw [Al,Ac (by omega)]
end Go.Dc
set_option linter.unusedSimpArgs false
set_option linter.unusedVariables false
set_option maxRecDepth 4000
namespace Go.Dc
open Go
theorem tf_ok {l:List File} (h:TrOk l):Ek l=⟨0,0⟩:=by
 rcases Ut l with e | e
 ·exact e
 ·exact absurd ((Hz l).2 h) e
theorem apT_ok (p:List TreeChange) (l:List File):(Gx p l).2=⟨0,0⟩∨(Gx p l).2.Code≠0:=by
 by_cases h:(Gx p l).2.Code=0
 ·left;obtain ⟨_,c2,c3,c4,_⟩:=U6 h;rw [c4] at h ⊢;exact (run_ok _ _ _ c3 c2 h).2
 ·exact .inr h
theorem difT_ok (a b:List File):(M5 a b).2=⟨0,0⟩∨(M5 a b).2.Code≠0:=by
 unfold M5;split
 ·next h=>exact .inr h
 ·split
  ·next h=>exact .inr h
  ·split
   ·right;decide
   ·left;rfl
theorem difT_of {a b:List File} (ha:TrOk a) (hb:TrOk b) (hl:(difL a b).length≤30):M5 a b=(⟨difL a b⟩,⟨0,0⟩):=by
 unfold M5;rw [tf_ok ha,tf_ok hb,Ac (by decide),Ac (by decide),Ac (by omega)]
theorem difT_fst {a b:List File} (h:(M5 a b).2.Code=0):TrOk a∧TrOk b∧(difL a b).length≤30∧M5 a b=(⟨difL a b⟩,⟨0,0⟩):=by
 have h0:=h;unfold M5 at h0;by_cases ha:(Ek a).Code≠0
 ·rw [Ad ha] at h0;exact absurd h0 ha
 rw [Ac ha] at h0;by_cases hb:(Ek b).Code≠0
 ·rw [Ad hb] at h0;exact absurd h0 hb
 rw [Ac hb] at h0;by_cases hl:(difL a b).length > 30
 ·rw [Ad hl] at h0;simp at h0
 have ha':=(Hz a).1 (by simpa using ha)
 have hb':=(Hz b).1 (by simpa using hb)
 exact ⟨ha',hb',by omega,difT_of ha' hb' (by omega)⟩
theorem not_net2 (u k n:Int) (p:TreePatch):¬ Net ⟨2,u,k,n,p⟩:=by intro h;unfold Net at h;simp at h
theorem not_net3 (u k n:Int) (p:TreePatch):¬ Net ⟨3,u,k,n,p⟩:=by intro h;unfold Net at h;simp at h
theorem net4 (u k n:Int) (p:TreePatch):Net ⟨4,u,k,n,p⟩:=.inl rfl
def setTree (s:State_forge) (u:Int) (D:Developer_forge) (t:List File):State_forge:=⟨s.keys,s.versions,s.developers.set u.toNat ⟨⟨t⟩,D.base,D.sent,D.accepted⟩,s.flight,s.log⟩
theorem step_edit {s:State_forge} {u k n:Int} {p:TreePatch} {D:Developer_forge} (hD:at? s.developers u=some D) :
  Nv s ⟨2,u,k,n,p⟩=some (if (Gx p.Changes D.tree.Files).2.Code≠0 then ((Gx p.Changes D.tree.Files).2.Code,s) else (0,setTree s u D (Gx p.Changes D.tree.Files).1)):=by
 unfold Nv;rw [Ac (not_net2 u k n p)];unfold C0;simp only;rw [hD,Aa,Ac (by simp),Ad (by simp),Apply_f,Aa]
 unfold C0.j2;simp only;rcases apT_ok p.Changes D.tree.Files with h | h
 ·rw [h];simp only [C3,Gk,Ct,A6,Cg,ne_eq,not_true_eq_false];rw [Aa];rfl
 ·rw [Ad (Om.2 fun h2=>h h2.1),Ad h]
noncomputable def W6 (u:Int) (D:Developer_forge) (key:Int) (q:TreePatch):Message_forge:=⟨u,D.sent+1,D.base,sg key (md ⟨u,D.sent+1,D.base,0,q⟩),q⟩
noncomputable def pushS (s:State_forge) (u:Int) (D:Developer_forge) (key:Int) (q:TreePatch):State_forge :=
 ⟨s.keys,s.versions,s.developers.set u.toNat ⟨D.tree,D.base,D.sent+1,D.accepted⟩,s.flight++[W6 u D key q],s.log⟩
theorem letter_ok {u:Int} {D:Developer_forge} {key:Int} {q:TreePatch} (hu:0≤u∧u≤1000) (hs:0≤D.sent∧D.sent≤1000) (hb:0≤D.base∧D.base≤1000):MsgOk (W6 u D key q) :=
 ⟨Lj hu.1 (by show u≤_;omega),Lj (by show 0≤D.sent+1;omega) (by show D.sent+1≤_;omega),Lj hb.1 (by show D.base≤_;omega)⟩
theorem letter_sig {u:Int} {D:Developer_forge} {key:Int} {q:TreePatch} (hk:N0 key) (hu:0≤u∧u≤1000) (hs:0≤D.sent∧D.sent≤1000) (hb:0≤D.base∧D.base≤1000) :
  (W6 u D key q).signature=sg key (md (W6 u D key q))∧Dig (W6 u D key q).signature :=
 ⟨rfl,(sign_f hk (by rw [(md_f (letter_ok (key:=0) hu hs hb)).2];decide:(md (W6 u D 0 q)).length≤4096)).2⟩
theorem step_push {s:State_forge} {u key n:Int} {p:TreePatch} {D:Developer_forge} {V:List File} (hD:at? s.developers u=some D) (hV:at? s.versions D.base=some ⟨V⟩) (hk:N0 key)
  (hu:0≤u∧u≤1000) (hs:0≤D.sent∧D.sent≤1000) (hb:0≤D.base∧D.base≤1000) :
  Nv s ⟨3,u,key,n,p⟩=some (if (M5 V D.tree.Files).2.Code≠0 then ((M5 V D.tree.Files).2.Code,s) else if (M5 V D.tree.Files).1.Changes=[] then (11,s) else if s.flight.length ≥ 20 then (14,s) else (0,pushS s u D key (M5 V D.tree.Files).1)):=by
 unfold Nv;rw [Ac (not_net3 u key n p)];unfold C0;simp only;rw [hD,Aa,Ac (by simp),Ac (by simp),Ad (by simp)]
 unfold L0;rw [hD,Aa,hV,Aa];have e0:D.tree=⟨D.tree.Files⟩:=rfl;have e1:Cf ⟨V⟩ D.tree=some (M5 V D.tree.Files):=tdifT_f V D.tree.Files;rw [e1,Aa];generalize hd:M5 V D.tree.Files=d;have hz:d.2=⟨0,0⟩∨d.2.Code≠0:=hd ▸ difT_ok V D.tree.Files;obtain ⟨q,f⟩:=d;unfold L0.j1;simp only at hz ⊢;rcases hz with rfl | h
 ·simp only [C3,Gk,Ct,A6,Cg,ne_eq,not_true_eq_false];rw [len_zero_dec,Al];by_cases hq:q.Changes=[]
  ·rw [Ad hq,Ad hq];rfl
  rw [Ac hq,Ac hq,Al];by_cases hf:s.flight.length ≥ 20
  ·rw [Ad (by omega),Ad hf];rfl
  rw [Ac (by omega),Ac hf,Br (by omega) (by omega),Aa,Aa]
  obtain ⟨m1,m2⟩:=md_f (letter_ok (q:=q) (key:=0) hu hs hb);have m3:Lz ⟨u,D.sent+1,D.base,0,q⟩=some (md ⟨u,D.sent+1,D.base,0,q⟩):=m1;have m4:(md ⟨u,D.sent+1,D.base,0,q⟩).length=32:=m2;rw [m3,Aa,(sign_f hk (by omega)).1,Aa,Dp (by rw [Ak];omega),Aa]
  rfl
 ·rw [Ad (Om.2 fun h2=>h h2.1),Ad h];rfl
def drp (s:State_forge) (n:Nat):State_forge:=⟨s.keys,s.versions,s.developers,s.flight.take n++s.flight.drop (n+1),s.log⟩
theorem step_deliver {s:State_forge} {u k:Int} {n:Nat} {p:TreePatch} (hl:s.flight.length≤1000) :
  Nv s ⟨4,u,k,(n:Int),p⟩=if h:n < s.flight.length then (Dq (drp s n) s.flight[n]) else some (6,s):=by
 unfold Nv;rw [Ad (net4 u k (n:Int) p)];unfold Ej;simp only;rw [Al];by_cases h:n < s.flight.length
 ·rw [Ac (by omega),dif_pos h,Bg h,Aa,Ad (by decide),Br (by omega) (by omega),Aa]
  rw [show (n:Int)+1=((n+1:Nat):Int) from rfl,del?_mk (by omega) h,Aa]
  show (Dq (drp s n) s.flight[n]).bind _=_;cases Dq (drp s n) s.flight[n] <;> rfl
 ·rw [Ad (by omega),dif_neg h]
theorem net5 (u k n:Int) (p:TreePatch):Net ⟨5,u,k,n,p⟩:=.inr (.inl rfl)
theorem net6 (u k n:Int) (p:TreePatch):Net ⟨6,u,k,n,p⟩:=.inr (.inr (.inl rfl))
theorem net7 (u k n:Int) (p:TreePatch):Net ⟨7,u,k,n,p⟩:=.inr (.inr (.inr rfl))
theorem not_net1 (u k n:Int) (p:TreePatch):¬ Net ⟨1,u,k,n,p⟩:=by intro h;unfold Net at h;simp at h
theorem not_net8 (u k n:Int) (p:TreePatch):¬ Net ⟨8,u,k,n,p⟩:=by intro h;unfold Net at h;simp at h
theorem step_drop {s:State_forge} {u k:Int} {n:Nat} {p:TreePatch} (hl:s.flight.length≤1000) :
  Nv s ⟨5,u,k,(n:Int),p⟩=some (if n < s.flight.length then (0,drp s n) else (6,s)):=by
 unfold Nv;rw [Ad (net5 u k (n:Int) p)];unfold Ej;simp only;rw [Al];by_cases h:n < s.flight.length
 ·rw [Ac (by omega),Ad h,Bg h,Aa,Ac (by simp),Ad (by simp),Br (by omega) (by omega),Aa]
  rw [show (n:Int)+1=((n+1:Nat):Int) from rfl,del?_mk (by omega) h,Aa]
  rfl
 ·rw [Ad (by omega),Ac h]
def dupS (s:State_forge) (n:Nat) (m:Message_forge):State_forge:=⟨s.keys,s.versions,s.developers,s.flight.take (n+1)++[m]++s.flight.drop (n+1),s.log⟩
theorem step_dup {s:State_forge} {u k:Int} {n:Nat} {p:TreePatch} (hl:s.flight.length≤1000) :
  Nv s ⟨6,u,k,(n:Int),p⟩=some (if h:n < s.flight.length then (if s.flight.length ≥ 20 then (14,s) else (0,dupS s n s.flight[n])) else (6,s)):=by
 unfold Nv;rw [Ad (net6 u k (n:Int) p)];unfold Ej;simp only;rw [Al];by_cases h:n < s.flight.length
 ·rw [Ac (by omega),dif_pos h,Bg h,Aa,Ac (by simp),Ac (by simp),Ad (by simp),Al]
  by_cases h20:s.flight.length ≥ 20
  ·rw [Ad (by omega),Ad h20]
  ·rw [Ac (by omega),Ac h20,Br (by omega) (by omega),Aa]
   have e:ins? 56 s.flight ((n:Int)+1) [s.flight[n]]=some (s.flight.take (n+1)++[s.flight[n]]++s.flight.drop (n+1)):=by
    unfold ins?;simp only;rw [Ad (by omega),Dp (by rw [Ak];omega),Aa,show ((n:Int)+1).toNat=n+1 by omega]
   rw [e,Aa];rfl
 ·rw [Ad (by omega),dif_neg h]
def tmp1 (m:Message_forge):Message_forge:=⟨m.user,m.number,m.base,(m.signature+1) % 2305843009213693951,m.patch⟩
def tamS (s:State_forge) (n:Nat) (m:Message_forge):State_forge:=⟨s.keys,s.versions,s.developers,s.flight.set n (tmp1 m),s.log⟩
theorem step_tamper {s:State_forge} {u k:Int} {n:Nat} {p:TreePatch} (hd:∀ m∈s.flight,Dig m.signature) :
  Nv s ⟨7,u,k,(n:Int),p⟩=some (if h:n < s.flight.length then (0,tamS s n s.flight[n]) else (6,s)):=by
 unfold Nv;rw [Ad (net7 u k (n:Int) p)];unfold Ej;simp only;rw [Al];by_cases h:n < s.flight.length
 ·obtain ⟨d1,d2⟩:=hd _ (Ar h);rw [Ac (by omega),dif_pos h,Bg h,Aa,Ac (by simp),Ac (by simp),Ac (by simp),Br (by omega) (by omega),Aa,Wd (by omega) (by decide),Aa,Aa,Aa,Ay]
  rfl
 ·rw [Ad (by omega),dif_neg h]
theorem step_reset {s:State_forge} {u k n:Int} {p:TreePatch} {D:Developer_forge} {V:List File} (hD:at? s.developers u=some D) (hV:at? s.versions D.base=some ⟨V⟩) :
  Nv s ⟨8,u,k,n,p⟩=some (0,setTree s u D V):=by
 unfold Nv;rw [Ac (not_net8 u k n p)];unfold C0;simp only;rw [hD,Aa,Ac (by simp),Ac (by simp),Ac (by simp),hV,Aa,Aa];rfl
def pullS (s:State_forge) (u:Int) (D:Developer_forge) (t:FileTree) (b:Int):State_forge:=⟨s.keys,s.versions,s.developers.set u.toNat ⟨t,b,D.sent,D.accepted⟩,s.flight,s.log⟩
theorem step_pull {s:State_forge} {u k n:Int} {p:TreePatch} {D:Developer_forge} {V:List File} {v:List FileTree} {t:FileTree} (hD:at? s.developers u=some D) (hV:at? s.versions D.base=some ⟨V⟩) (hT:TrOk D.tree.Files) (hv:s.versions=v++[t]) (hl:v.length≤1000) :
  Nv s ⟨1,u,k,n,p⟩=some (if D.tree.Files=V then (0,pullS s u D t v.length) else (15,s)):=by
 unfold Nv;rw [Ac (not_net1 u k n p)];unfold C0;simp only;have e1:Hq D.tree ⟨V⟩=some (decide (D.tree.Files=V)):=Same_f (a:=D.tree.Files) (fun f hf=>by have:=hT.text_len hf;omega) (by have:=hT.len;omega)
 rw [hD,Aa,Ad (by simp),hV,Aa,e1,Aa]
 by_cases h:D.tree.Files=V
 ·have hvl:s.versions.length=v.length+1:=by rw [hv,Aj,Ak]
  rw [Ag h,Ac (by decide),Ad h,Br (by omega) (by omega),Aa,newest_f hv (by omega),Aa,Aa,Aa]
  unfold C0.j1 pullS;rw [List.set_set,hv,Aj,Ak,show ((v.length+1:Nat):Int) - 1=(v.length:Int) by omega]
 ·rw [Af h,Ad (show (!false)=true from rfl),Ac h]
theorem mgT_ok (B:List File) (l r:TreePatch):(mgT B l r).2.2=⟨0,0⟩∨(mgT B l r).2.2.Code≠0:=by
 unfold mgT;split
 ·next h=>exact .inr h
 split
 ·next h=>exact .inr h
 split
 ·next h=>exact .inr h
 split
 ·exact .inr (by decide)
 ·exact .inl rfl
noncomputable def accM (s:State_forge) (m:Message_forge) (D:Developer_forge) (V N:List File):Int×State_forge :=
 if (M5 V N).2.Code≠0 then ((M5 V N).2.Code,s)
 else if (mgT V (M5 V N).1 m.patch).2.2.Code≠0 then ((mgT V (M5 V N).1 m.patch).2.2.Code,s)
 else if (mgT V (M5 V N).1 m.patch).2.1≠[] then (19,s)
 else if (M5 N (mgT V (M5 V N).1 m.patch).1.Files).2.Code≠0 then ((M5 N (mgT V (M5 V N).1 m.patch).1.Files).2.Code,s)
 else (0,⟨s.keys,s.versions++[(mgT V (M5 V N).1 m.patch).1],s.developers.set m.user.toNat ⟨D.tree,D.base,D.sent,m.number⟩,s.flight,s.log++[⟨m.user,m.number,(M5 N (mgT V (M5 V N).1 m.patch).1.Files).1⟩]⟩)
theorem accept_g {s:State_forge} {m:Message_forge} {D:Developer_forge} {key:Int} {V N:List File} {v:List FileTree} (hD:at? s.developers m.user=some D) (hk:at? s.keys m.user=some key) (hik:N0 key) (hm:MsgOk m)
  (hsd:Dig m.signature) (hb:at? s.versions m.base=some ⟨V⟩) (hv:s.versions=v++[⟨N⟩]) (hvl:v.length≤1000) (hll:s.log.length≤1000) :
  Dq s m=some (if sg key (md m)≠m.signature then (18,s) else if m.number≤D.accepted then (16,s) else accM s m D V N):=by
 obtain ⟨m1,m2⟩:=md_f hm;unfold Dq;rw [hD,Aa,hk,Aa,m1,Aa,verify_f hik (by omega) hsd,Aa]
 unfold Dq.j1;simp only;by_cases hs:sg key (md m)=m.signature
 ·have hq:¬ sg key (md m)≠m.signature:=fun h=>h hs;rw [Ag hs,Ac (show ¬ (!true)=true by decide),Ac hq,Al]
  by_cases hn:m.number≤D.accepted
  ·rw [Ad hn,Ad hn]
  rw [Ac hn,Ac hn,hb,Aa,newest_f hv (by omega),Aa,tdifT_f,Aa]
  unfold Dq.j2 accM;have hd:=difT_ok V N;generalize M5 V N=d at hd ⊢;rcases hd with h | h
  ·rw [h];simp only [C3,Gk,Ct,A6,Cg,ne_eq,not_true_eq_false];rw [impl_mgT,Aa];have hg:=mgT_ok V d.1 m.patch;generalize mgT V d.1 m.patch=g at hg ⊢;rcases hg with h | h
   ·rw [h];simp only [C3,Gk,Ct,A6,Cg,ne_eq,not_true_eq_false];rw [Aap,Al];by_cases hc:g.2.1=[]
    ·have e1:Cf ⟨N⟩ g.1=some (M5 N g.1.Files):=tdifT_f N g.1.Files;rw [Ac (fun h=>h hc),Ac (fun h=>h hc),newest_f hv (by omega),Aa,e1,Aa]
     unfold Dq.j3;have hd:=difT_ok N g.1.Files;generalize M5 N g.1.Files=p at hd ⊢;rcases hd with h | h
     ·rw [h];simp only [C3,Gk,Ct,A6,Cg,ne_eq,not_true_eq_false];rw [Aa,Dp (by rw [hv,Aj,Ak,Ak];omega),Aa,Dp (by rw [Ak];omega),Aa]
     ·rw [Ad h,Ad (Om.2 fun h2=>h h2.1)]
    ·rw [Ad hc,Ad hc]
   ·rw [Ad h,Ad (Om.2 fun h2=>h h2.1)]
  ·rw [Ad h,Ad (Om.2 fun h2=>h h2.1)]
 ·rw [Af hs,Ad (show (!false)=true from rfl),Ad hs]
end Go.Dc
set_option linter.unusedSimpArgs false
set_option linter.unusedVariables false
set_option maxRecDepth 4000
namespace Go.Dc
open Go
structure LetOk (vs:List FileTree) (nk n:Nat) (m:Message_forge):Prop where
 user:0≤m.user∧m.user < nk
 number:1≤m.number∧m.number≤n
 base:0≤m.base∧m.base < vs.length
 sig:Dig m.signature
 pat:(pcF m.patch.Changes).Code=0
structure DevOk (vs:List FileTree) (n:Nat) (D:Developer_forge):Prop where
 tree:TrOk D.tree.Files
 base:0≤D.base∧D.base < vs.length
 sent:0≤D.sent∧D.sent≤n
 acc:0≤D.accepted∧D.accepted≤n
structure Inv (keys:List Int) (n:Nat) (s:State_forge):Prop where
 ks:s.keys=keys
 kl:keys.length≤4
 devs:s.developers.length=keys.length
 vers:1≤s.versions.length∧s.versions.length≤n+1
 tree:∀ t∈s.versions,TrOk t.Files
 dev:∀ D∈s.developers,DevOk s.versions n D
 fl:s.flight.length≤20
 let_:∀ m∈s.flight,LetOk s.versions keys.length n m
 log:s.log.length≤n
 ent:∀ e∈s.log,(∀ x∈e.Patch.Changes,OkCh x)∧e.Patch.Changes.length≤1000
theorem LetOk.up {vs:List FileTree} {nk n:Nat} {m:Message_forge} (h:LetOk vs nk n m) (r:List FileTree):LetOk (vs++r) nk (n+1) m :=
 ⟨h.user,⟨h.number.1,by have:=h.number.2;omega⟩,⟨h.base.1,by have:=h.base.2;rw [Aj];omega⟩,h.sig,h.pat⟩
theorem DevOk.up {vs:List FileTree} {n:Nat} {D:Developer_forge} (h:DevOk vs n D) (r:List FileTree):DevOk (vs++r) (n+1) D :=
 ⟨h.tree,⟨h.base.1,by have:=h.base.2;rw [Aj];omega⟩,⟨h.sent.1,by have:=h.sent.2;omega⟩,⟨h.acc.1,by have:=h.acc.2;omega⟩⟩
theorem Inv.next {keys:List Int} {n:Nat} {s:State_forge} (h:Inv keys n s) {ds:List Developer_forge} {fl:List Message_forge} (hd:ds.length=s.developers.length) (h0:∀ D∈ds,D∈s.developers∨DevOk s.versions (n+1) D)
  (h1:fl.length≤20) (h2:∀ m∈fl,m∈s.flight∨LetOk s.versions keys.length (n+1) m):Inv keys (n+1) ⟨s.keys,s.versions,ds,fl,s.log⟩ where
 ks:=h.ks
 kl:=h.kl
 devs:=hd.trans h.devs
 vers:=⟨h.vers.1,Nat.le_succ_of_le h.vers.2⟩
 tree:=h.tree
 dev:=fun x hx=>by
  rcases h0 x hx with hx | hx
  ·have:=(h.dev x hx).up []
   rwa [Bh] at this
  ·exact hx
 fl:=h1
 let_:=fun x hx=>by
  rcases h2 x hx with hx | hx
  ·have:=(h.let_ x hx).up []
   rwa [Bh] at this
  ·exact hx
 log:=Nat.le_succ_of_le h.log
 ent:=h.ent
theorem Inv.up {keys:List Int} {n:Nat} {s:State_forge} (h:Inv keys n s):Inv keys (n+1) s:=h.next (ds:=s.developers) (fl:=s.flight) rfl (fun _ h=>.inl h) h.fl fun _ h=>.inl h
theorem Inv.setDev {keys:List Int} {n:Nat} {s:State_forge} (h:Inv keys n s) (i:Nat) {D:Developer_forge} (hD:DevOk s.versions (n+1) D):Inv keys (n+1) ⟨s.keys,s.versions,s.developers.set i D,s.flight,s.log⟩ :=
 h.next Ls (fun x hx=>by
  rcases List.mem_or_eq_of_mem_set hx with hx | rfl
  ·exact .inl hx
  ·exact .inr hD) h.fl fun _ h=>.inl h
theorem Inv.drp {keys:List Int} {n:Nat} {s:State_forge} (h:Inv keys n s) (k:Nat):Inv keys n (drp s k):=⟨h.ks,h.kl,h.devs,h.vers,h.tree,h.dev,by
 show (s.flight.take k++s.flight.drop (k+1)).length≤20;rw [Aj,Bl,Cd];have:=h.fl;omega,fun m hm=>by
 rcases Az.1 hm with hm | hm
 ·exact h.let_ m (C4 hm)
 ·exact h.let_ m (Eo hm),h.log,h.ent⟩
theorem Inv.newest {keys:List Int} {n:Nat} {s:State_forge} (h:Inv keys n s):∃ v t,s.versions=v++[⟨t⟩]∧TrOk t∧v.length+1=s.versions.length:=by
 have hne:s.versions≠[]:=fun e=>by have:=h.vers.1;rw [e] at this;simp at this
 refine ⟨s.versions.dropLast,(s.versions.getLast hne).Files,(List.dropLast_concat_getLast hne).symm,h.tree _ (List.getLast_mem hne),?_⟩;rw [List.length_dropLast];have:=h.vers.1;omega
theorem at_lt {α:Type} {l:List α} {i:Int} (h0:0≤i) (h1:i < l.length):∃ x,at? l i=some x∧x∈l:=by
 obtain ⟨k,rfl⟩:=Int.eq_ofNat_of_zero_le h0;have hk:k < l.length:=by omega
 exact ⟨l[k],Bg hk,Ar hk⟩
theorem difT_ch {a b:List File} (h:(M5 a b).2.Code=0):(pcF (M5 a b).1.Changes).Code=0∧(∀ x∈(M5 a b).1.Changes,OkCh x)∧(M5 a b).1.Changes.length≤1000:=by
 obtain ⟨h1,h2,h3,e⟩:=difT_fst h;rw [e];exact ⟨(Vu _).2 ⟨h3,difL_ok h1 h2⟩,difL_ok h1 h2,by show (difL a b).length≤1000;omega⟩
theorem Inv.acc {keys:List Int} {n:Nat} {s:State_forge} (h:Inv keys n s) {m:Message_forge} (hm:LetOk s.versions keys.length n m) {D:Developer_forge} (hD:DevOk s.versions n D) (V N:List File):Inv keys (n+1) (accM s m D V N).2:=by
 unfold accM;split
 ·exact h.up
 split
 ·exact h.up
 split
 ·exact h.up
 generalize mgT V (M5 V N).1 m.patch=g;split
 ·exact h.up
 ·next hd =>
  have hd0:(M5 N g.1.Files).2.Code=0:=by simpa using hd
  obtain ⟨_,hT,_,_⟩:=difT_fst hd0;obtain ⟨_,c2,c3⟩:=difT_ch hd0;have hv:=h.vers;have nm:=hm.number;refine ⟨h.ks,h.kl,by rw [← h.devs];exact Ls,?_,?_,?_,h.fl,fun x hx=>(h.let_ x hx).up _,?_,?_⟩
  ·show 1≤(s.versions++[_]).length∧(s.versions++[_]).length≤_;rw [Aj,Ak];omega
  ·intro t ht;rcases Az.1 ht with ht | ht
   ·exact h.tree t ht
   ·rw [A2] at ht;subst ht;exact hT
  ·intro x hx;rcases List.mem_or_eq_of_mem_set hx with hx | rfl
   ·exact (h.dev x hx).up _
   ·have:=hD.up [g.1];exact ⟨this.tree,this.base,this.sent,⟨by show 0≤m.number;omega,by show m.number≤((n+1:Nat):Int);omega⟩⟩
  ·show (s.log++[_]).length≤_;rw [Aj,Ak];have:=h.log;omega
  ·intro e he;rcases Az.1 he with he | he
   ·exact h.ent e he
   ·rw [A2] at he;subst he;exact ⟨c2,c3⟩
noncomputable def lt_ (keys:List Int) (m:Message_forge):Letter_changeforgeref2:=⟨m.user,m.number,m.base,m.signature,sg ((at? keys m.user).getD 0) (md m),m.patch⟩
noncomputable def ab (s:State_forge):Forge_changeforgeref2 :=
 ⟨s.versions,s.log,s.developers.map (·.accepted),s.developers.map (·.base),s.developers.map (·.sent),s.developers.map (·.tree),s.flight.map (lt_ s.keys)⟩
theorem Tp {α β:Type} (f:α→β) {l:List α} {i:Int} {x:α} (h:at? l i=some x):at? (l.map f) i=some (f x):=by
 obtain ⟨h0,hi,e⟩:=Mk h;unfold at?;rw [Ad h0,List.getElem?_map,A3 hi,e];rfl
theorem Z6 {α:Type} {l:List α} {i:Int} {x:α} (h:at? l i=some x):l.set i.toNat x=l:=by
 obtain ⟨h0,hi,e⟩:=Mk h;rw [← e,List.set_getElem_self]
theorem lt_ok {keys:List Int} {m:Message_forge} {key:Int} (hk:at? keys m.user=some key):lt_ keys m=⟨m.user,m.number,m.base,m.signature,sg key (md m),m.patch⟩:=by
 unfold lt_;rw [hk];rfl
theorem received_f {s:State_forge} {m:Message_forge} {D:Developer_forge} {key:Int} {V N:List File} {v:List FileTree} (hD:at? s.developers m.user=some D) (hk:at? s.keys m.user=some key)
  (hb:at? s.versions m.base=some ⟨V⟩) (hv:s.versions=v++[⟨N⟩]) (hvl:v.length≤1000) (hll:s.log.length≤1000) :
  Dr (ab s) (lt_ s.keys m)=some (if sg key (md m)≠m.signature then (ab s,18) else if m.number≤D.accepted then (ab s,16) else (ab (accM s m D V N).2,(accM s m D V N).1)):=by
 unfold Dr;rw [lt_ok hk];simp only;by_cases hs:sg key (md m)=m.signature
 ·have hq:¬ sg key (md m)≠m.signature:=fun h=>h hs
  have hz:at? (ab s).Versions (v.length:Int)=some ⟨N⟩:=by
   show at? s.versions _=_;rw [hv,Bg (by simp)];simp
  have hvl2:((ab s).Versions.length:Int) - 1=(v.length:Int):=by
   show ((s.versions.length:Int)) - 1=_;rw [hv,Aj,Ak];omega
  rw [Ag hs.symm,Ac (show ¬ (!true)=true by decide),Ac hq,show at? (ab s).Last m.user=some D.accepted from Tp Developer_forge.accepted hD,Aa,Al]
  by_cases hn:m.number≤D.accepted
  ·rw [Ad hn,Ad hn]
  rw [Ac hn,Ac hn,hvl2,Br (by omega) (by omega),Aa,hz,Aa,show at? (ab s).Versions m.base=some ⟨V⟩ from hb,Aa,rdifT_f,Aa]
  unfold Dr.j1 accM;simp only;generalize M5 V N=d;by_cases h:d.2.Code=0
  ·simp only [h,ne_eq,not_true_eq_false,Cg,C3,Ct,A6];rw [show at? (ab s).Versions m.base=some ⟨V⟩ from hb,Aa,ref_mgT,Aa];unfold Dr.j2;simp only;generalize mgT V d.1 m.patch=g;by_cases h2:g.2.2.Code=0
   ·simp only [h2,ne_eq,not_true_eq_false,Cg,C3,Ct,A6];rw [Aap,Al];by_cases hc:g.2.1=[]
    ·have e1:Au ⟨N⟩ g.1=some (M5 N g.1.Files):=rdifT_f N g.1.Files;simp only [hc,ne_eq,not_true_eq_false,Cg];rw [e1,Aa];generalize M5 N g.1.Files=p;by_cases h3:p.2.Code=0
     ·simp only [h3,ne_eq,not_true_eq_false,Cg,C3,Ct,A6];rw [Dp (by show (s.versions.length+1) * 24≤_;rw [hv,Aj,Ak];omega),Aa,Dp (by show (s.log.length+1) * 40≤_;omega),Aa,show at? (ab s).Last m.user=some D.accepted from Tp Developer_forge.accepted hD,Aa,Aa]
      unfold ab;simp only [List.map_set];rw [Z6 (Tp Developer_forge.base hD),Z6 (Tp Developer_forge.sent hD),Z6 (Tp Developer_forge.tree hD)]
     ·simp [h3]
    ·simp [hc]
   ·simp [h2]
  ·simp [h]
 ·rw [Af (fun h=>hs h.symm),Ad (show (!false)=true from rfl),Ad hs]
end Go.Dc
set_option linter.unusedSimpArgs false
set_option linter.unusedVariables false
set_option maxRecDepth 4000
namespace Go.Dc
open Go
theorem rstep_net {s:State_forge} {keys:List Int} {e:ForgeEvent} (hn:Net e) {k:Nat} (hk:e.N=(k:Int)) (hl:s.flight.length≤20) (hd:∀ m∈s.flight,Dig m.signature) :
  B9 (ab s) keys e=if h:k < s.flight.length then (if e.Kind=7 then some (ab (tamS s k s.flight[k]),0) else if e.Kind=6 then (if s.flight.length ≥ 20 then some (ab s,14) else some (ab (dupS s k s.flight[k]),0)) else if e.Kind=5 then some (ab (drp s k),0) else Dr (ab (drp s k)) (lt_ s.keys s.flight[k])) else some (ab s,6):=by
 have hfl:(ab s).Flight=s.flight.map (lt_ s.keys):=rfl;have hlen:(ab s).Flight.length=s.flight.length:=by rw [hfl,C1]
 unfold B9;rw [Networked_f,Aa,Ag hn,Ad rfl,hk,hlen,Al];by_cases h:k < s.flight.length
 ·have e1:at? (ab s).Flight (k:Int)=some (lt_ s.keys s.flight[k]):=Tp _ (Bg h)
  have e2:cut? (ab s).Flight 0 (k:Int)=some ((s.flight.take k).map (lt_ s.keys)):=by
   rw [Tr (by omega) (by omega) (by omega),hfl];simp [List.map_take]
  have e3:cut? (ab s).Flight ((k:Int)+1) (s.flight.length:Int)=some ((s.flight.drop (k+1)).map (lt_ s.keys)):=by
   rw [Tr (by omega) (by omega) (by omega),hfl,Ay,show ((k:Int)+1).toNat=k+1 by omega,Cn (by simp),List.map_drop]
  have htk:(s.flight.take k).length=k:=by rw [Bl];omega
  have hdk:(s.flight.drop (k+1)).length=s.flight.length - (k+1):=Cd;obtain ⟨d1,d2⟩:=hd _ (Ar h);rw [Ac (by omega),dif_pos h,e1,Aa,e2,Aa,Dp (by rw [C1];simp;omega),Aa,Br (by omega) (by omega),Aa,e3,Aa,A8]
  have hsig:(lt_ s.keys s.flight[k]).Signature=s.flight[k].signature:=rfl;rw [Al];by_cases h7:e.Kind=7
  ·rw [Ad h7,Ad h7,hsig,Br (by omega) (by omega),Aa,Wd (by omega) (by decide),Aa,Dp (by rw [C1];simp;omega),Aa,Dp (by simp;omega),Aa]
   unfold ab tamS;simp only;rw [List.set_eq_take_append_cons_drop,Ad h];simp only [Hx,Dg,Am,List.singleton_append];rfl
  rw [Ac h7,Ac h7,Al];by_cases h6:e.Kind=6
  ·rw [Ad h6,Ad h6,Al];by_cases h20:s.flight.length ≥ 20
   ·rw [Ad (by omega),Ad h20]
   ·rw [Ac (by omega),Ac h20,Dp (by rw [C1];simp;omega),Aa,Dp (by simp;omega),Aa]
    unfold ab dupS;simp only;rw [As h];simp only [Hx,Dg,List.map_nil,Am,List.cons_append,A8]
  rw [Ac h6,Ac h6,Dp (by rw [C1,C1];omega),Aa,← Hx,Al]
  by_cases h5:e.Kind=5
  ·rw [Ad h5,Ad h5];rfl
  rw [Ac h5,Ac h5];show (Dr (ab (drp s k)) (lt_ s.keys s.flight[k])).bind _=_;cases Dr (ab (drp s k)) (lt_ s.keys s.flight[k]) <;> rfl
 ·rw [Ad (by omega),dif_neg h]
theorem ab_dev {s:State_forge} {u:Int} {D D':Developer_forge} (hD:at? s.developers u=some D) (ha:D'.accepted=D.accepted) :
  ab ⟨s.keys,s.versions,s.developers.set u.toNat D',s.flight,s.log⟩=⟨s.versions,s.log,s.developers.map (·.accepted),(s.developers.map (·.base)).set u.toNat D'.base,(s.developers.map (·.sent)).set u.toNat D'.sent,(s.developers.map (·.tree)).set u.toNat D'.tree,s.flight.map (lt_ s.keys)⟩:=by
 unfold ab;simp only [List.map_set];rw [ha,Z6 (Tp Developer_forge.accepted hD)]
theorem at_setI {α:Type} {l:List α} {i:Int} {x y:α} (h:at? l i=some x):at? (l.set i.toNat y) i=some y:=by
 obtain ⟨h0,hi,e⟩:=Mk h;unfold at?;rw [Ad h0,List.getElem?_set_self hi]
theorem rstep_dev {s:State_forge} {keys:List Int} {e:ForgeEvent} (hn:¬ Net e) (hK:e.Kind=1∨e.Kind=2∨e.Kind=3∨e.Kind=8) (hks:s.keys=keys) {n:Nat} (hn100:n≤100) {D:Developer_forge} {V N:List File} {v:List FileTree} {key:Int} (hD:at? s.developers e.User=some D) (hV:at? s.versions D.base=some ⟨V⟩)
  (hDo:DevOk s.versions n D) (hvl:s.versions.length≤1000) (hv:s.versions=v++[⟨N⟩]) (hkey:at? keys e.User=some key) (hik:N0 key) (hek:e.Kind=3→N0 e.Key) (hu:0≤e.User∧e.User≤1000) (hfl:s.flight.length≤20) :
  B9 (ab s) keys e=some (if e.Kind=8 then (ab (setTree s e.User D V),0) else if e.Kind=2 then (if (Gx e.Patch.Changes D.tree.Files).2.Code≠0 then (ab s,(Gx e.Patch.Changes D.tree.Files).2.Code) else (ab (setTree s e.User D (Gx e.Patch.Changes D.tree.Files).1),0))
   else if e.Kind=1 then (if D.tree.Files=V then (ab (pullS s e.User D ⟨N⟩ v.length),0) else (ab s,15))
   else if (M5 V D.tree.Files).2.Code≠0 then (ab s,(M5 V D.tree.Files).2.Code) else if (M5 V D.tree.Files).1.Changes=[] then (ab s,11) else if s.flight.length ≥ 20 then (ab s,14) else (ab (pushS s e.User D e.Key (M5 V D.tree.Files).1),0)):=by
 have b1:at? (ab s).Base e.User=some D.base:=Tp Developer_forge.base hD;have b2:at? (ab s).Versions D.base=some ⟨V⟩:=hV;have b3:at? (ab s).Working e.User=some D.tree:=Tp Developer_forge.tree hD;have b4:at? (ab s).Sent e.User=some D.sent:=Tp Developer_forge.sent hD
 have hvl1:((ab s).Versions.length:Int) - 1=(v.length:Int):=by
  show ((s.versions.length:Int)) - 1=_;rw [hv,Aj,Ak];omega
 have hvl2:v.length≤1000:=by rw [hv,Aj] at hvl;omega
 have b5:at? (ab s).Versions (v.length:Int)=some ⟨N⟩:=by
  show at? s.versions _=_;rw [hv,Bg (by simp)];simp
 have t1:=hDo.tree.len;have t2:∀ f∈D.tree.Files,f.Lines.length≤1000000:=fun f hf=>by have:=hDo.tree.text_len hf;omega
 unfold B9;rw [Networked_f,Aa,Af hn,Ac Ae,b1,Aa,b2,Aa,Al];by_cases h8:e.Kind=8
 ·rw [Ad h8,Ad h8,b3,Aa,Aa];unfold setTree;rw [ab_dev (D':=⟨⟨V⟩,D.base,D.sent,D.accepted⟩) hD rfl,Z6 (Tp Developer_forge.base hD),Z6 (Tp Developer_forge.sent hD)];rfl
 rw [Ac h8,Ac h8,Al];by_cases h2:e.Kind=2
 ·rw [Ad h2,Ad h2,b3,Aa,RApply_f,Aa];unfold B9.j1;simp only;rw [Al];by_cases hc:(Gx e.Patch.Changes D.tree.Files).2.Code=0
  ·rw [Ad hc,Ac (fun h=>h hc),b3,Aa,Aa];unfold B9.j2 setTree;rw [ab_dev (D':=⟨⟨(Gx e.Patch.Changes D.tree.Files).1⟩,D.base,D.sent,D.accepted⟩) hD rfl,Z6 (Tp Developer_forge.base hD),Z6 (Tp Developer_forge.sent hD)];simp only [hc];rfl
  ·rw [Ac hc,Ad hc]
 rw [Ac h2,Ac h2,Al];by_cases h1:e.Kind=1
 ·have e1:Et D.tree ⟨V⟩=some (decide (D.tree.Files=V)):=SameTree_f (a:=D.tree.Files) t2 (by omega)
  rw [Ad h1,Ad h1,b3,Aa,e1,Aa];by_cases hs:D.tree.Files=V
  ·rw [Ag hs,Ac (by decide),Ad hs,hvl1,Br (by omega) (by omega),Aa,Aa,Aa,at_setI b1,Aa,b5,Aa,Aa,Aa]
   unfold pullS;rw [ab_dev (D':=⟨⟨N⟩,v.length,D.sent,D.accepted⟩) hD rfl,Z6 (Tp Developer_forge.sent hD)];rfl
  ·rw [Af hs,Ad (show (!false)=true from rfl),Ac hs]
 have h3:e.Kind=3:=by omega
 rw [Ac h1,Ac h1,b3,Aa];have e1:Au ⟨V⟩ D.tree=some (M5 V D.tree.Files):=rdifT_f V D.tree.Files;rw [e1,Aa];unfold B9.j3;have hch:(M5 V D.tree.Files).2.Code=0→_:=fun h=>(difT_ch h).1;generalize M5 V D.tree.Files=d at hch ⊢;by_cases hc:d.2.Code=0
 ·have hpat:=hch hc;rw [Ag hc,Ac (show ¬ (!true)=true by decide),Ac (show ¬ d.2.Code≠0 from fun hn=>hn hc),len_zero_dec,Al]
  by_cases hq:d.1.Changes=[]
  ·rw [Ad hq,Ad hq]
  have hlen:(ab s).Flight.length=s.flight.length:=C1 _;rw [Ac hq,Ac hq,hlen,Al];by_cases hf:s.flight.length ≥ 20
  ·rw [Ad (by omega),Ad hf]
  have hsn:=hDo.sent;have hba:=hDo.base;have g1:Dig e.User:=Lj hu.1 (by omega)
  have g2:Dig (D.sent+1):=Lj (by omega) (by omega)
  have g3:Dig D.base:=Lj hba.1 (by omega)
  have ky:=hek h3;have k1:Dig e.Key:=Lj (by have:=ky.1;omega) (by have:=ky.2;omega)
  have k2:Dig key:=Lj (by have:=hik.1;omega) (by have:=hik.2;omega)
  rw [Ac (by omega),Ac hf,b4,Aa,Br (by omega) (by omega),Aa,Aa,Aa,at_setI b4,Aa,b1,Aa,signed_f k1 hpat g1 g2 g3,Aa,hkey,Aa,signed_f k2 hpat g1 g2 g3,Aa,Dp (by simp;omega),Aa]
  unfold B9.j4;rw [Dp (by simp;omega),Aa]
  unfold pushS;have h0:=ab_dev (s:=⟨s.keys,s.versions,s.developers,s.flight++[W6 e.User D e.Key d.1],s.log⟩) (D':=⟨D.tree,D.base,D.sent+1,D.accepted⟩) hD rfl;simp only at h0;rw [h0,Z6 (Tp Developer_forge.base hD),Z6 (Tp Developer_forge.tree hD),Hx,List.map_singleton,lt_ok (key:=key) (by rw [hks];exact hkey)]
  rfl
 ·rw [Af hc,Ad (show (!false)=true from rfl),Ad hc]
theorem evC_net {n:Int} {e:ForgeEvent} (hn:Net e) (h:evC n e=0):0≤e.N∧e.N≤1000000000:=by
 unfold evC at h;rw [Ad hn] at h;unfold evN at h;by_cases hc:e.N < 0∨e.N > 1000000000
 ·rw [Ad hc] at h;simp at h
 ·omega
theorem evC_dev {n:Int} {e:ForgeEvent} (hn:¬ Net e) (h:evC n e=0):(e.Kind=1∨e.Kind=2∨e.Kind=3∨e.Kind=8)∧0≤e.User∧e.User < n∧(e.Kind=3→N0 e.Key):=by
 unfold evC at h;rw [Ac hn] at h;by_cases hk:e.Kind=1∨e.Kind=2∨e.Kind=3∨e.Kind=8
 ·rw [Ad hk] at h;unfold evD at h;by_cases hc:e.User < 0∨e.User ≥ n∨(e.Kind=3∧¬ N0 e.Key)
  ·rw [Ad hc] at h;simp at h
  ·exact ⟨hk,by omega,by omega,fun h3=>Classical.not_not.1 fun h4=>hc (.inr (.inr ⟨h3,h4⟩))⟩
 ·rw [Ac hk] at h;simp at h
theorem step_both {keys:List Int} {n:Nat} {s:State_forge} (h:Inv keys n s) (hn:n≤100) (hk:∀ k∈keys,N0 k) {e:ForgeEvent} (he:evC keys.length e=0) :
  ∃ c s',Nv s e=some (c,s')∧Inv keys (n+1) s'∧B9 (ab s) keys e=some (ab s',c):=by
 have hfl:=h.fl;have hve:=h.vers;have hlog:=h.log;have hkl:=h.kl;obtain ⟨v,N',hv,hN,hvl⟩:=h.newest;by_cases hnet:Net e
 ·obtain ⟨h0,h1⟩:=evC_net hnet he;have hsig:∀ m∈s.flight,Dig m.signature:=fun m hm=>(h.let_ m hm).sig;obtain ⟨k,hkN⟩:=Int.eq_ofNat_of_zero_le h0;have r:=rstep_net (keys:=keys) hnet hkN hfl hsig;obtain ⟨K,u,key,N,p⟩:=e;simp only at hkN r h1;subst hkN;by_cases hlt:k < s.flight.length
  ·rw [dif_pos hlt] at r;have hm:=h.let_ _ (Ar hlt);rcases hnet with rfl | rfl | rfl | rfl
   ·have e:=step_deliver (u:=u) (k:=key) (n:=k) (p:=p) (s:=s) (by omega)
    rw [dif_pos hlt] at e;rw [Ac (by decide),Ac (by decide),Ac (by decide)] at r
    obtain ⟨D,d1,d2⟩:=at_lt (l:=s.developers) hm.user.1 (by rw [h.devs];exact hm.user.2)
    obtain ⟨ky,k1,k2⟩:=at_lt (l:=s.keys) hm.user.1 (by rw [h.ks];exact hm.user.2)
    obtain ⟨⟨V⟩,v1,_⟩:=at_lt (l:=s.versions) hm.base.1 hm.base.2;have us:=hm.user;have nm:=hm.number;have bs:=hm.base;have hd:=(h.drp k);have a1:=accept_g (s:=drp s k) (V:=V) (N:=N') d1 k1 (hk ky (by rw [← h.ks];exact k2)) ⟨Lj us.1 (by omega),Lj (by omega) (by omega),Lj bs.1 (by omega)⟩ hm.sig v1 hv (by omega) (by show s.log.length≤1000;omega)
    have a2:=received_f (s:=drp s k) (V:=V) (N:=N') d1 k1 v1 hv (by omega) (by show s.log.length≤1000;omega)
    rw [a1] at e;rw [show (drp s k).keys=s.keys from rfl] at a2;rw [a2] at r;split at e
    ·next hc=>rw [Ad hc] at r;exact ⟨_,_,e,hd.up,r⟩
    ·next hc =>
     rw [Ac hc] at r;split at e
     ·next hc=>rw [Ad hc] at r;exact ⟨_,_,e,hd.up,r⟩
     ·next hc=>rw [Ac hc] at r;exact ⟨_,_,e,hd.acc hm (h.dev D d2) V N',r⟩
   ·have e:=step_drop (u:=u) (k:=key) (n:=k) (p:=p) (s:=s) (by omega)
    rw [Ad hlt] at e;rw [Ac (by decide),Ac (by decide),Ad rfl] at r
    exact ⟨_,_,e,(h.drp k).up,r⟩
   ·have e:=step_dup (u:=u) (k:=key) (n:=k) (p:=p) (s:=s) (by omega)
    rw [dif_pos hlt] at e;rw [Ac (by decide),Ad rfl] at r
    by_cases h20:s.flight.length ≥ 20
    ·rw [Ad h20] at e r;exact ⟨_,_,e,h.up,r⟩
    ·rw [Ac h20] at e r;refine ⟨_,_,e,h.next rfl (fun _ h=>.inl h) ?_ fun m hm=>.inl ?_,r⟩
     ·rw [Aj,Aj,Bl,Cd,Ak];omega
     ·rw [Az,Az,A2] at hm;rcases hm with (hm | rfl) | hm
      ·exact C4 hm
      ·exact Ar hlt
      ·exact Eo hm
   ·have e:=step_tamper (u:=u) (k:=key) (n:=k) (p:=p) (s:=s) hsig;rw [dif_pos hlt] at e;rw [Ad rfl] at r;refine ⟨_,_,e,h.next rfl (fun _ h=>.inl h) (by rw [Ls];exact hfl) fun m hm=>?_,r⟩
    rcases List.mem_or_eq_of_mem_set hm with hm | rfl
    ·exact .inl hm
    ·have hm:=(h.let_ _ (Ar hlt)).up [];rw [Bh] at hm;exact .inr ⟨hm.user,hm.number,hm.base,dig_mod,hm.pat⟩
  ·rw [dif_neg hlt] at r;rcases hnet with rfl | rfl | rfl | rfl
   ·have e:=step_deliver (u:=u) (k:=key) (n:=k) (p:=p) (s:=s) (by omega)
    rw [dif_neg hlt] at e;exact ⟨_,_,e,h.up,r⟩
   ·have e:=step_drop (u:=u) (k:=key) (n:=k) (p:=p) (s:=s) (by omega)
    rw [Ac hlt] at e;exact ⟨_,_,e,h.up,r⟩
   ·have e:=step_dup (u:=u) (k:=key) (n:=k) (p:=p) (s:=s) (by omega)
    rw [dif_neg hlt] at e;exact ⟨_,_,e,h.up,r⟩
   ·have e:=step_tamper (u:=u) (k:=key) (n:=k) (p:=p) (s:=s) hsig;rw [dif_neg hlt] at e;exact ⟨_,_,e,h.up,r⟩
 ·obtain ⟨hK,h0,h1,h3⟩:=evC_dev hnet he;obtain ⟨D,d1,d2⟩:=at_lt (l:=s.developers) h0 (by rw [h.devs];exact h1)
  have hD:=h.dev D d2;obtain ⟨⟨V⟩,v1,v2⟩:=at_lt (l:=s.versions) hD.base.1 hD.base.2;have hV:=h.tree _ v2;obtain ⟨ky,k1,k2⟩:=at_lt (l:=keys) h0 h1;have r:=rstep_dev hnet hK h.ks hn d1 v1 hD (by omega) hv k1 (hk ky k2) h3 ⟨h0,by omega⟩ hfl
  obtain ⟨K,u,key,N,p⟩:=e;simp only at hK h0 h1 h3 d1 r;have hs:=hD.sent;have ha:=hD.acc;have hb:=hD.base;rcases hK with rfl | rfl | rfl | rfl
  ·have e:=step_pull (u:=u) (k:=key) (n:=N) (p:=p) d1 v1 hD.tree hv (by omega)
   rw [Ac (by decide),Ac (by decide),Ad rfl] at r
   by_cases hs:D.tree.Files=V
   ·rw [Ad hs] at e r;refine ⟨_,_,e,h.setDev _ ?_,r⟩;exact ⟨hN,⟨by show (0:Int)≤v.length;omega,by show (v.length:Int) < s.versions.length;omega⟩,⟨hD.sent.1,by have:=hD.sent.2;show D.sent≤((n+1:Nat):Int);omega⟩,⟨ha.1,by show D.accepted≤((n+1:Nat):Int);omega⟩⟩
   ·rw [Ac hs] at e r;exact ⟨_,_,e,h.up,r⟩
  ·have e:=step_edit (u:=u) (k:=key) (n:=N) (p:=p) d1;rw [Ac (by decide),Ad rfl] at r
   by_cases hc:(Gx p.Changes D.tree.Files).2.Code=0
   ·rw [Ac (by omega)] at e r
    refine ⟨_,_,e,h.setDev _ ?_,r⟩;exact ⟨(U6 hc).2.2.2.2,hb,⟨hs.1,by show D.sent≤((n+1:Nat):Int);omega⟩,⟨ha.1,by show D.accepted≤((n+1:Nat):Int);omega⟩⟩
   ·rw [Ad hc] at e r;exact ⟨_,_,e,h.up,r⟩
  ·have e:=step_push (u:=u) (key:=key) (n:=N) (p:=p) d1 v1 (h3 rfl) ⟨h0,by omega⟩ ⟨hs.1,by omega⟩ ⟨hb.1,by omega⟩
   rw [Ac (by decide),Ac (by decide),Ac (by decide)] at r
   by_cases hc:(M5 V D.tree.Files).2.Code=0
   ·rw [Ac (by omega)] at e r
    split at e
    ·next hq=>rw [Ad hq] at r;exact ⟨_,_,e,h.up,r⟩
    ·next hq =>
     rw [Ac hq] at r;split at e
     ·next hf=>rw [Ad hf] at r;exact ⟨_,_,e,h.up,r⟩
     ·next h20 =>
      rw [Ac h20] at r;refine ⟨_,_,e,h.next Ls (fun x hx=>?_) (by rw [Aj,Ak];omega) (fun m hm=>?_),r⟩
      ·rcases List.mem_or_eq_of_mem_set hx with hx | rfl
       ·exact .inl hx
       ·exact .inr ⟨hD.tree,hb,⟨by show 0≤D.sent+1;omega,by show D.sent+1≤((n+1:Nat):Int);omega⟩,⟨ha.1,by show D.accepted≤((n+1:Nat):Int);omega⟩⟩
      ·rcases Az.1 hm with hm | hm
       ·exact .inl hm
       ·rw [A2] at hm;subst hm;have hsig:=letter_sig (u:=u) (D:=D) (q:=(M5 V D.tree.Files).1) (h3 rfl) ⟨h0,by omega⟩ ⟨hs.1,by omega⟩ ⟨hb.1,by omega⟩
        exact .inr ⟨⟨h0,h1⟩,⟨by show 1≤D.sent+1;omega,by show D.sent+1≤((n+1:Nat):Int);omega⟩,hb,hsig.2,(difT_ch hc).1⟩
   ·rw [Ad hc] at e r;exact ⟨_,_,e,h.up,r⟩
  ·have e:=step_reset (u:=u) (k:=key) (n:=N) (p:=p) d1 v1;rw [Ad rfl] at r;exact ⟨_,_,e,h.setDev u.toNat (D:=⟨⟨V⟩,D.base,D.sent,D.accepted⟩) ⟨hV,hb,⟨hs.1,by show D.sent≤((n+1:Nat):Int);omega⟩,⟨ha.1,by show D.accepted≤((n+1:Nat):Int);omega⟩⟩,r⟩
end Go.Dc
set_option linter.unusedSimpArgs false
set_option linter.unusedVariables false
set_option maxRecDepth 4000
namespace Go.Dc
open Go
theorem both_loop {keys:List Int} {events:List ForgeEvent} (hl:events.length≤90) (hk:∀ k∈keys,N0 k):∀ (rest:List ForgeEvent) (k:Nat) (out:List Int) (s:State_forge),events.drop k=rest→k+rest.length=events.length→out.length=k→Inv keys k s→(∀ e∈rest,evC keys.length e=0) →
  ∃ s' out',runs s out rest=some (s',out')∧Inv keys (k+rest.length) s'∧out'.length=k+rest.length ∧
   C7 (fun s:Int×List Int×List FileTree×List ForgeEntry×List Int×List Int×List Int×List FileTree×List Letter_changeforgeref2=>C5.l1 keys events s.1 s.2.1 s.2.2.1 s.2.2.2.1 s.2.2.2.2.1 s.2.2.2.2.2.1 s.2.2.2.2.2.2.1 s.2.2.2.2.2.2.2.1 s.2.2.2.2.2.2.2.2) ((k:Int),out,(ab s).Versions,(ab s).Log,(ab s).Last,(ab s).Base,(ab s).Sent,(ab s).Working,(ab s).Flight)=some (out',(ab s').Versions,(ab s').Log,(ab s').Last,(ab s').Base,(ab s').Sent,(ab s').Working,(ab s').Flight):=by
 intro rest
 induction rest with
 | nil =>
  intro k out s hd hkl ho h _;refine ⟨s,out,rfl,h,ho,Bm ?_⟩;simp only [Ey] at hkl;unfold C5.l1;simp only;rw [Al,Ac (by omega)]
 | cons e r ih =>
  intro k out s hd hkl ho h he;obtain ⟨hlt,hx,hr⟩:=K9 hd;rw [Eb] at hkl ⊢;obtain ⟨c,t,h1,h2,h3⟩:=step_both h (by omega) hk (he e (by simp))
  obtain ⟨s',out',i1,i2,i3,i4⟩:=ih (k+1) (out++[c]) t hr (by omega) (by rw [Aj,ho];rfl) h2 fun x hx=>he x (by simp [hx])
  refine ⟨s',out',by rw [runs_cons h1];exact i1,by rw [show k+(r.length+1)=k+1+r.length by omega];exact i2,by omega,?_⟩
  refine (Bz ?_).trans i4;unfold C5.l1;simp only;have e1:B9 ({ Versions:=(ab s).Versions,Log:=(ab s).Log,Last:=(ab s).Last,Base:=(ab s).Base,Sent:=(ab s).Sent,Working:=(ab s).Working,Flight:=(ab s).Flight }:Forge_changeforgeref2) keys e=some (ab t,c):=h3;rw [Al,Ad (by omega),Bg hlt,Aa,hx,e1,Aa,Dp (by rw [Ak];omega),Aa,Br (by omega) (by omega),Aa]
  rfl
theorem nil_ok:TrOk []:=(Hz []).1 (by decide)
theorem inv0 {keys:List Int} (h:keys.length≤4):Inv keys 0 (st0 keys) where
 ks:=rfl
 kl:=h
 devs:=by simp [st0]
 vers:=by simp [st0]
 tree:=fun t ht=>by
  have:t=⟨[]⟩:=by simpa [st0] using ht
  subst this;exact nil_ok
 dev:=fun D hD=>by
  have:D=⟨⟨[]⟩,0,0,0⟩:=(List.mem_replicate.1 hD).2;subst this;exact ⟨nil_ok,⟨by simp,by simp [st0]⟩,⟨by simp,by simp⟩,⟨by simp,by simp⟩⟩
 fl:=by simp [st0]
 let_:=fun m hm=>by simp [st0] at hm
 log:=by simp [st0]
 ent:=fun e he=>by simp [st0] at he
theorem both_run {keys:List Int} {events:List ForgeEvent} (hv:(fvF keys events).Code=0):∃ s out,runs (st0 keys) [] events=some (s,out)∧Inv keys events.length s∧out.length=events.length∧C5 keys events=some (ab s,out):=by
 obtain ⟨⟨k1,k2,k3⟩,e1,e2⟩:=(fvF_zero keys events).1 hv;obtain ⟨s,out,h1,h2,h3,h4⟩:=both_loop (by omega) k3 events 0 [] (st0 keys) rfl (by omega) rfl (inv0 k2) e2
 rw [Gc] at h2 h3;refine ⟨s,out,h1,h2,h3,?_⟩
 have h0:ab (st0 keys)=⟨[⟨[]⟩],[],List.replicate keys.length 0,List.replicate keys.length 0,List.replicate keys.length 0,List.replicate keys.length ⟨[]⟩,[]⟩:=by
  unfold ab st0;simp only [List.map_replicate,List.map_nil]
 rw [h0] at h4;unfold C5;rw [mk_eq (by omega) (by omega),Aa,mk_eq (by omega) (by omega),Aa,Aa,Aa,mk_eq (by omega) (by omega),Aa,Ay]
 unfold C5.j1;rw [show (1:Int).toNat=1 from rfl,show List.replicate 1 (⟨[]⟩:FileTree)=[⟨[]⟩] from rfl];rw [show ((0:Nat):Int)=0 from rfl] at h4;rw [h4,Aa]
def dT:List File:=[⟨⟨#[97]⟩,[⟨#[120]⟩]⟩]
def dP:TreePatch:=⟨[⟨1,⟨#[97]⟩,ByteArray.empty,[⟨#[120]⟩],⟨[]⟩⟩]⟩
theorem x_okt:Kb [(⟨#[120]⟩:ByteArray)]:=(Hr _).2 ((Er _).2 (by decide +kernel))
theorem d_tr:TrOk dT:=one_ok (by decide +kernel) x_okt
theorem d_dif:M5 [] dT=(dP,⟨0,0⟩):=by
 have h:difL [] dT=dP.Changes:=by simp [difL,adOf,Lb,dT,dP]
 rw [difT_of nil_ok d_tr (by rw [h];decide),h]
theorem d_pc:(pcF dP.Changes).Code=0:=by
 have:=(difT_ch (a:=[]) (b:=dT) (by rw [d_dif])).1
 rwa [d_dif] at this
theorem d_app:Gx dP.Changes []=(dT,⟨0,0⟩):=by
 rw [applyT_of (by decide) ((Vu _).1 d_pc).2 nil_ok]
 rfl
theorem n_app:Gx [] []=([],⟨0,0⟩):=by
 rw [applyT_of (by decide) (by simp) nil_ok];rfl
theorem d_mg:mgT [] ⟨[]⟩ dP=(⟨dT⟩,[],⟨0,0⟩):=by
 obtain ⟨h1,h2,h3⟩:=tm_left nil_ok nil_ok d_tr (fun x=>by
  show mgO Option.none Option.none (lk dT x)=_;unfold mgO;by_cases h:lk dT x=Option.none
  ·rw [Ad (.inl h),h]
  ·rw [Ac (by rintro (h2 | h2) <;> exact h h2),Ad rfl]) ⟨[]⟩ dP
 unfold mgT;rw [(Hz []).2 nil_ok,n_app,d_app];simp only [ne_eq,not_true_eq_false,Cg];rw [h1,h2,h3];rfl
def evE (u:Int) (p:TreePatch):ForgeEvent:=⟨2,u,0,0,p⟩
def evP (u key:Int):ForgeEvent:=⟨3,u,key,0,⟨[]⟩⟩
def evL (n:Int):ForgeEvent:=⟨4,0,0,n,⟨[]⟩⟩
theorem d_runs:runs (st0 [5]) [] [evE 0 dP,evP 0 5,evL 0]=some (⟨[5],[⟨[]⟩,⟨dT⟩],[⟨⟨dT⟩,0,1,1⟩],[],[⟨0,1,dP⟩]⟩,[0,0,0]):=by
 have hk:N0 5:=⟨by omega,by omega⟩
 have s1:Nv (st0 [5]) (evE 0 dP)=some (0,⟨[5],[⟨[]⟩],[⟨⟨dT⟩,0,0,0⟩],[],[]⟩):=by
  unfold evE;rw [step_edit (D:=⟨⟨[]⟩,0,0,0⟩) rfl];simp only;rw [d_app];rfl
 rw [runs_cons s1]
 have s2:Nv ⟨[5],[⟨[]⟩],[⟨⟨dT⟩,0,0,0⟩],[],[]⟩ (evP 0 5)=some (0,⟨[5],[⟨[]⟩],[⟨⟨dT⟩,0,1,0⟩],[W6 0 ⟨⟨dT⟩,0,0,0⟩ 5 dP],[]⟩):=by
  unfold evP;rw [step_push (D:=⟨⟨dT⟩,0,0,0⟩) (V:=[]) rfl rfl hk (by omega) (by simp) (by simp)]
  simp only;rw [d_dif];rfl
 rw [runs_cons s2]
 have s3:Nv ⟨[5],[⟨[]⟩],[⟨⟨dT⟩,0,1,0⟩],[W6 0 ⟨⟨dT⟩,0,0,0⟩ 5 dP],[]⟩ (evL 0)=some (0,⟨[5],[⟨[]⟩,⟨dT⟩],[⟨⟨dT⟩,0,1,1⟩],[],[⟨0,1,dP⟩]⟩):=by
  unfold evL;rw [show (0:Int)=((0:Nat):Int) from rfl,step_deliver (by show 1≤1000;omega),dif_pos (by show 0 < 1;omega)]
  have hl:=letter_sig (u:=0) (D:=⟨⟨dT⟩,0,0,0⟩) (q:=dP) hk (by omega) (by simp) (by simp)
  have hm:=letter_ok (u:=0) (D:=⟨⟨dT⟩,0,0,0⟩) (key:=5) (q:=dP) (by omega) (by simp) (by simp)
  show Dq ⟨[5],[⟨[]⟩],[⟨⟨dT⟩,0,1,0⟩],[],[]⟩ (W6 0 ⟨⟨dT⟩,0,0,0⟩ 5 dP)=_;rw [accept_g (D:=⟨⟨dT⟩,0,1,0⟩) (key:=5) (V:=[]) (N:=[]) (v:=[]) rfl rfl hk hm hl.2 rfl rfl (by simp) (by show 0≤1000;omega),Ac (fun h=>h hl.1.symm),Ac (by show ¬ (0+1:Int)≤0;omega)]
  have e0:M5 [] []=(⟨[]⟩,⟨0,0⟩):=by rw [difT_of nil_ok nil_ok (by simp [difL])];rfl
  unfold accM;rw [e0];show some (if _ then _ else if (mgT [] ⟨[]⟩ dP).2.2.Code≠0 then _ else if (mgT [] ⟨[]⟩ dP).2.1≠[] then _ else if (M5 [] (mgT [] ⟨[]⟩ dP).1.Files).2.Code≠0 then _ else _)=_
  simp only [show (W6 0 ⟨⟨dT⟩,0,0,0⟩ 5 dP).patch=dP from rfl,d_mg,d_dif,ne_eq,not_true_eq_false,Cg];rfl
 rw [runs_cons s3];rfl
theorem delivered_f:Ei=some true:=by
 have hv:(fvF [5] [evE 0 dP,evP 0 5,evL 0]).Code=0:=(fvF_zero _ _).2 ⟨⟨by simp,by simp,fun k h=>by rw [A2] at h;rw [h];exact ⟨by omega,by omega⟩⟩,by simp,fun e he=>by
  simp only [Bf,List.not_mem_nil,or_false] at he;rcases he with rfl | rfl | rfl
  ·unfold evC evE;rw [Ac (not_net2 0 0 0 dP),Ad (by simp)]
   unfold evD;rw [Ac (by simp),Ad rfl]
   exact d_pc
  ·unfold evC evP;rw [Ac (not_net3 0 5 0 _),Ad (by simp)]
   unfold evD;rw [Ac (by simp [N0]),Ac (by simp)]
  ·unfold evC evL;rw [Ad (net4 0 0 0 _)]
   rfl⟩
 have hr:=Run_f hv d_runs (v:=[⟨[]⟩]) (t:=dT) rfl (by simp) d_tr
 unfold evE evP evL at hr;have hO:=((Vu _).1 d_pc).2;unfold Ei Nx;rw [Aa];unfold dP at hr hO;rw [hr,Aa];simp only [C3,E4];unfold Qg
 rw [Aa,show (⟨[⟨⟨#[97]⟩,[⟨#[120]⟩]⟩]⟩:FileTree)=⟨dT⟩ from rfl,tree_ok d_tr,Aa,Ad rfl,entries_refl (by
  intro e he;rw [A2] at he;subst he;exact ⟨hO,by simp⟩) (by simp),Aa,Ad rfl,ints_eq _ _ (by simp),Aa]
 rfl
theorem forge_spec (keys:List Int) (events:List ForgeEvent) (user:Int):Lh keys events user=some true:=by
 unfold Lh;by_cases hv:(fvF keys events).Code=0
 ·obtain ⟨⟨k1,k2,k3⟩,e1,e2⟩:=(fvF_zero keys events).1 hv;obtain ⟨s,out,h1,h2,h3,h4⟩:=both_run hv;obtain ⟨v,t,hvs,ht,hvl⟩:=h2.newest;have hve:=h2.vers;have hlg:=h2.log
  have h0:fvF keys events=⟨0,0⟩:=by
   rcases fvF_ok keys events with h | h
   ·exact h
   ·exact absurd hv h
  have hw:∃ D:Developer_forge,user < 0∨user ≥ keys.length∨(at? s.developers user=some D∧TrOk D.tree.Files):=by
   by_cases hu:0≤user∧user < keys.length
   ·obtain ⟨D,d1,d2⟩:=at_lt (l:=s.developers) hu.1 (by rw [h2.devs];exact hu.2)
    exact ⟨D,.inr (.inr ⟨d1,(h2.dev D d2).tree⟩)⟩
   ·exact ⟨⟨⟨[]⟩,0,0,0⟩,by omega⟩
  obtain ⟨D,hw⟩:=hw
  have z4:((ab s).Versions.length:Int) - 1=(v.length:Int):=by
   show ((s.versions.length:Int)) - 1=_;omega
  have z5:at? (ab s).Versions (v.length:Int)=some ⟨t⟩:=by
   show at? s.versions _=_;rw [hvs,Bg (by simp)];simp
  rw [Run_f hv h1 hvs (by omega) ht,Aa,Working_f hv h1 hw,Aa,ForgeFault_f,Aa,Aaq,Aa,h0]
  simp only [C3,Gk,Ct,A6,Cg,Aa];rw [h4,Aa];simp only;rw [z4,Br (by omega) (by omega),Aa,z5,Aa,tree_ok ht,Aa]
  have z6:Ef s.log (ab s).Log=some true:=entries_refl h2.ent (by omega)
  simp only [Ct,A6,Cg,z6,Aa];rw [ints_eq _ _ (by omega),Aa]
  simp only [C3,Ct,A6,Cg,Aa];have a1:Bd 3 (-20)=some ⟨3,-20⟩:=rfl;rw [a1,delivered_f];by_cases u1:user < 0
  ·simp [u1]
  by_cases u2:user ≥ keys.length
  ·simp [u1,u2]
  obtain h | h | ⟨d1,d2⟩:=hw
  ·exact absurd h u1
  ·exact absurd h u2
  have w1:at? (ab s).Working user=some D.tree:=Tp Developer_forge.tree d1;have w2:Eh D.tree D.tree=some true:=tree_ok d2;have w3:¬ (user < 0∨user ≥ (keys.length:Int)):=by omega
  rw [Af u1,Ac Ae,Aa,Af u2,Ac Ae,Ac w3];simp only [C3,E4];rw [w1,Aa,w2];rfl
 ·rw [Run_bad hv,Aa,Working_bad user hv,Aa,ForgeFault_f,Aa,Aaq,Aa,delivered_f];have c1:ckK .i64 (0:Int)=some 0:=Br (by omega) (by omega)
  simp [hv,c1]
end Go.Dc
