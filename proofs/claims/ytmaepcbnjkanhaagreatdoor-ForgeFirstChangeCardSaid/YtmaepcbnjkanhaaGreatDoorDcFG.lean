import Derived.Test.YtmaepcbnjkanhaaGreatDoorDcF8
set_option linter.unusedSimpArgs false
set_option linter.unusedVariables false
set_option maxRecDepth 4000
noncomputable section
namespace Go.Dc
open Go
def dg (l:List UInt8):Int:=((Dx l).map (·.1)).getD 0
def pr (a b:Int):Int:=((C3 a b).map (·.1)).getD 0
theorem dg_ok {l:List UInt8} (hl:l.length≤4096):Dx l=some (dg l,⟨0,0⟩)∧Dig (dg l)∧B4 l=some (dg l):=by
  obtain ⟨r,h1,h2⟩:=of_ok hl;have e:dg l=r:=by unfold dg;rw [h1];rfl
  rw [e];exact ⟨h1,h2,DigestOf_f hl h1⟩
theorem Qe {a b:Int} (ha:Dig a) (hb:Dig b):C3 a b=some (pr a b,⟨0,0⟩)∧Hb a b=some (pr a b)∧Dig (pr a b)∧Cm a b=some (pr a b):=by
  obtain ⟨r,h1,h2⟩:=Pair_ok ha hb;have e:pr a b=r:=by unfold pr;rw [h1];rfl
  rw [e];refine ⟨h1,?_,h2,DigestPair_f ha hb h1⟩;rw [Pair_pair ha hb] at h1;obtain ⟨r',h3,_⟩:=pair_ok ha hb;rw [h3,Option.bind_some] at h1;cases h1;exact h3
theorem Hq {x:Int} (h0:0≤x) (h1:x≤1000000000000):Dig x:=⟨h0,by omega⟩
def ds (l:List ByteArray):Int:=l.foldl (fun h s=>pr h (dg s.data.toList)) 2
theorem line_len {s:ByteArray} (h:s.size≤4096):s.data.toList.length≤4096:=by rw [Array.length_toList];exact h
theorem dfold_dig:∀ (l:List ByteArray) (x:Int),Dig x→(∀ s∈l,s.size≤4096)→Dig (l.foldl (fun h s=>pr h (dg s.data.toList)) x)
  | [],_,h,_=>h
  | s::l,x,h,hl=>dfold_dig l _ (Qe h (dg_ok (line_len (hl s (by simp)))).2.1).2.2.1 fun t ht=>hl t (by simp [ht])
theorem ds_ok {m:List ByteArray} (h:Kl m):Dv m=some (ds m,⟨0,0⟩)∧Dig (ds m)∧Cg m=some (ds m,⟨0,0⟩)∧E1 m=some (ds m):=by
  have hl:=h.1;have hs:∀ s∈m,s.size≤4096:=fun s hs=>Nat.le_trans (h.2 s hs).1 (by decide)
  have hd:Dig (ds m):=dfold_dig m 2 (Hq (by decide) (by decide)) hs
  have k1:Dv m=some (ds m,⟨0,0⟩):=by
    unfold Dv;rw [Ba,if_neg (by omega)]
    obtain ⟨r,hr,rfl⟩:=Kw (f:=fun s:Int×Int=>Dv.l1 m s.1 s.2) m.length (fun k x=>x=(m.take k).foldl (fun h s=>pr h (dg s.data.toList)) 2) (fun r=>r=.inr (ds m))
      (by
        rintro k x hk rfl;have hx:Dig ((m.take k).foldl (fun h s=>pr h (dg s.data.toList)) 2):=dfold_dig _ 2 (Hq (by decide) (by decide)) fun s hs'=>hs s (List.mem_of_mem_take hs')
        refine ⟨_,?_,rfl⟩;rw [List.take_succ_eq_append_getElem hk,List.foldl_append];generalize (m.take k).foldl (fun h s=>pr h (dg s.data.toList)) 2=x at hx ⊢;obtain ⟨d1,d2,_⟩:=dg_ok (line_len (hs _ (List.getElem_mem hk)));unfold Dv.l1;rw [Ba,if_pos (by omega),Dg hk,Option.bind_some,d1,Option.bind_some]
        simp only [decide_true,Bool.and_self,Bool.not_true,Bool.false_eq_true,if_false];rw [(Qe hx d2).2.1,Option.bind_some,Cs (by omega) (by omega),Option.bind_some];rfl)
      (by
        rintro x rfl;unfold Dv.l1;rw [Ba,if_neg (by omega),List.take_length]
        exact ⟨_,rfl,rfl⟩) 2 rfl
    rw [hr,Option.bind_some];rfl
  refine ⟨k1,hd,?_,by unfold E1;rw [k1,Option.bind_some]⟩
  unfold Cg;rw [Ba,if_neg (by omega)]
  obtain ⟨r,hr,rfl⟩:=Kw (f:=fun s:Int×Int=>Cg.l1 m s.1 s.2) m.length (fun k x=>x=(m.take k).foldl (fun h s=>pr h (dg s.data.toList)) 2) (fun r=>r=.inr (ds m))
    (by
      rintro k x hk rfl;have hx:Dig ((m.take k).foldl (fun h s=>pr h (dg s.data.toList)) 2):=dfold_dig _ 2 (Hq (by decide) (by decide)) fun s hs'=>hs s (List.mem_of_mem_take hs')
      refine ⟨_,?_,rfl⟩;rw [List.take_succ_eq_append_getElem hk,List.foldl_append];generalize (m.take k).foldl (fun h s=>pr h (dg s.data.toList)) 2=x at hx ⊢;have hz:=hs _ (List.getElem_mem hk);obtain ⟨_,d2,d3⟩:=dg_ok (line_len hz);unfold Cg.l1;rw [Ba,if_pos (by omega),Dg hk,Option.bind_some,Ba,if_neg (by omega),Option.bind_some,d3,Option.bind_some,(Qe hx d2).2.2.2,Option.bind_some,Cs (by omega) (by omega),Option.bind_some];rfl)
    (by
      rintro x rfl;unfold Cg.l1;rw [Ba,if_neg (by omega),List.take_length]
      exact ⟨_,rfl,rfl⟩) 2 rfl
  rw [hr,Option.bind_some];rfl
theorem Qd:∀ (l:List Int) (x:Int),Dig x→(∀ s∈l,Dig s)→Dig (l.foldl pr x)
  | [],_,h,_=>h
  | s::l,x,h,hl=>Qd l _ (Qe h (hl s (by simp))).2.2.1 fun t ht=>hl t (by simp [ht])
theorem combine_f {h:Int} {l:List Int} (hh:Dig h) (hl:∀ s∈l,Dig s) (hn:l.length≤1000):Dr h l=some (l.foldl pr h):=by
  unfold Dr
  obtain ⟨r,hr,rfl⟩:=Kw (f:=fun s:Int×Int=>Dr.l1 l s.1 s.2) l.length (fun k x=>x=(l.take k).foldl pr h) (fun r=>r=l.foldl pr h)
    (by
      rintro k x hk rfl;have hx:=Qd (l.take k) h hh fun s hs=>hl s (List.mem_of_mem_take hs);refine ⟨_,?_,rfl⟩;rw [List.take_succ_eq_append_getElem hk,List.foldl_append];generalize (l.take k).foldl pr h=x at hx ⊢;unfold Dr.l1;rw [Ba,if_pos (by omega),Dg hk,Option.bind_some,(Qe hx (hl _ (List.getElem_mem hk))).1,Option.bind_some,Cs (by omega) (by omega),Option.bind_some];rfl)
    (by
      rintro x rfl;unfold Dr.l1;rw [Ba,if_neg (by omega),List.take_length]
      exact ⟨_,rfl,rfl⟩) h rfl
  rw [hr,Option.bind_some];rfl
def hd (x:Int) (h:Hunk):Int:=[h.At,ds h.Old,ds h.New].foldl pr x
def cd0 (x:Int) (c:TreeChange):Int:=[c.Kind,dg c.Path.data.toList,dg c.To.data.toList,ds c.Lines].foldl pr x
def cd (x:Int) (c:TreeChange):Int:=c.Patch.Hunks.foldl hd (cd0 x c)
def pd (p:List TreeChange):Int:=p.foldl cd 3
structure HOk (h:Hunk):Prop where
  at0:Dig h.At
  old:Kl h.Old
  new:Kl h.New
theorem hunks_ok {c:TreeChange} (hc:OkCh c):c.Patch.Hunks.length≤130∧∀ h∈c.Patch.Hunks,HOk h:=by
  obtain ⟨h1,h2⟩:=(Mc _).1 hc.patch;refine ⟨h1,fun x hx=>?_⟩;obtain ⟨a1,a2,a3,a4,_⟩:=good_at h2 (by omega) x hx
  exact ⟨Hq (by omega) (by omega),(Gv _).2 ((D9 _).2 a3),(Gv _).2 ((D9 _).2 a4)⟩
theorem hd_list {h:Hunk} (hh:HOk h):∀ s∈[h.At,ds h.Old,ds h.New],Dig s:=by
  intro s hs;simp only [List.mem_cons,List.not_mem_nil,or_false] at hs;rcases hs with rfl | rfl | rfl
  · exact hh.at0
  · exact (ds_ok hh.old).2.1
  · exact (ds_ok hh.new).2.1
theorem hd_dig {x:Int} {h:Hunk} (hx:Dig x) (hh:HOk h):Dig (hd x h):=Qd _ _ hx (hd_list hh)
theorem hds_dig:∀ (l:List Hunk) (x:Int),Dig x→(∀ h∈l,HOk h)→Dig (l.foldl hd x)
  | [],_,h,_=>h
  | s::l,x,h,hl=>hds_dig l _ (hd_dig h (hl s (by simp))) fun t ht=>hl t (by simp [ht])
theorem path_sz {p:ByteArray} (h:Ec p=true):p.size≤60:=by
  unfold Ec at h;rw [Bool.and_eq_true] at h;exact of_decide_eq_true h.1
theorem ch_len {c:TreeChange} (hc:OkCh c):c.Path.data.toList.length≤4096∧c.To.data.toList.length≤4096:=by
  refine ⟨line_len (Nat.le_trans (path_sz hc.path) (by decide)),?_⟩
  by_cases h3:c.Kind=3
  · exact line_len (Nat.le_trans (path_sz (hc.to h3).1) (by decide))
  · rw [hc.noTo h3];decide
theorem cd0_list {c:TreeChange} (hc:OkCh c):∀ s∈[c.Kind,dg c.Path.data.toList,dg c.To.data.toList,ds c.Lines],Dig s:=by
  intro s hs;have hk:=hc.kind;simp only [List.mem_cons,List.not_mem_nil,or_false] at hs;rcases hs with rfl | rfl | rfl | rfl
  · exact Hq (by omega) (by omega)
  · exact (dg_ok (ch_len hc).1).2.1
  · exact (dg_ok (ch_len hc).2).2.1
  · exact (ds_ok ((Gv _).2 ((D9 _).2 hc.lines))).2.1
theorem cd0_dig {x:Int} {c:TreeChange} (hx:Dig x) (hc:OkCh c):Dig (cd0 x c):=Qd _ _ hx (cd0_list hc)
theorem cd_dig {x:Int} {c:TreeChange} (hx:Dig x) (hc:OkCh c):Dig (cd x c):=hds_dig _ _ (cd0_dig hx hc) (hunks_ok hc).2
theorem cds_dig:∀ (l:List TreeChange) (x:Int),Dig x→(∀ h∈l,OkCh h)→Dig (l.foldl cd x)
  | [],_,h,_=>h
  | s::l,x,h,hl=>cds_dig l _ (cd_dig h (hl s (by simp))) fun t ht=>hl t (by simp [ht])
theorem dig3:Dig 3:=Hq (by decide) (by decide)
theorem pd_dig {p:List TreeChange} (hp:∀ c∈p,OkCh c):Dig (pd p):=cds_dig p 3 dig3 hp
theorem hloop_f {c:TreeChange} (hc:OkCh c) {x:Int} (hx:Dig x):Dw (fun s=>Bh.l2 c s.1 s.2) (0,x)=some (c.Patch.Hunks.foldl hd x):=by
  obtain ⟨hn,hh⟩:=hunks_ok hc
  obtain ⟨r,hr,rfl⟩:=Kw (f:=fun s:Int×Int=>Bh.l2 c s.1 s.2) c.Patch.Hunks.length (fun k y=>y=(c.Patch.Hunks.take k).foldl hd x) (fun r=>r=c.Patch.Hunks.foldl hd x)
    (by
      rintro k y hk rfl;have hy:=hds_dig (c.Patch.Hunks.take k) x hx fun s hs=>hh s (List.mem_of_mem_take hs);refine ⟨_,?_,rfl⟩;rw [List.take_succ_eq_append_getElem hk,List.foldl_append];generalize (c.Patch.Hunks.take k).foldl hd x=y at hy ⊢;have ho:=hh _ (List.getElem_mem hk);unfold Bh.l2;rw [Ba,if_pos (by omega),Dg hk,Option.bind_some,(ds_ok ho.old).2.2.2,Option.bind_some,(ds_ok ho.new).2.2.2,Option.bind_some,combine_f hy (hd_list ho) (by simp),Option.bind_some,Cs (by omega) (by omega),Option.bind_some];rfl)
    (by
      rintro y rfl;unfold Bh.l2;rw [Ba,if_neg (by omega),List.take_length]
      exact ⟨_,rfl,rfl⟩) x rfl
  exact hr
theorem s1_f {s:ByteArray} (h:s.data.toList.length≤4096):Gg s=some (dg s.data.toList):=by
  unfold Gg;rw [(dg_ok h).1,Option.bind_some]
def pdT (p:List TreeChange):Int×Fault:=if (pcF p).Code≠0 then (0,pcF p) else (pd p,⟨0,0⟩)
theorem PatchDigest_f (p:TreePatch):Bh p=some (pdT p.Changes):=by
  obtain ⟨p⟩:=p;unfold Bh pdT;rw [VPatch_f,Option.bind_some];simp only;rcases pcF_ok p with h | h
  · obtain ⟨hl,hp⟩:=(Oa p).1 (by rw [h])
    rw [h];simp only [decide_true,Bool.and_self,Bool.not_true,Bool.false_eq_true,if_false,ne_eq,not_true_eq_false]
    obtain ⟨r,hr,rfl⟩:=Kw (f:=fun s:Int×Int=>Bh.l1 ⟨p⟩ s.1 s.2) p.length (fun k y=>y=(p.take k).foldl cd 3) (fun r=>r=pd p)
      (by
        rintro k y hk rfl;have hy:=cds_dig (p.take k) 3 dig3 fun s hs=>hp s (List.mem_of_mem_take hs);refine ⟨_,?_,rfl⟩;rw [List.take_succ_eq_append_getElem hk,List.foldl_append];generalize (p.take k).foldl cd 3=y at hy ⊢;have hc:=hp _ (List.getElem_mem hk);have hcl:=(Gv _).2 ((D9 _).2 hc.lines);unfold Bh.l1;simp only;rw [Ba,if_pos (by omega),Dg hk,Option.bind_some,s1_f (ch_len hc).1,Option.bind_some,s1_f (ch_len hc).2,Option.bind_some,(ds_ok hcl).2.2.2,Option.bind_some,combine_f hy (cd0_list hc) (by simp),Option.bind_some]
        rw [hloop_f hc (Qd _ _ hy (cd0_list hc)),Option.bind_some];unfold Bh.j3 Bh.j2;rw [Cs (by omega) (by omega),Option.bind_some];rfl)
      (by
        rintro y rfl;unfold Bh.l1;simp only;rw [Ba,if_neg (by omega),List.take_length]
        exact ⟨_,rfl,rfl⟩) 3 rfl
    rw [hr,Option.bind_some];rfl
  · rw [if_pos h,if_pos (Ls.2 fun h2=>h h2.1)]
theorem rhloop_f {c:TreeChange} (hc:OkCh c) {x:Int} (hx:Dig x):Dw (fun s=>Bd.l2 c s.1 s.2) (0,x)=some (c.Patch.Hunks.foldl hd x):=by
  obtain ⟨hn,hh⟩:=hunks_ok hc
  obtain ⟨r,hr,rfl⟩:=Kw (f:=fun s:Int×Int=>Bd.l2 c s.1 s.2) c.Patch.Hunks.length (fun k y=>y=(c.Patch.Hunks.take k).foldl hd x) (fun r=>r=c.Patch.Hunks.foldl hd x)
    (by
      rintro k y hk rfl;have hy:=hds_dig (c.Patch.Hunks.take k) x hx fun s hs=>hh s (List.mem_of_mem_take hs);refine ⟨_,?_,rfl⟩;rw [List.take_succ_eq_append_getElem hk,List.foldl_append];generalize (c.Patch.Hunks.take k).foldl hd x=y at hy ⊢;have ho:=hh _ (List.getElem_mem hk);have d1:=ds_ok ho.old;have d2:=ds_ok ho.new;have p1:=Qe hy ho.at0;have p2:=Qe p1.2.2.1 d1.2.1;have p3:=Qe p2.2.2.1 d2.2.1;unfold Bd.l2;rw [Ba,if_pos (by omega),Dg hk,Option.bind_some,d1.2.2.1,Option.bind_some,d2.2.2.1,Option.bind_some,p1.2.2.2,Option.bind_some,p2.2.2.2,Option.bind_some,p3.2.2.2,Option.bind_some,Cs (by omega) (by omega),Option.bind_some];rfl)
    (by
      rintro y rfl;unfold Bd.l2;rw [Ba,if_neg (by omega),List.take_length]
      exact ⟨_,rfl,rfl⟩) x rfl
  exact hr
theorem RPatchDigest_f {p:List TreeChange} (h:(pcF p).Code=0):Bd ⟨p⟩=some (pd p):=by
  obtain ⟨hl,hp⟩:=(Oa p).1 h;unfold Bd
  obtain ⟨r,hr,rfl⟩:=Kw (f:=fun s:Int×Int=>Bd.l1 ⟨p⟩ s.1 s.2) p.length (fun k y=>y=(p.take k).foldl cd 3) (fun r=>r=pd p)
    (by
      rintro k y hk rfl;have hy:=cds_dig (p.take k) 3 dig3 fun s hs=>hp s (List.mem_of_mem_take hs);refine ⟨_,?_,rfl⟩;rw [List.take_succ_eq_append_getElem hk,List.foldl_append];generalize (p.take k).foldl cd 3=y at hy ⊢;have hc:=hp _ (List.getElem_mem hk);have hcl:=ds_ok ((Gv _).2 ((D9 _).2 hc.lines));have hq:=hc.kind;have p1:=Qe hy (Hq (x:=p[k].Kind) (by omega) (by omega))
      have g1:=dg_ok (ch_len hc).1;have g2:=dg_ok (ch_len hc).2;have p2:=Qe p1.2.2.1 g1.2.1;have p3:=Qe p2.2.2.1 g2.2.1;have p4:=Qe p3.2.2.1 hcl.2.1;unfold Bd.l1;simp only;rw [Ba,if_pos (by omega),Dg hk,Option.bind_some,hcl.2.2.1,Option.bind_some,p1.2.2.2,Option.bind_some]
      unfold Bd.j3;rw [g1.2.2,Option.bind_some,p2.2.2.2,Option.bind_some,g2.2.2,Option.bind_some,p3.2.2.2,Option.bind_some,p4.2.2.2,Option.bind_some,rhloop_f hc p4.2.2.1,Option.bind_some];unfold Bd.j4 Bd.j2;rw [Cs (by omega) (by omega),Option.bind_some];rfl)
    (by
      rintro y rfl;unfold Bd.l1;simp only;rw [Ba,if_neg (by omega),List.take_length]
      exact ⟨_,rfl,rfl⟩) 3 rfl
  rw [hr,Option.bind_some];rfl
def L6 (k:Int):Prop:=1≤k∧k≤1000000000
instance (k:Int):Decidable (L6 k):=inferInstanceAs (Decidable (_∧_))
theorem isKey_f (k:Int):H8 k=some (decide (L6 k)):=by
  unfold H8 L6;rw [Ba];by_cases h:k ≥ 1
  · rw [if_pos h,Option.bind_some];exact congrArg some (decide_eq_decide.2 ⟨fun h2=>⟨h,h2⟩,fun h2=>h2.2⟩)
  · rw [if_neg h,Option.bind_some];exact congrArg some (decide_eq_false fun h2=>h h2.1).symm
theorem isDig_f {a:Int} (h:Dig a):He a=some true:=by
  obtain ⟨h1,h2⟩:=h;unfold He;rw [Ba,if_pos h1,Option.bind_some,decide_eq_true h2]
def sg (key:Int) (d:List UInt8):Int:=pr key (dg d)
theorem sign_f {key:Int} {d:List UInt8} (hk:L6 key) (hd:d.length≤4096):Lq key d=some (sg key d,⟨0,0⟩)∧Dig (sg key d):=by
  obtain ⟨d1,d2,_⟩:=dg_ok hd;have p:=Qe (Hq (x:=key) (by have:=hk.1;omega) (by have:=hk.2;omega)) d2
  refine ⟨?_,p.2.2.1⟩;unfold Lq;rw [isKey_f,Option.bind_some,decide_eq_true hk,if_neg (by decide),d1,Option.bind_some]
  simp only [decide_true,Bool.and_self,Bool.not_true,Bool.false_eq_true,if_false];rw [p.1,Option.bind_some];rfl
theorem verify_f {key s:Int} {d:List UInt8} (hk:L6 key) (hd:d.length≤4096) (hs:Dig s):Lc key d s=some (decide (sg key d=s),⟨0,0⟩):=by
  unfold Lc;rw [(sign_f hk hd).1,Option.bind_some];simp only [decide_true,Bool.and_self,Bool.not_true,Bool.false_eq_true,if_false];rw [isDig_f hs,Option.bind_some,if_neg (by decide)]
theorem big_f {n:Int} (h:Dig n):∃ b,Ep n=some b∧b.length=8:=by
  obtain ⟨h0,h1⟩:=h;unfold Ep
  have hz:∀ k:Int,0≤k→k≤56→∃ z,shr? .i64 n k=some z:=by
    intro k hk hk2;unfold shr?;rw [if_neg (by omega)]
    exact ⟨_,rfl⟩
  obtain ⟨r,hr,hq⟩:=M6 (m:=fun s:Int×List UInt8=>Ep.l1 n s.1 s.2) (fun s=>∃ j:Nat,j≤8∧s.1=56 - 8 * (j:Int)∧s.2.length=j) (fun s=>(s.1+8).toNat) (fun r=>r.length=8) (by
    rintro ⟨x,l⟩ ⟨j,hj,hx,hl⟩;simp only at hx hl ⊢;subst hx;unfold Ep.l1;rw [Ba];by_cases h8:j=8
    · right;rw [if_neg (by omega)]
      exact ⟨_,rfl,by omega⟩
    · left;obtain ⟨z,hz⟩:=hz (56 - 8 * (j:Int)) (by omega) (by omega)
      rw [if_pos (by omega),hz,Option.bind_some,Option.bind_some,K3 (by rw [List.length_singleton];omega),Option.bind_some,Cs (by omega) (by omega),Option.bind_some]
      exact ⟨_,rfl,⟨j+1,by omega,by simp only;omega,by simp [hl]⟩,by simp only;omega⟩) (56,[]) ⟨0,by omega,by simp,rfl⟩
  rw [hr,Option.bind_some];exact ⟨r,rfl,hq⟩
theorem message_f {l:List Int} (hl:l.length≤64) (hd:∀ x∈l,Dig x):∃ d,Dk l=some (d,⟨0,0⟩)∧d.length=8 * l.length:=by
  unfold Dk;rw [Ba,if_neg (by omega)]
  obtain ⟨r,hr,d,rfl,hq⟩:=Kw (f:=fun s:Int×List UInt8=>Dk.l1 l s.1 s.2) l.length (fun k y=>y.length=8 * k) (fun r=>∃ d,r=.inr d∧d.length=8 * l.length)
    (by
      intro k y hk hy;obtain ⟨b,hb,hb8⟩:=big_f (hd _ (List.getElem_mem hk));show ∃ s',Dk.l1 l (k:Int) y=some (.next (((k+1:Nat):Int),s'))∧s'.length=8 * (k+1)
      unfold Dk.l1;rw [Ba,if_pos (by omega),Dg hk,Option.bind_some,isDig_f (hd _ (List.getElem_mem hk)),Option.bind_some,if_neg (by decide),hb,Option.bind_some,K3 (by omega),Option.bind_some,Cs (by omega) (by omega),Option.bind_some]
      exact ⟨_,rfl,by rw [List.length_append,hy,hb8];omega⟩)
    (by
      intro y hy;unfold Dk.l1;rw [Ba,if_neg (by omega)]
      exact ⟨_,rfl,_,rfl,hy⟩) [] rfl
  rw [hr,Option.bind_some];exact ⟨d,rfl,hq⟩
def md (m:Message_forge):List UInt8:=(Ed m).getD []
structure MsgOk (m:Message_forge):Prop where
  user:Dig m.user
  number:Dig m.number
  base:Dig m.base
theorem pdT_dig (p:List TreeChange):Dig (pdT p).1:=by
  unfold pdT;split
  · exact (Hq (by decide) (by decide):Dig 0)
  · next h=>exact pd_dig ((Oa p).1 (by simpa using h)).2
theorem md_f {m:Message_forge} (h:MsgOk m):Ed m=some (md m)∧(md m).length=32:=by
  have e:∃ d,Ed m=some d∧d.length=32:=by
    unfold Ed;rw [PatchDigest_f,Option.bind_some]
    obtain ⟨d,h1,h2⟩:=message_f (l:=[m.user,m.number,m.base,(pdT m.patch.Changes).1]) (by simp) (by
      intro x hx;simp only [List.mem_cons,List.not_mem_nil,or_false] at hx;rcases hx with rfl | rfl | rfl | rfl
      · exact h.user
      · exact h.number
      · exact h.base
      · exact pdT_dig _)
    rw [h1,Option.bind_some];exact ⟨d,rfl,h2⟩
  obtain ⟨d,h1,h2⟩:=e;have:md m=d:=by unfold md;rw [h1];rfl
  rw [this];exact ⟨h1,h2⟩
end Go.Dc
