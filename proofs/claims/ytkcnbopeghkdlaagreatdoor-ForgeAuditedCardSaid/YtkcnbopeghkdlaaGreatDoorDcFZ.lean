import Derived.Test.YtkcnbopeghkdlaaGreatDoorDcFC
set_option linter.unusedSimpArgs false
set_option linter.unusedVariables false
set_option maxRecDepth 4000
namespace Go.Dc
open Go
theorem entries_refl:∀ {l:Df},(∀ e∈l,Dj e.Patch e.Patch=some true)→l.length≤1000→Cc l l=some true:=by
 intro l h hl;unfold Cc;rw [Aw rfl,Ae (by decide),scan0 l (fun _ _=>(Option.none:Option Bool)) ?_ ?_,Aa]
 ·cases hs:Ll (fun _ _=>(Option.none:Option Bool)) 0 l with
  | none=>rfl
  | some y=>obtain ⟨j,hj,e⟩:=Mr hs;cases e
 ·intro k hk _;unfold Cc.l1;rw [A2,Af (by omega),Ds hk,Aa,Aa]
  simp only [Dd,C6,Bc,Cg,Aa,h _ (A5 hk)];rw [C9 (by omega) (by omega)];rfl
 ·unfold Cc.l1;rw [A2,Ae (by omega)]
theorem log_refl {keys:List Int} {n:Nat} {s:State_forge} (h:Inv keys n s) (hn:n≤1000):Cc s.log s.log=some true:=by
 have hlog:=h.log;have hve:=h.vers;refine entries_refl (fun e he=>?_) (by omega)
 obtain ⟨k,hk,rfl⟩:=Cd he;obtain ⟨A,B,_,_,h3⟩:=h.rep k hk;obtain ⟨h1,h2,_⟩:=T3 (p:=s.log[k].Patch.Changes) (l:=A) (by rw [h3])
 exact tp_refl (l:=s.log[k].Patch.Changes) h2 (by omega)
theorem root_spec (keys:List Int) (events:B1) (i:Int):B8 keys events i=some true:=by
 unfold B8;by_cases hv:(fvF keys events).Code=0
 ·obtain ⟨s,h⟩:=ran hv;obtain ⟨out,r1,t,hr⟩:=h.runs;have hlen:=h.len;have hd:=lv_dig h.leaf;have hl64:(lv s.log).length≤64:=by rw [Ug];omega
  have hpr:∃ q,Oy keys events i=some q:=by
   rw [Prove_g hv h];by_cases hi:i < 0∨i ≥ s.log.length
   ·rw [Af hi];exact ⟨_,rfl⟩
   ·rw [Ae hi];obtain ⟨k,rfl⟩:=Int.eq_ofNat_of_zero_le (show 0≤i by omega)
    obtain ⟨p,_,_,e,_⟩:=TProve_f hd hl64 (i:=k) (by rw [Ug];omega)
    exact ⟨_,e⟩
  obtain ⟨q,hq⟩:=hpr;rw [hr,Aa,h.root,Aa,hq,Aa];simp only [Dd,C6,Bc,Cg]
  obtain ⟨r,e,rfl⟩:=Ov (f:=fun x:Int×List Int=>B8.l1 (t,s.log,out,⟨0,0⟩) x.1 x.2) s.log.length (fun k x=>x=lv (s.log.take k)) (fun r=>r=.inr (lv s.log)) (by
   rintro k x hk rfl;refine ⟨_,?_,rfl⟩;rw [lv_succ hk];unfold B8.l1;simp only;rw [A2,Af (by omega),Ds hk,Aa,(h.leaf _ (A5 hk)).1,Aa]
   simp only [Dd,C6,Bc,Cg];rw [H6 (by rw [Ug,Bg,Ar];omega),Aa,C9 (by omega) (by omega),Aa];rfl) (by
   rintro x rfl;unfold B8.l1;simp only;rw [A2,Ae (by omega),C2]
   exact ⟨_,rfl,rfl⟩) [] rfl
  rw [e,Aa];simp only;unfold B8.j1;rw [TRoot_f hd hl64,Aa];simp only [Dd,C6,Bc,Cg,Aa];rw [Prove_g hv h] at hq
  have c1:(if decide (i < 0)=true then some true else some (decide (i ≥ (s.log.length:Int))))=some (decide (i < 0∨i ≥ s.log.length)):=by
   rw [A2];by_cases h1:i < 0
   ·rw [Af h1,Aw (.inl h1)]
   ·rw [Ae h1];exact congrArg some (C1.2 ⟨.inr,fun h2=>h2.resolve_left h1⟩)
  rw [c1,Aa,A2];by_cases hi:i < 0∨i ≥ s.log.length
  ·rw [Af hi] at hq ⊢;cases hq;rw [show Qw 3 (-20)=some ⟨3,-20⟩ from rfl,Aa];simp [Ns]
  ·rw [Ae hi] at hq ⊢;obtain ⟨k,rfl⟩:=Int.eq_ofNat_of_zero_le (show 0≤i by omega)
   obtain ⟨p,p1,_,e,_⟩:=TProve_f hd hl64 (i:=k) (by rw [Ug];omega)
   rw [e] at hq ⊢;cases hq;rw [Aa];simp only [Dd,G0,Aa];rw [ints_refl p (by omega),Aa]
   simp [Ns]
 ·rw [Run_bad hv,Aa,Root_bad hv,Aa,Prove_bad hv,Aa];simp [hv,Ns]
theorem audited (keys:List Int) (events:B1) (i:Int):Lx keys events i=some true:=by
 unfold Lx;by_cases hv:(fvF keys events).Code=0
 ·obtain ⟨s,h⟩:=ran hv;obtain ⟨out,r1,t,hr⟩:=h.runs;have hlen:=h.len;have hd:=lv_dig h.leaf;have hl64:(lv s.log).length≤64:=by rw [Ug];omega
  rw [hr,Aa,Prove_g hv h];by_cases hi:i < 0∨i ≥ s.log.length
  ·rw [Af hi,Aa,h.root,Aa];simp [Ns]
  ·rw [Ae hi];obtain ⟨k,rfl⟩:=Int.eq_ofNat_of_zero_le (show 0≤i by omega)
   have hk:k < s.log.length:=by omega
   obtain ⟨p,p1,p2,e,e2⟩:=TProve_f hd hl64 (i:=k) (by rw [Ug];omega)
   have ev:=TVerify_f hd hl64 p1 p2 (i:=k) (by rw [Ug];omega) e2
   have hel:(lv s.log)[k]'(by rw [Ug];exact hk)=lf s.log[k]:=by unfold lv;simp
   rw [hel,Ug] at ev;rw [e,Aa,h.root,Aa];simp only [Dd,C6,Bc,Cg,Aa];rw [Az (show ¬ (k:Int) < 0 by omega),Ae Ay,Az (show ¬ (k:Int) ≥ (s.log.length:Int) by omega),Aa,Ae Ay,Ds hk,Aa,(h.leaf _ (A5 hk)).1,Aa]
   simp only;rw [ev,Aa];simp [Ns]
 ·rw [Run_bad hv,Aa,Prove_bad hv,Aa,Root_bad hv,Aa];simp [hv,Ns]
theorem append_only (keys:List Int) (events:B1) (k:Int):Cv keys events k=some true:=by
 unfold Cv
 have c1:(if decide (k < 0)=true then some true else some (decide (k > (events.length:Int))))=some (decide (k < 0∨k > events.length)):=by
  rw [A2];by_cases h1:k < 0
  ·rw [Af h1,Aw (.inl h1)]
  ·rw [Ae h1];exact congrArg some (C1.2 ⟨.inr,fun h2=>h2.resolve_left h1⟩)
 rw [c1,Aa,A2];by_cases hk:k < 0∨k > events.length
 ·rw [Af hk,Ns,Aa]
 ·rw [Ae hk];obtain ⟨m,rfl⟩:=Int.eq_ofNat_of_zero_le (show 0≤k by omega)
  have hm:m≤events.length:=by omega
  have hcut:cut? events 0 (m:Int)=some (events.take m):=by rw [Vd (by omega) (by omega) (by omega)];simp
  by_cases hv:(fvF keys events).Code=0
  ·obtain ⟨s,h⟩:=ran hv;have hsplit:events.take m++events.drop m=events:=H3 m events
   obtain ⟨hv2,hev,_⟩:(fvF keys (events.take m)).Code=0∧(∀ e∈events.drop m,evC keys.length e=0)∧True:=by
    obtain ⟨h1,h2,h3⟩:=(Xz _ _).1 hv;exact ⟨(Xz _ _).2 ⟨h1,by rw [Bg];omega,fun e he=>h3 e (C3 he)⟩,fun e he=>h3 e (Et he),trivial⟩
   obtain ⟨s2,h2⟩:=ran hv2;obtain ⟨out,r1,t,hr⟩:=h.runs;obtain ⟨out2,r2,t2,hr2⟩:=h2.runs;have hlen:=h.len;have hlen2:=h2.len;have h40:=h.n40
   obtain ⟨ex,hex⟩:∃ r,s.log=s2.log++r:=by
    have:runs s2 out2 (events.drop m)=some (s,out):=by
     have e:=runs_app (events.take m) (events.drop m) (st0 keys) [];rw [hsplit,r1,r2,Aa] at e;exact e.symm
    have hkk:∀ k∈keys,Oc k:=((Xz _ _).1 hv).1.2.2;exact runs_log hkk (events.drop m) (events.take m).length s2 out2 h2.inv (by rw [Bg,Bz];omega) hev s out this
   have hle:s2.log.length≤s.log.length:=by rw [hex,Au];omega
   have htk:s.log.take s2.log.length=s2.log:=by rw [hex,List.take_left]
   rw [hr,Aa,hcut,Aa,hr2,Aa];simp only [Dd,C6,Bc,Cg,Aa];have hcl:cut? s.log 0 (s2.log.length:Int)=some s2.log:=by rw [Vd (by omega) (by omega) (by omega)];simp [htk]
   rw [A2,Ae (by omega),hcl,Aa,log_refl h2.inv (by rw [Bg];omega),Aa,Aa]
   simp only [C6,Bc,Cg];have hd:=lv_dig h.leaf;have hl64:(lv s.log).length≤64:=by rw [Ug];omega
   obtain ⟨r,e,rfl⟩:=Ov (f:=fun x:Int×List Int=>Cv.l1 (t,s.log,out,⟨0,0⟩) x.1 x.2) s.log.length (fun k x=>x=lv (s.log.take k)) (fun r=>r=.inr (lv s.log)) (by
    rintro k x hk rfl;refine ⟨_,?_,rfl⟩;rw [lv_succ hk];unfold Cv.l1;simp only;rw [A2,Af (by omega),Ds hk,Aa,(h.leaf _ (A5 hk)).1,Aa]
    simp only [Dd,C6,Bc,Cg];rw [H6 (by rw [Ug,Bg,Ar];omega),Aa,C9 (by omega) (by omega),Aa];rfl) (by
    rintro x rfl;unfold Cv.l1;simp only;rw [A2,Ae (by omega),C2]
    exact ⟨_,rfl,rfl⟩) [] rfl
   rw [e,Aa];simp only;unfold Cv.j1;simp only;by_cases hz:s2.log.length=0
   ·rw [A2,Af (by omega),Ns,Aa]
   ·rw [A2,Ae (by omega),hcut,Aa,h2.root,Aa,h.root,Aa]
    have ht2:(lv s.log).take s2.log.length=lv s2.log:=by unfold lv;rw [← List.map_take,htk]
    obtain ⟨p,p1,p2,e1,e2⟩:=TCons_f hd hl64 (m:=s2.log.length) (by omega) (by rw [Ug];omega)
    have ev:=TVerifyC_f hd hl64 p1 p2 (m:=s2.log.length) (by omega) (by rw [Ug];omega) e2
    rw [ht2,Ug] at ev;rw [e1,Aa];simp only;rw [ev,Aa];simp [Ns]
  ·rw [Run_bad hv,Aa,hcut,Aa]
   have:∃ y,Mu keys (events.take m)=some y:=by
    by_cases hv2:(fvF keys (events.take m)).Code=0
    ·obtain ⟨s2,h2⟩:=ran hv2;obtain ⟨out2,r2,t2,hr2⟩:=h2.runs;exact ⟨_,hr2⟩
    ·exact ⟨_,Run_bad hv2⟩
   obtain ⟨y,hy⟩:=this;rw [hy,Aa];simp [hv,Ns]
end Go.Dc
