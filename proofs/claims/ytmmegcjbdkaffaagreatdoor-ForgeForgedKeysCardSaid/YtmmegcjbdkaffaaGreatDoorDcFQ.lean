import Derived.Test.YtmmegcjbdkaffaaGreatDoorDcFP
set_option linter.unusedSimpArgs false
set_option linter.unusedVariables false
set_option maxRecDepth 4000
namespace Go.Dc
open Go
def evT (n:Int):ForgeEvent:=⟨7,0,0,n,⟨[]⟩⟩
def evX (n:Int):ForgeEvent:=⟨6,0,0,n,⟨[]⟩⟩
theorem Run_any (keys:List Int) (events:List ForgeEvent):∃ r,Ej keys events=some r∧((fvF keys events).Code≠0→r.2.2.2.Code≠0):=by
  by_cases hv:(fvF keys events).Code=0
  · obtain ⟨s,out,t,v,_,_,_,_,_,_,hr⟩:=Ve hv;exact ⟨_,hr,fun h=>absurd hv h⟩
  · exact ⟨_,Run_bad hv,fun h=>h⟩
theorem del_zero {keys:List Int} {n:Nat} {s s':State_forge} (h:Inv keys n s) (hn:n≤100) (hk:∀ k∈keys,Gz k) {m:Message_forge} (hm:LetOk s.versions keys.length n m) (ha:Bn s m=some (0,s')) :
    ∃ D key,at? s.developers m.user=some D∧at? s.keys m.user=some key∧sg key (md m)=m.signature∧s'.keys=s.keys∧s'.developers=s.developers.set m.user.toNat ⟨D.tree,D.base,D.sent,m.number⟩∧s'.flight=s.flight∧∃ r,s'.versions=s.versions++r:=by
  obtain ⟨D,key,V,N,T,v,d1,k1,_,_,_,_,e⟩:=step_del h hn hk hm;rw [ha] at e;have e:=Option.some.inj e;refine ⟨D,key,d1,k1,?_⟩;by_cases hs:sg key (md m)=m.signature
  · rw [if_neg (fun hh=>hh hs)] at e;by_cases hq:m.number≤D.accepted
    · rw [if_pos hq] at e;exact absurd (congrArg Prod.fst e) (by simp)
    · rw [if_neg hq] at e;unfold accG at e;split at e
      · next hc=>exact absurd (congrArg Prod.fst e).symm hc
      split at e
      · exact absurd (congrArg Prod.fst e) (by simp)
      split at e
      · exact absurd (congrArg Prod.fst e) (by simp)
      split at e
      · next hc=>exact absurd (congrArg Prod.fst e).symm hc
      · have:=congrArg Prod.snd e;simp only at this;subst this;exact ⟨hs,rfl,rfl,rfl,_,rfl⟩
  · rw [if_pos hs] at e;exact absurd (congrArg Prod.fst e) (by simp)
theorem del_bad {keys:List Int} {n:Nat} {s:State_forge} (h:Inv keys n s) (hn:n≤100) (hk:∀ k∈keys,Gz k) {m:Message_forge} (hm:LetOk s.versions keys.length n m) {key:Int} (k2:at? s.keys m.user=some key) (hs:sg key (md m)≠m.signature) :
    Bn s m=some (18,s):=by
  obtain ⟨D,key',V,N,T,v,d1,k1,_,_,_,_,e⟩:=step_del h hn hk hm;rw [k2] at k1;cases k1;rw [e,if_pos hs]
theorem del_stale {keys:List Int} {n:Nat} {s:State_forge} (h:Inv keys n s) (hn:n≤100) (hk:∀ k∈keys,Gz k) {m:Message_forge} (hm:LetOk s.versions keys.length n m) {key:Int} (k2:at? s.keys m.user=some key) (hs:sg key (md m)=m.signature)
    {D:Developer_forge} (d2:at? s.developers m.user=some D) (hq:m.number≤D.accepted):Bn s m=some (16,s):=by
  obtain ⟨D',key',V,N,T,v,d1,k1,_,_,_,_,e⟩:=step_del h hn hk hm;rw [k2] at k1;cases k1;rw [d2] at d1;cases d1;rw [e,if_neg (fun hh=>hh hs),if_pos hq]
theorem tampering (keys:List Int) (events:List ForgeEvent) (n:Int) (hs:events.length * 56≤140737488351232):Er keys events n=some true:=by
  unfold Er;rw [withs_f (by simp;omega),Option.bind_some,withs_f (by simp;omega)]
  show ((Ej keys (events++[evL n])).bind fun y2=>(Ej keys events).bind fun y3=>(some (events++[evT n,evL n])).bind fun y4=>(Ej keys y4).bind _)=_;obtain ⟨r2,q2,b2⟩:=Run_any keys (events++[evL n]);obtain ⟨r3,q3,b3⟩:=Run_any keys events;obtain ⟨r5,q5,b5⟩:=Run_any keys (events++[evT n,evL n]);by_cases hv2:(fvF keys (events++[evL n])).Code=0
  · by_cases hv5:(fvF keys (events++[evT n,evL n])).Code=0
    · obtain ⟨hv1,hev,hle⟩:=fv_app hv5;have hle:events.length+2≤40:=hle;obtain ⟨s,out,t,v,r1,h,ho,hvs,ht,hvl,hr⟩:=Ve hv1;obtain ⟨hn0,hn1⟩:=evC_net (net4 0 0 n _) (hev (evL n) (by simp))
      have hn0:0≤n:=hn0;obtain ⟨k,rfl⟩:=Int.eq_ofNat_of_zero_le hn0;have hfl:=h.fl;have hk:=fv_keys hv1;have hve:=h.vers;have hlog:=h.log;obtain ⟨c,s',hs1,hI1⟩:=Qy h (by omega) hk (hev (evL (k:Int)) (by simp))
      have rr2:Ov (st0 keys) [] (events++[evL (k:Int)])=some (s',out++[c]):=by
        rw [U0,r1,Option.bind_some];simp only;rw [He hs1];rfl
      obtain ⟨t2,v2,_,_,_,hr2⟩:=run_of hv2 rr2 hI1 (by omega)
      rw [hr2,Option.bind_some,hr,Option.bind_some,Option.bind_some];by_cases hc:c=0
      · subst hc;have e4:=H5 (u:=0) (k:=0) (n:=k) (p:=⟨[]⟩) (s:=s) (by omega)
        rw [show (⟨4,0,0,(k:Int),⟨[]⟩⟩:ForgeEvent)=evL (k:Int) from rfl,hs1] at e4
        have hlt:k < s.flight.length:=by
          by_cases hlt:k < s.flight.length
          · exact hlt
          · rw [dif_neg hlt] at e4;exact absurd (congrArg Prod.fst (Option.some.inj e4)) (by simp)
        rw [dif_pos hlt] at e4;have hm:=h.let_ _ (List.getElem_mem hlt);obtain ⟨D,key,d1,k1,sok,_⟩:=del_zero (h.drp k) (by omega) hk hm e4.symm
        have e7:=Qk (u:=0) (k:=0) (n:=k) (p:=⟨[]⟩) (s:=s) h.sigs;rw [dif_pos hlt] at e7
        have hdr:drp (tamS s k s.flight[k]) k=drp s k:=by
          unfold drp tamS;simp only;rw [List.take_set_of_le (Nat.le_refl _),List.drop_set_of_lt (Nat.lt_succ_self _)]
        have e8:=H5 (u:=0) (k:=0) (n:=k) (p:=⟨[]⟩) (s:=tamS s k s.flight[k]) (by show (s.flight.set k _).length≤1000;rw [List.length_set];omega)
        have hlt2:k < (tamS s k s.flight[k]).flight.length:=by show k < (s.flight.set k _).length;rw [List.length_set];exact hlt
        rw [dif_pos hlt2,hdr] at e8;have hg:(tamS s k s.flight[k]).flight[k]=tmp1 s.flight[k]:=List.getElem_set_self hlt2;rw [hg] at e8;have hx:=hm.sig
        have hbad:Bn (drp s k) (tmp1 s.flight[k])=some (18,drp s k):=by
          refine del_bad (h.drp k) (by omega) hk hm.tmp1 k1 ?_
          show sg key (md s.flight[k])≠(s.flight[k].signature+1) % 2305843009213693951;rw [sok];obtain ⟨x1,x2⟩:=hx;omega
        rw [hbad] at e8
        have rr5:Ov (st0 keys) [] (events++[evT (k:Int),evL (k:Int)])=some (drp s k,out++[0]++[18]):=by
          rw [U0,r1,Option.bind_some];simp only;rw [He (show Gp s (evT (k:Int))=some (0,tamS s k s.flight[k]) from e7),He (show Gp (tamS s k s.flight[k]) (evL (k:Int))=some (18,drp s k) from e8)];rfl
        have hr5:=Run_f hv5 rr5 (v:=v) (t:=t) hvs (by omega) ht
        rw [hr5,Option.bind_some];simp only [decide_true,Bool.not_true,Bool.false_eq_true,if_false,Option.bind_some];rw [Vn (by omega),Option.bind_some]
        simp only [decide_true,Bool.not_true,Bool.false_eq_true,if_false,Option.bind_some];rw [Vn (by rw [List.length_append,List.length_singleton];omega),Option.bind_some]
        simp only [decide_true,if_true,Option.bind_some];rw [tree_ok ht,show (drp s k).log=s.log from rfl,log_refl h (by omega)]
        simp [Eh]
      · rw [q5,Option.bind_some];simp only [decide_true,Bool.not_true,Bool.false_eq_true,if_false,Option.bind_some];rw [Vn (by omega),Option.bind_some]
        by_cases h5:r5.2.2.2.Code=0
        · simp [h5,hc,Eh]
        · simp [h5,Eh]
    · rw [q2,Option.bind_some,q3,Option.bind_some,Option.bind_some,q5,Option.bind_some];have:=b5 hv5;by_cases h2:r2.2.2.2.Code=0 <;> by_cases h3:r3.2.2.2.Code=0 <;> simp [h2,h3,this,Eh]
  · rw [q2,Option.bind_some,q3,Option.bind_some,Option.bind_some,q5,Option.bind_some];have:=b2 hv2;simp [this,Eh]
end Go.Dc
