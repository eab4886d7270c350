import Derived.Test.YtmmegcjbdkaffaaGreatDoorDcFQ
set_option linter.unusedSimpArgs false
set_option linter.unusedVariables false
set_option maxRecDepth 4000
namespace Go.Dc
open Go
theorem duplicates (keys:List Int) (events:List ForgeEvent) (n:Int) (hs:events.length * 56≤140737488351232):Et keys events n=some true:=by
  unfold Et;rw [withs_f (by simp;omega),Option.bind_some]
  show ((Ej keys (events++[evX n,evL n])).bind fun y2=>(Ei (events++[evX n,evL n]) [evL n]).bind fun y3=>(Ej keys y3).bind _)=_;rw [withs_f (by rw [List.length_append];simp;omega)]
  obtain ⟨r2,q2,b2⟩:=Run_any keys (events++[evX n,evL n]);obtain ⟨r4,q4,b4⟩:=Run_any keys ((events++[evX n,evL n])++[evL n]);by_cases hv4:(fvF keys ((events++[evX n,evL n])++[evL n])).Code=0
  · obtain ⟨hv2,_,hle4⟩:=fv_app hv4;obtain ⟨hv1,hev,hle⟩:=fv_app hv2;have hle:events.length+2≤40:=hle;obtain ⟨s,out,t,v,r1,h,ho,hvs,ht,hvl,hr⟩:=Ve hv1;obtain ⟨hn0,hn1⟩:=evC_net (net4 0 0 n _) (hev (evL n) (by simp))
    have hn0:0≤n:=hn0;obtain ⟨k,rfl⟩:=Int.eq_ofNat_of_zero_le hn0;have hfl:=h.fl;have hk:=fv_keys hv1;have hve:=h.vers;have hlog:=h.log;obtain ⟨c,s1,hs1,hI1⟩:=Qy h (by omega) hk (hev (evX (k:Int)) (by simp))
    obtain ⟨c2,s2,hs2,hI2⟩:=Qy hI1 (by omega) hk (hev (evL (k:Int)) (by simp))
    obtain ⟨c3,s3,hs3,hI3⟩:=Qy hI2 (by omega) hk (hev (evL (k:Int)) (by simp))
    have rr2:Ov (st0 keys) [] (events++[evX (k:Int),evL (k:Int)])=some (s2,out++[c]++[c2]):=by
      rw [U0,r1,Option.bind_some];simp only;rw [He hs1,He hs2];rfl
    have rr4:Ov (st0 keys) [] ((events++[evX (k:Int),evL (k:Int)])++[evL (k:Int)])=some (s3,out++[c]++[c2]++[c3]):=by
      rw [U0,rr2,Option.bind_some];simp only;rw [He hs3];rfl
    obtain ⟨t2,v2,hvs2,ht2,hvl2,hr2⟩:=run_of hv2 rr2 hI2 (by omega)
    have hlen:(out++[c]++[c2]).length=out.length+2:=by rw [List.length_append,List.length_append,List.length_singleton,List.length_singleton]
    have hat:at? (out++[c]++[c2]) (((out++[c]++[c2]).length:Int) - 2)=some c:=by
      rw [hlen,show ((out.length+2:Nat):Int) - 2=(out.length:Int) by omega,Cb (by rw [hlen];omega)]
      simp
    have hlt2:¬ ((out++[c]++[c2]).length:Int) < 2:=by rw [hlen];omega
    by_cases hc:c=0
    · by_cases hc2:c2=0
      · subst hc hc2;have e6:=step_dup (u:=0) (k:=0) (n:=k) (p:=⟨[]⟩) (s:=s) (by omega)
        rw [show (⟨6,0,0,(k:Int),⟨[]⟩⟩:ForgeEvent)=evX (k:Int) from rfl,hs1] at e6
        have hlt:k < s.flight.length:=by
          by_cases hlt:k < s.flight.length
          · exact hlt
          · rw [dif_neg hlt] at e6;exact absurd (congrArg Prod.fst (Option.some.inj e6)) (by simp)
        rw [dif_pos hlt] at e6
        have h20:¬ s.flight.length ≥ 20:=by
          intro h20;rw [if_pos h20] at e6;exact absurd (congrArg Prod.fst (Option.some.inj e6)) (by simp)
        rw [if_neg h20] at e6;have es1:s1=dupS s k s.flight[k]:=congrArg Prod.snd (Option.some.inj e6);have hm:=h.let_ _ (List.getElem_mem hlt);generalize hmm:s.flight[k]=m at hm es1;have htk:(s.flight.take (k+1)).length=k+1:=by rw [List.length_take];omega
        have hf1:s1.flight=s.flight.take k++m::m::s.flight.drop (k+1):=by
          rw [es1];unfold dupS;simp only;rw [List.take_succ_eq_append_getElem hlt,hmm];simp
        have hkl:(s.flight.take k).length=k:=by rw [List.length_take];omega
        have hl1:k < s1.flight.length:=by rw [hf1,List.length_append,hkl];simp
        have hg1:s1.flight[k]=m:=by
          have:s1.flight[k]? = some m:=by rw [hf1,List.getElem?_append_right (by omega),hkl];simp
          rw [List.getElem?_eq_getElem hl1] at this;exact Option.some.inj this
        have hd1:(drp s1 k).flight=s.flight.take k++m::s.flight.drop (k+1):=by
          unfold drp;simp only;rw [hf1,List.take_append_of_le_length (by omega),List.take_of_length_le (by omega),List.drop_append,hkl,List.drop_eq_nil_of_le (by omega)]
          simp
        have e4:=H5 (u:=0) (k:=0) (n:=k) (p:=⟨[]⟩) (s:=s1) (by have:=hI1.fl;omega)
        rw [show (⟨4,0,0,(k:Int),⟨[]⟩⟩:ForgeEvent)=evL (k:Int) from rfl,hs2,dif_pos hl1,hg1] at e4;have hm1:LetOk s1.versions keys.length (events.length+1) m:=by rw [← hg1];exact hI1.let_ _ (List.getElem_mem hl1)
        obtain ⟨D,key,d1,k1,sok,w1,w2,w3,w4,w5⟩:=del_zero (hI1.drp k) (by omega) hk hm1 e4.symm
        have hl2:k < s2.flight.length:=by rw [w3,hd1,List.length_append,hkl];simp
        have hg2:s2.flight[k]=m:=by
          have:s2.flight[k]? = some m:=by rw [w3,hd1,List.getElem?_append_right (by omega),hkl];simp
          rw [List.getElem?_eq_getElem hl2] at this;exact Option.some.inj this
        have e5:=H5 (u:=0) (k:=0) (n:=k) (p:=⟨[]⟩) (s:=s2) (by have:=hI2.fl;omega)
        rw [show (⟨4,0,0,(k:Int),⟨[]⟩⟩:ForgeEvent)=evL (k:Int) from rfl,hs3,dif_pos hl2,hg2] at e5;have hm2:LetOk s2.versions keys.length (events.length+1+1) m:=by rw [← hg2];exact hI2.let_ _ (List.getElem_mem hl2)
        have hst:Bn (drp s2 k) m=some (16,drp s2 k):=by
          refine del_stale (hI2.drp k) (by omega) hk hm2 (key:=key) ?_ sok (D:=⟨D.tree,D.base,D.sent,m.number⟩) ?_ (Int.le_refl _)
          · show at? s2.keys m.user=some key;rw [w1];exact k1
          · show at? s2.developers m.user=_;rw [w2];obtain ⟨a0,a1,a2⟩:=G5 d1;unfold at?;rw [if_pos a0];simp [a1]
        rw [hst] at e5;have e5:=Option.some.inj e5;have ec:c3=16:=congrArg Prod.fst e5;have es:s3=drp s2 k:=congrArg Prod.snd e5;subst ec es;have hr4:=Run_f hv4 rr4 (v:=v2) (t:=t2) hvs2 (by have:=hI2.vers;have:=hI2.log;omega) ht2
        rw [hr2,Option.bind_some,Option.bind_some,hr4,Option.bind_some];simp only [decide_true,Bool.not_true,Bool.false_eq_true,if_false,Option.bind_some];rw [decide_eq_false hlt2];simp only [decide_true,Bool.not_true,Bool.false_eq_true,if_false,Option.bind_some];rw [Bz (by omega) (by omega),Option.bind_some,hat,Option.bind_some]
        simp only [decide_true,Bool.not_true,Bool.false_eq_true,if_false,Option.bind_some];rw [Vn (by rw [List.length_append,List.length_singleton];omega),Option.bind_some]
        simp only [decide_true,Bool.not_true,Bool.false_eq_true,if_false,Option.bind_some];rw [Vn (by omega),Option.bind_some]
        simp only [decide_true,if_true,Option.bind_some];rw [tree_ok ht2,show (drp s2 k).log=s2.log from rfl,log_refl hI2 (by omega)]
        simp [Eh]
      · rw [hr2,Option.bind_some,Option.bind_some,q4,Option.bind_some];simp only [decide_true,Bool.not_true,Bool.false_eq_true,if_false,Option.bind_some];by_cases h4:r4.2.2.2.Code=0
        · rw [h4];simp only [decide_true,Bool.not_true,Bool.false_eq_true,if_false,Option.bind_some];rw [decide_eq_false hlt2];simp only [Bool.false_eq_true,if_false];rw [Bz (by omega) (by omega),Option.bind_some,hat,Option.bind_some,Vn (by rw [List.length_append,List.length_singleton];omega)]
          simp [hc,hc2,Eh]
        · simp [h4,Eh]
    · rw [hr2,Option.bind_some,Option.bind_some,q4,Option.bind_some];simp only [decide_true,Bool.not_true,Bool.false_eq_true,if_false,Option.bind_some];by_cases h4:r4.2.2.2.Code=0
      · rw [h4];simp only [decide_true,Bool.not_true,Bool.false_eq_true,if_false,Option.bind_some];rw [decide_eq_false hlt2];simp only [Bool.false_eq_true,if_false];rw [Bz (by omega) (by omega),Option.bind_some,hat,Option.bind_some]
        simp [hc,Eh]
      · simp [h4,Eh]
  · rw [q2,Option.bind_some,Option.bind_some,q4,Option.bind_some];have:=b4 hv4;by_cases h2:r2.2.2.2.Code=0 <;> simp [h2,this,Eh]
end Go.Dc
