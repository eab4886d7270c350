import Derived.Test.YtmmegcjbdkaffaaGreatDoorDcFV
set_option linter.unusedSimpArgs false
set_option linter.unusedVariables false
set_option maxRecDepth 4000
namespace Go.Dc
open Go
theorem sil_both {keys:List Int} {n:Nat} {u0:Int} {s s':State_forge} (h:Sil u0 s s') (hI:Inv keys n s) (hI':Inv keys n s') (hn:n≤100) (hk:∀ k∈keys,Gz k) {e:ForgeEvent} (he:evC keys.length e=0) (hne:¬ (¬ Net e∧e.User=u0)) {c:Int} {t:State_forge} (hs:Gp s e=some (c,t)) :
    ∃ t',Gp s' e=some (c,t')∧Sil u0 t t':=by
  have hfl:=hI.fl;have hfl':=hI'.fl;obtain ⟨K,u,key,N,p⟩:=e;by_cases hnet:Net ⟨K,u,key,N,p⟩
  · obtain ⟨h0,h1⟩:=evC_net hnet he;simp only at h0 h1;obtain ⟨k,rfl⟩:=Int.eq_ofNat_of_zero_le h0;have hll:s'.flight.length=s.flight.length:=by rw [h.fl]
    have hgt:∀ (h1:k < s.flight.length) (h2:k < s'.flight.length),s'.flight[k]=s.flight[k]:=by intro h1 h2;simp [h.fl]
    rcases hnet with rfl | rfl | rfl | rfl
    · have e:=H5 (u:=u) (k:=key) (n:=k) (p:=p) (s:=s) (by omega)
      have e':=H5 (u:=u) (k:=key) (n:=k) (p:=p) (s:=s') (by omega)
      rw [hs] at e;by_cases hlt:k < s.flight.length
      · rw [dif_pos hlt] at e;rw [dif_pos (by omega),hgt hlt (by omega)] at e'
        have hm:=hI.let_ _ (List.getElem_mem hlt);obtain ⟨t',a1,a2⟩:=(h.drp k).acc (hI.drp k) hn hk hm (h.nu _ (List.getElem_mem hlt)) e.symm;exact ⟨t',by rw [e'];exact a1,a2⟩
      · rw [dif_neg hlt] at e;rw [dif_neg (by omega)] at e'
        cases e;exact ⟨_,e',h⟩
    · have e:=step_drop (u:=u) (k:=key) (n:=k) (p:=p) (s:=s) (by omega)
      have e':=step_drop (u:=u) (k:=key) (n:=k) (p:=p) (s:=s') (by omega)
      rw [hs] at e;rw [hll] at e';by_cases hlt:k < s.flight.length
      · rw [if_pos hlt] at e e';cases e;exact ⟨_,e',h.drp k⟩
      · rw [if_neg hlt] at e e';cases e;exact ⟨_,e',h⟩
    · have e:=step_dup (u:=u) (k:=key) (n:=k) (p:=p) (s:=s) (by omega)
      have e':=step_dup (u:=u) (k:=key) (n:=k) (p:=p) (s:=s') (by omega)
      rw [hs] at e;by_cases hlt:k < s.flight.length
      · rw [dif_pos hlt] at e;rw [dif_pos (by omega),hgt hlt (by omega),hll] at e'
        by_cases h20:s.flight.length ≥ 20
        · rw [if_pos h20] at e e';cases e;exact ⟨_,e',h⟩
        · rw [if_neg h20] at e e';cases e;refine ⟨_,e',?_⟩;unfold dupS;rw [h.fl];refine h.flight fun m hm=>?_;rw [List.mem_append,List.mem_append,List.mem_singleton] at hm;rcases hm with (hm | rfl) | hm
          · exact h.nu m (List.mem_of_mem_take hm)
          · exact h.nu _ (List.getElem_mem hlt)
          · exact h.nu m (List.mem_of_mem_drop hm)
      · rw [dif_neg hlt] at e;rw [dif_neg (by omega)] at e'
        cases e;exact ⟨_,e',h⟩
    · have e:=Qk (u:=u) (k:=key) (n:=k) (p:=p) (s:=s) hI.sigs;have e':=Qk (u:=u) (k:=key) (n:=k) (p:=p) (s:=s') hI'.sigs;rw [hs] at e;by_cases hlt:k < s.flight.length
      · rw [dif_pos hlt] at e;rw [dif_pos (by omega),hgt hlt (by omega)] at e'
        cases e;refine ⟨_,e',?_⟩;unfold tamS;rw [h.fl];refine h.flight fun m hm=>?_;rcases List.mem_or_eq_of_mem_set hm with hm | rfl
        · exact h.nu m hm
        · show s.flight[k].user≠u0;exact h.nu _ (List.getElem_mem hlt)
      · rw [dif_neg hlt] at e;rw [dif_neg (by omega)] at e'
        cases e;exact ⟨_,e',h⟩
  · obtain ⟨hK,h0,h1,h3⟩:=evC_dev hnet he;simp only at hK h0 h1 h3;have hu:u≠u0:=fun hh=>hne ⟨hnet,hh⟩;have hkl:=hI.kl;obtain ⟨D,d1,d2,_⟩:=Ta (l:=s.developers) h0 (by rw [hI.devs];exact h1)
    have d1':at? s'.developers u=some D:=by rw [h.dv u hu];exact d1
    have hD:=hI.dev D d2;obtain ⟨⟨V⟩,v1,v2,_⟩:=Ta (l:=s.versions) hD.base.1 hD.base.2;have v1':at? s'.versions D.base=some ⟨V⟩:=by rw [h.vs];exact v1
    have hV:=hI.tree _ v2;have hve:=hI.vers;have hlog:=hI.log;obtain ⟨v,N',hv,hN,hvl⟩:=hI.newest;have hv':s'.versions=v++[⟨N'⟩]:=by rw [h.vs];exact hv
    rcases hK with rfl | rfl | rfl | rfl
    · have e:=Tu (u:=u) (k:=key) (n:=N) (p:=p) d1 v1 hD.tree hv (by omega)
      have e':=Tu (u:=u) (k:=key) (n:=N) (p:=p) d1' v1' hD.tree hv' (by omega)
      rw [hs] at e;by_cases hq:D.tree.Files=V
      · rw [if_pos hq] at e e';cases e;refine ⟨_,e',?_⟩;unfold pullS;rw [h.vs,h.fl,h.lg];exact h.set h0 _ h.nu _ _
      · rw [if_neg hq] at e e';cases e;exact ⟨_,e',h⟩
    · have e:=Tw (u:=u) (k:=key) (n:=N) (p:=p) d1;have e':=Tw (u:=u) (k:=key) (n:=N) (p:=p) d1';rw [hs] at e;by_cases hc:(C8 p.Changes D.tree.Files).2.Code≠0
      · rw [if_pos hc] at e e';cases e;exact ⟨_,e',h⟩
      · rw [if_neg hc] at e e';cases e;refine ⟨_,e',?_⟩;unfold M6;rw [h.vs,h.fl,h.lg];exact h.set h0 _ h.nu _ _
    · have e:=U5 (u:=u) (key:=key) (n:=N) (p:=p) d1 v1 (h3 rfl) ⟨h0,by omega⟩ ⟨hD.sent.1,by have:=hD.sent.2;omega⟩ ⟨hD.base.1,by have:=hD.base.2;omega⟩
      have e':=U5 (u:=u) (key:=key) (n:=N) (p:=p) d1' v1' (h3 rfl) ⟨h0,by omega⟩ ⟨hD.sent.1,by have:=hD.sent.2;omega⟩ ⟨hD.base.1,by have:=hD.base.2;omega⟩
      rw [hs] at e;rw [h.fl] at e';by_cases hc:(Nq V D.tree.Files).2.Code≠0
      · rw [if_pos hc] at e e';cases e;exact ⟨_,e',h⟩
      rw [if_neg hc] at e e';by_cases hq:(Nq V D.tree.Files).1.Changes=[]
      · rw [if_pos hq] at e e';cases e;exact ⟨_,e',h⟩
      rw [if_neg hq] at e e';by_cases h20:s.flight.length ≥ 20
      · rw [if_pos h20] at e e';cases e;exact ⟨_,e',h⟩
      · rw [if_neg h20] at e e';cases e;refine ⟨_,e',?_⟩;unfold pushS;rw [h.vs,h.fl,h.lg];refine h.set h0 _ (fun m hm=>?_) _ _;rcases List.mem_append.1 hm with hm | hm
        · exact h.nu m hm
        · rw [List.mem_singleton] at hm;subst hm;exact hu
    · have e:=O4 (u:=u) (k:=key) (n:=N) (p:=p) d1 v1;have e':=O4 (u:=u) (k:=key) (n:=N) (p:=p) d1' v1';rw [hs] at e;cases e;refine ⟨_,e',?_⟩;unfold M6;rw [h.vs,h.fl,h.lg];exact h.set h0 _ h.nu _ _
theorem sil_own {keys:List Int} {n:Nat} {u0:Int} {s s':State_forge} (h:Sil u0 s s') (hI:Inv keys n s) (hn:n≤100) {e:ForgeEvent} (he:evC keys.length e=0) (hnet:¬ Net e) (hu:e.User=u0) (h3:e.Kind≠3) {c:Int} {t:State_forge} (hs:Gp s e=some (c,t)):Sil u0 t s':=by
  obtain ⟨K,u,key,N,p⟩:=e;obtain ⟨hK,h0,h1,_⟩:=evC_dev hnet he;simp only at hK h0 h1 h3 hu;subst hu;obtain ⟨D,d1,d2,_⟩:=Ta (l:=s.developers) h0 (by rw [hI.devs];exact h1)
  have hD:=hI.dev D d2;obtain ⟨⟨V⟩,v1,v2,_⟩:=Ta (l:=s.versions) hD.base.1 hD.base.2;have hve:=hI.vers;have hlog:=hI.log;obtain ⟨v,N',hv,hN,hvl⟩:=hI.newest;rcases hK with rfl | rfl | rfl | rfl
  · have e:=Tu (u:=u) (k:=key) (n:=N) (p:=p) d1 v1 hD.tree hv (by omega)
    rw [hs] at e;by_cases hq:D.tree.Files=V
    · rw [if_pos hq] at e;cases e;exact h.own h0 _
    · rw [if_neg hq] at e;cases e;exact h
  · have e:=Tw (u:=u) (k:=key) (n:=N) (p:=p) d1;rw [hs] at e;by_cases hc:(C8 p.Changes D.tree.Files).2.Code≠0
    · rw [if_pos hc] at e;cases e;exact h
    · rw [if_neg hc] at e;cases e;exact h.own h0 _
  · exact absurd rfl h3
  · have e:=O4 (u:=u) (k:=key) (n:=N) (p:=p) d1 v1;rw [hs] at e;cases e;exact h.own h0 _
def Nt (u:Int) (l:List ForgeEvent):List ForgeEvent:=l.filter fun e=>!(!decide (Net e) && decide (e.User=u))
theorem sil_runs {keys:List Int} (hk:∀ k∈keys,Gz k) {u0:Int}:∀ (l:List ForgeEvent) (n:Nat) (s s':State_forge) (out out':List Int),Inv keys n s→Inv keys n s'→Sil u0 s s'→n+l.length≤90→(∀ e∈l,evC keys.length e=0) →
    (∀ e∈l,¬ Net e→e.User=u0→e.Kind≠3)→∀ (t:State_forge) (o:List Int),Ov s out l=some (t,o)→∃ t' o',Ov s' out' (Nt u0 l)=some (t',o')∧Sil u0 t t'∧Inv keys (n+l.length) t'
  | [],n,s,s',out,out',h,h',hS,_,_,_=>fun t o hr=>by rw [Ov] at hr;cases hr;exact ⟨s',out',rfl,hS,h'⟩
  | e::l,n,s,s',out,out',h,h',hS,hn,he,hw=>fun t o hr=>by
    rw [List.length_cons] at hn;have he0:=he e (by simp)
    obtain ⟨c,t1,h1,h2⟩:=Qy h (by omega) hk he0
    rw [He h1] at hr;unfold Nt;by_cases hown:¬ Net e∧e.User=u0
    · rw [List.filter_cons_of_neg (by simp [hown.1,hown.2])]
      have hS1:=sil_own hS h (by omega) he0 hown.1 hown.2 (hw e (by simp) hown.1 hown.2) h1
      obtain ⟨t',o',r1,r2,r3⟩:=sil_runs hk l (n+1) t1 s' (out++[c]) out' h2 h'.up hS1 (by omega) (fun x hx=>he x (by simp [hx])) (fun x hx=>hw x (by simp [hx])) t o hr
      exact ⟨t',o',r1,r2,by rw [List.length_cons,show n+(l.length+1)=n+1+l.length by omega];exact r3⟩
    · rw [List.filter_cons_of_pos (by
        by_cases hN:Net e
        · simp [hN]
        · have hU:¬ e.User=u0:=fun hh=>hown ⟨hN,hh⟩;simp [hN,hU])]
      obtain ⟨t1',q1,q2⟩:=sil_both hS h h' (by omega) hk he0 hown h1
      obtain ⟨c',t2,w1,w2⟩:=Qy h' (by omega) hk he0
      rw [q1] at w1;have w1:=Option.some.inj w1;have w3:t1'=t2:=congrArg Prod.snd w1;subst w3;rw [He q1];obtain ⟨t',o',r1,r2,r3⟩:=sil_runs hk l (n+1) t1 t1' (out++[c]) (out'++[c]) h2 w2 q2 (by omega) (fun x hx=>he x (by simp [hx])) (fun x hx=>hw x (by simp [hx])) t o hr
      exact ⟨t',o',r1,r2,by rw [List.length_cons,show n+(l.length+1)=n+1+l.length by omega];exact r3⟩
theorem Networked_f (e:ForgeEvent):Gr e=some (decide (Net e)):=by
  unfold Gr Net;by_cases h4:e.Kind=4
  · simp [h4]
  by_cases h5:e.Kind=5
  · simp [h4,h5]
  by_cases h6:e.Kind=6
  · simp [h4,h5,h6]
  by_cases h7:e.Kind=7
  · simp [h4,h5,h6,h7]
  · simp [h4,h5,h6,h7]
theorem silent (keys:List Int) (events:List ForgeEvent) (user:Int) (hs:events.length * 56≤140737488351232):Ay keys events user=some true:=by
  unfold Ay
  obtain ⟨r,e,hr⟩:=inv_loopE (f:=fun s:Int×List ForgeEvent=>Ay.l1 events user s.1 s.2) 0 events.length (Nat.zero_le _)
    (fun k l=>l=Nt user (events.take k)∧∀ j (h:j < events.length),j < k→¬ Net events[j]→events[j].User=user→events[j].Kind≠3)
    (fun r=>r=.inl true∨(r=.inr (Nt user events)∧∀ j (h:j < events.length),¬ Net events[j]→events[j].User=user→events[j].Kind≠3)) (by
      rintro k l _ hk ⟨rfl,hw⟩
      have hlen:(Nt user (events.take k)).length≤k:=by
        unfold Nt;have:=List.length_filter_le (fun e=>!(!decide (Net e) && decide (e.User=user))) (events.take k);rw [List.length_take] at this;omega
      have hoth:Nt user (events.take (k+1))=Nt user (events.take k)++if ¬ Net events[k]∧events[k].User=user then [] else [events[k]]:=by
        unfold Nt;rw [List.take_succ_eq_append_getElem hk,List.filter_append];congr 1;by_cases hN:Net events[k] <;> by_cases hU:events[k].User=user <;> simp [hN,hU]
      have hj:∀ x,Ay.j2 (k:Int) x=some (.next (((k+1:Nat):Int),x)):=by
        intro x;unfold Ay.j2;rw [Bz (by omega) (by omega),Option.bind_some];rfl
      have hnew:(¬ (¬ Net events[k]∧events[k].User=user∧events[k].Kind=3))→∀ j (h:j < events.length),j < k+1→¬ Net events[j]→events[j].User=user→events[j].Kind≠3:=by
        intro hq j h hjk a1 a2 a3;rcases Nat.lt_or_eq_of_le (Nat.le_of_lt_succ hjk) with h2 | h2
        · exact hw j h h2 a1 a2 a3
        · subst h2;exact hq ⟨a1,a2,a3⟩
      unfold Ay.l1;rw [Av,if_pos (by omega),Cb hk,Option.bind_some,Networked_f,Option.bind_some,Option.bind_some]
      by_cases hN:Net events[k]
      · left;refine ⟨Nt user (events.take (k+1)),?_,rfl,hnew fun hh=>hh.1 hN⟩;have hif:(if ¬ Net events[k]∧events[k].User=user then ([]:List ForgeEvent) else [events[k]])=[events[k]]:=if_neg fun hh=>hh.1 hN
        rw [hoth,hif,decide_eq_true hN];simp only [Bool.not_true,Bool.false_eq_true,if_false,Option.bind_some,Bool.not_false,if_true];rw [Ep (by rw [List.length_singleton];omega),Option.bind_some,hj]
      · rw [decide_eq_false hN];simp only [Bool.not_false,if_true];by_cases hU:events[k].User=user
        · rw [decide_eq_true hU];simp only [Option.bind_some,if_true];by_cases h3:events[k].Kind=3
          · right;rw [decide_eq_true h3,if_pos rfl,Eh];exact ⟨_,rfl,.inl rfl⟩
          · left;refine ⟨Nt user (events.take (k+1)),?_,rfl,hnew fun hh=>h3 hh.2.2⟩;have hif:(if ¬ Net events[k]∧events[k].User=user then ([]:List ForgeEvent) else [events[k]])=[]:=if_pos ⟨hN,hU⟩
            rw [hoth,hif,decide_eq_false h3,List.append_nil];simp only [Bool.false_eq_true,if_false,Bool.not_true];exact hj _
        · left;refine ⟨Nt user (events.take (k+1)),?_,rfl,hnew fun hh=>hU hh.2.1⟩;have hif:(if ¬ Net events[k]∧events[k].User=user then ([]:List ForgeEvent) else [events[k]])=[events[k]]:=if_neg fun hh=>hU hh.2
          rw [hoth,hif,decide_eq_false hU];simp only [Option.bind_some,Bool.false_eq_true,if_false,Bool.not_false,if_true];rw [Ep (by rw [List.length_singleton];omega),Option.bind_some,hj]) (by
      rintro l ⟨rfl,hw⟩;unfold Ay.l1;rw [Av,if_neg (by omega),List.take_length]
      exact ⟨_,rfl,.inr ⟨rfl,fun j h=>hw j h h⟩⟩) [] ⟨rfl,fun j h hj=>by omega⟩
  rw [show ((0:Nat):Int)=0 from rfl] at e;rw [e,Option.bind_some];rcases hr with rfl | ⟨rfl,hw⟩
  · rfl
  · show Ay.j1 keys events (Nt user events)=_;unfold Ay.j1;obtain ⟨r2,q2,_⟩:=Run_any keys (Nt user events);by_cases hv:(fvF keys events).Code=0
    · obtain ⟨s,out,t,v,r1,h,ho,hvs,ht,hvl,hr⟩:=Ve hv;obtain ⟨⟨hk1,hk2,hk⟩,h40,hev⟩:=(N0 _ _).1 hv;have hv':(fvF keys (Nt user events)).Code=0:=(N0 _ _).2 ⟨⟨hk1,hk2,hk⟩,Nat.le_trans (List.length_filter_le _ _) h40,fun e he=>hev e (List.mem_filter.1 he).1⟩
      obtain ⟨t',o',z1,z2,z3⟩:=sil_runs hk events 0 (st0 keys) (st0 keys) [] [] (inv0 hk2) (inv0 hk2) ⟨rfl,rfl,rfl,rfl,rfl,fun _ _=>rfl,fun m hm=>by simp [st0] at hm⟩ (by omega) hev
        (fun e he=>by obtain ⟨j,hj,rfl⟩:=List.getElem_of_mem he;exact hw j hj) _ _ r1
      have hr':=Run_f hv' z1 (v:=v) (t:=t) (by rw [z2.vs];exact hvs) (by have:=h.vers;have:=h.log;omega) ht
      rw [hr,Option.bind_some,hr',Option.bind_some];simp only [decide_true,Bool.not_true,Bool.false_eq_true,if_false,if_true];rw [tree_ok ht,z2.lg,log_refl h (by omega)]
      simp [Eh]
    · rw [Run_bad hv,Option.bind_some,q2,Option.bind_some];simp [hv,Eh]
end Go.Dc
