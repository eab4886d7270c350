import Derived.Test.YtmmegcjbdkaffaaGreatDoorDcFT
set_option linter.unusedSimpArgs false
set_option linter.unusedVariables false
set_option maxRecDepth 4000
namespace Go.Dc
open Go
theorem FInv.flight {keys:List Int} {n:Nat} {s:State_forge} (h:FInv keys n s) {ds:List Developer_forge} {fl:List Message_forge} (hf:∀ m∈fl,Forged keys n m):FInv keys n ⟨s.keys,s.versions,ds,fl,s.log⟩:=⟨h.vs,h.lg,hf⟩
theorem forged_step {keys:List Int} {n:Nat} {s:State_forge} (h:Inv keys n s) (hf:FInv keys n s) (hn:n≤90) (hk:∀ k∈keys,Gz k) {e:ForgeEvent} (he:evC keys.length e=0) (hw:e.Kind=3→∀ key,at? keys e.User=some key→e.Key≠key) {c:Int} {s':State_forge} (hs:Gp s e=some (c,s')):FInv keys (n+1) s':=by
  have hfl:=h.fl;obtain ⟨K,u,key,N,p⟩:=e;by_cases hnet:Net ⟨K,u,key,N,p⟩
  · obtain ⟨h0,h1⟩:=evC_net hnet he;simp only at h0 h1;obtain ⟨k,rfl⟩:=Int.eq_ofNat_of_zero_le h0;rcases hnet with rfl | rfl | rfl | rfl
    · have e:=H5 (u:=u) (k:=key) (n:=k) (p:=p) (s:=s) (by omega)
      rw [hs] at e;by_cases hlt:k < s.flight.length
      · rw [dif_pos hlt] at e;have hm:=h.let_ _ (List.getElem_mem hlt);obtain ⟨k',j,f1,f2,f3,f4,f5⟩:=hf.fg _ (List.getElem_mem hlt);obtain ⟨ky,y1,y2,_⟩:=Ta (l:=s.keys) hm.user.1 (by rw [h.ks];exact hm.user.2)
        have hik:Gz ky:=hk ky (by rw [← h.ks];exact y2)
        have us:=hm.user;have nm:=hm.number;have hkl:=h.kl;have hve:=h.vers
        have hbl:s.flight[k].base < s.versions.length:=by
          obtain ⟨V,T,a1,_⟩:=hm.app;obtain ⟨b0,b1,_⟩:=G5 a1;omega
        have hmd:(md s.flight[k]).length=32:=(md_f ⟨Gg us.1 (by omega),Gg (by omega) (by omega),Gg hm.base (by omega)⟩).2
        have hb:=del_bad (h.drp k) (by omega) hk hm y1 (by
          rw [f5];exact sg_ne hik f1 (f4 ky (by rw [← h.ks];exact y1)) (by omega) f2 (by omega))
        rw [hb] at e;cases e;exact (hf.drp k).up
      · rw [dif_neg hlt] at e;cases e;exact hf.up
    · have e:=step_drop (u:=u) (k:=key) (n:=k) (p:=p) (s:=s) (by omega)
      rw [hs] at e;by_cases hlt:k < s.flight.length
      · rw [if_pos hlt] at e;cases e;exact (hf.drp k).up
      · rw [if_neg hlt] at e;cases e;exact hf.up
    · have e:=step_dup (u:=u) (k:=key) (n:=k) (p:=p) (s:=s) (by omega)
      rw [hs] at e;by_cases hlt:k < s.flight.length
      · rw [dif_pos hlt] at e;by_cases h20:s.flight.length ≥ 20
        · rw [if_pos h20] at e;cases e;exact hf.up
        · rw [if_neg h20] at e;cases e;refine (hf.flight fun m hm=>?_).up;rw [List.mem_append,List.mem_append,List.mem_singleton] at hm;rcases hm with (hm | rfl) | hm
          · exact hf.fg m (List.mem_of_mem_take hm)
          · exact hf.fg _ (List.getElem_mem hlt)
          · exact hf.fg m (List.mem_of_mem_drop hm)
      · rw [dif_neg hlt] at e;cases e;exact hf.up
    · have e:=Qk (u:=u) (k:=key) (n:=k) (p:=p) (s:=s) h.sigs;rw [hs] at e;by_cases hlt:k < s.flight.length
      · rw [dif_pos hlt] at e;cases e;refine ⟨hf.vs,hf.lg,fun m hm=>?_⟩;rcases List.mem_or_eq_of_mem_set hm with hm | rfl
        · exact (hf.fg m hm).up
        · obtain ⟨k',j,f1,f2,f3,f4,f5⟩:=hf.fg _ (List.getElem_mem hlt);refine ⟨k',j+1,f1,by omega,by omega,f4,?_⟩
          show (s.flight[k].signature+1) % 2305843009213693951=(sg k' (md s.flight[k])+(j+1)) % 2305843009213693951;rw [f5];omega
      · rw [dif_neg hlt] at e;cases e;exact hf.up
  · obtain ⟨hK,h0,h1,h3⟩:=evC_dev hnet he;simp only at hK h0 h1 h3;have hkl:=h.kl;obtain ⟨D,d1,d2,_⟩:=Ta (l:=s.developers) h0 (by rw [h.devs];exact h1)
    have hD:=h.dev D d2;obtain ⟨⟨V⟩,v1,v2,_⟩:=Ta (l:=s.versions) hD.base.1 hD.base.2;have hV:=h.tree _ v2;have hve:=h.vers;have hlog:=h.log;obtain ⟨v,N',hv,hN,hvl⟩:=h.newest;rcases hK with rfl | rfl | rfl | rfl
    · have e:=Tu (u:=u) (k:=key) (n:=N) (p:=p) d1 v1 hD.tree hv (by omega)
      rw [hs] at e;by_cases hq:D.tree.Files=V
      · rw [if_pos hq] at e;cases e;exact (hf.flight hf.fg).up
      · rw [if_neg hq] at e;cases e;exact hf.up
    · have e:=Tw (u:=u) (k:=key) (n:=N) (p:=p) d1;rw [hs] at e;by_cases hc:(C8 p.Changes D.tree.Files).2.Code=0
      · rw [if_neg (by omega)] at e;cases e;exact (hf.flight hf.fg).up
      · rw [if_pos hc] at e;cases e;exact hf.up
    · have e:=U5 (u:=u) (key:=key) (n:=N) (p:=p) d1 v1 (h3 rfl) ⟨h0,by omega⟩ ⟨hD.sent.1,by have:=hD.sent.2;omega⟩ ⟨hD.base.1,by have:=hD.base.2;omega⟩
      rw [hs] at e;by_cases hc:(Nq V D.tree.Files).2.Code=0
      · rw [if_neg (by omega)] at e
        split at e
        · cases e;exact hf.up
        · split at e
          · cases e;exact hf.up
          · cases e;refine (hf.up).flight fun m hm=>?_;rcases List.mem_append.1 hm with hm | hm
            · exact (hf.fg m hm).up
            · rw [List.mem_singleton] at hm;subst hm;have hsig:=letter_sig (u:=u) (D:=D) (q:=(Nq V D.tree.Files).1) (h3 rfl) ⟨h0,by omega⟩ ⟨hD.sent.1,by have:=hD.sent.2;omega⟩ ⟨hD.base.1,by have:=hD.base.2;omega⟩
              refine ⟨key,0,h3 rfl,by omega,by omega,hw rfl,?_⟩
              rw [Int.add_zero,← hsig.1];obtain ⟨z1,z2⟩:=hsig.2;exact (Int.emod_eq_of_lt z1 z2).symm
      · rw [if_pos hc] at e;cases e;exact hf.up
    · have e:=O4 (u:=u) (k:=key) (n:=N) (p:=p) d1 v1;rw [hs] at e;cases e;exact (hf.flight hf.fg).up
theorem forged_runs {keys:List Int} (hk:∀ k∈keys,Gz k):∀ (l:List ForgeEvent) (n:Nat) (s:State_forge) (out:List Int),Inv keys n s→FInv keys n s→n+l.length≤90→(∀ e∈l,evC keys.length e=0) →
    (∀ e∈l,e.Kind=3→∀ key,at? keys e.User=some key→e.Key≠key)→∀ (s':State_forge) (out':List Int),Ov s out l=some (s',out')→FInv keys (n+l.length) s'
  | [],n,s,out,h,hf,_,_,_=>fun s' out' hr=>by rw [Ov] at hr;cases hr;exact hf
  | e::l,n,s,out,h,hf,hn,he,hw=>fun s' out' hr=>by
    rw [List.length_cons] at hn;obtain ⟨c,t,h1,h2⟩:=Qy h (by omega) hk (he e (by simp))
    have hf2:=forged_step h hf (by omega) hk (he e (by simp)) (hw e (by simp)) h1
    rw [He h1] at hr;have:=forged_runs hk l (n+1) t (out++[c]) h2 hf2 (by omega) (fun x hx=>he x (by simp [hx])) (fun x hx=>hw x (by simp [hx])) s' out' hr
    rw [List.length_cons,show n+(l.length+1)=n+1+l.length by omega];exact this
def fkG (keys:List Int) (_:Nat) (e:ForgeEvent):Option Bool:=if e.Kind=3∧at? keys e.User=some e.Key then some true else Option.none
theorem forged_keys (keys:List Int) (events:List ForgeEvent):Bu keys events=some true:=by
  unfold Bu;by_cases hv:(fvF keys events).Code=0
  · obtain ⟨s,out,t,v,r1,h,ho,hvs,ht,hvl,hr⟩:=Ve hv;obtain ⟨⟨hk1,hk2,hk⟩,h40,hev⟩:=(N0 _ _).1 hv;rw [hr,Option.bind_some];simp only [decide_true,Bool.not_true,Bool.false_eq_true,if_false];rw [scan0 events (fkG keys) ?_ ?_,Option.bind_some]
    · cases hsc:G0 (fkG keys) 0 events with
      | some y =>
        obtain ⟨j,hj,e⟩:=H3 hsc;unfold fkG at e;split at e
        · cases e;rfl
        · cases e
      | none =>
        have hw:∀ e∈events,e.Kind=3→∀ key,at? keys e.User=some key→e.Key≠key:=by
          intro e he h3 key hkey hne;obtain ⟨j,hj,rfl⟩:=List.getElem_of_mem he;have:=Md.1 hsc j hj;unfold fkG at this;rw [if_pos ⟨h3,by rw [hkey,hne]⟩] at this;cases this
        have hF:=forged_runs hk events 0 (st0 keys) [] (inv0 hk2) ⟨rfl,rfl,fun m hm=>by simp [st0] at hm⟩ (by omega) hev hw _ _ r1
        have hl:=hF.lg;have hv2:=hF.vs;rw [hvs] at hv2
        have hv0:v=[]:=by
          have:=congrArg List.length hv2;rw [List.length_append] at this;exact List.eq_nil_of_length_eq_zero (by simp at this;simp [this])
        rw [hv0] at hv2;have:t=[]:=by simpa using hv2
        subst this;show Bu.j1 _=_;unfold Bu.j1;simp only;rw [hl];simp [Eh]
    · intro k hk3 _;unfold Bu.l1 fkG;rw [Av,if_pos (by omega),Cb hk3,Option.bind_some,Av]
      by_cases h3:events[k].Kind=3
      · have he:=hev _ (List.getElem_mem hk3);have hnn:¬ Net events[k]:=by intro hn;unfold Net at hn;rw [h3] at hn;simp at hn
        obtain ⟨_,u0,u1,_⟩:=evC_dev hnn he;obtain ⟨ky,y1,_⟩:=Ta (l:=keys) u0 u1;rw [if_pos h3,Option.bind_some,Option.bind_some,y1,Option.bind_some,Option.bind_some,Av];by_cases hq:events[k].Key=ky
        · rw [if_pos hq,Eh,Option.bind_some,if_pos ⟨h3,by rw [hq]⟩]
        · rw [if_neg hq,if_neg (fun hh=>hq (Option.some.inj hh.2).symm),Bz (by omega) (by omega),Option.bind_some];rfl
      · rw [if_neg h3,Option.bind_some,if_neg Bool.false_ne_true,if_neg (fun hh=>h3 hh.1),Bz (by omega) (by omega),Option.bind_some];rfl
    · unfold Bu.l1;rw [Av,if_neg (by omega)]
  · rw [Run_bad hv,Option.bind_some];simp [hv,Eh]
end Go.Dc
