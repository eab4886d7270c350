import Derived.Test.YtmmegcjbdkaffaaGreatDoorDcFJ
set_option linter.unusedSimpArgs false
set_option linter.unusedVariables false
set_option maxRecDepth 4000
namespace Go.Dc
open Go
theorem withs_f {l m:List ForgeEvent} (h:(l.length+m.length) * 56≤140737488355328):Ei l m=some (l++m):=by
  unfold Ei;rw [Ep (by rw [List.length_nil];omega),Option.bind_some,List.nil_append,Ep h,Option.bind_some]
theorem Vn {l:List Int} {c:Int} (h:l.length≤1000):Em (l++[c])=some c:=by
  unfold Em
  rw [Av,if_neg (by rw [List.length_append,List.length_singleton];omega),Bz (by rw [List.length_append,List.length_singleton];omega) (by rw [List.length_append,List.length_singleton];omega),Option.bind_some,
    show ((l++[c]).length:Int) - 1=(l.length:Int) by rw [List.length_append,List.length_singleton];omega,Cb (by simp),Option.bind_some]
  simp
theorem fv_app {keys:List Int} {a b:List ForgeEvent} (h:(fvF keys (a++b)).Code=0):(fvF keys a).Code=0∧(∀ e∈b,evC keys.length e=0)∧a.length+b.length≤40:=by
  obtain ⟨h1,h2,h3⟩:=(N0 _ _).1 h;rw [List.length_append] at h2;exact ⟨(N0 _ _).2 ⟨h1,by omega,fun e he=>h3 e (by simp [he])⟩,fun e he=>h3 e (by simp [he]),h2⟩
theorem fv_keys {keys:List Int} {a:List ForgeEvent} (h:(fvF keys a).Code=0):∀ k∈keys,Gz k:=((N0 _ _).1 h).1.2.2
theorem run_of {keys:List Int} {events:List ForgeEvent} {s:State_forge} {out:List Int} {n:Nat} (hv:(fvF keys events).Code=0) (hr:Ov (st0 keys) [] events=some (s,out)) (h:Inv keys n s) (hn:n≤1000) :
    ∃ t v,s.versions=v++[⟨t⟩]∧TrOk t∧v.length=s.log.length∧Ej keys events=some (⟨t⟩,s.log,out,⟨0,0⟩):=by
  obtain ⟨v,t,h4,h5,h6⟩:=h.newest;have:=h.vers;have:=h.log;exact ⟨t,v,h4,h5,h6,Run_f hv hr h4 (by omega) h5⟩
theorem entries_refl:∀ {l:List ForgeEntry},(∀ e∈l,B6 e.Patch e.Patch=some true)→l.length≤1000→Bh l l=some true:=by
  intro l h hl;unfold Bh;rw [decide_eq_true rfl,if_neg (by decide),scan0 l (fun _ _=>(Option.none:Option Bool)) ?_ ?_,Option.bind_some]
  · cases hs:G0 (fun _ _=>(Option.none:Option Bool)) 0 l with
    | none=>rfl
    | some y=>obtain ⟨j,hj,e⟩:=H3 hs;cases e
  · intro k hk _;unfold Bh.l1;rw [Av,if_pos (by omega),Cb hk,Option.bind_some,Option.bind_some]
    simp only [decide_true,Bool.not_true,Bool.false_eq_true,if_false,Option.bind_some,h _ (List.getElem_mem hk)];rw [Bz (by omega) (by omega)];rfl
  · unfold Bh.l1;rw [Av,if_neg (by omega)]
theorem log_refl {keys:List Int} {n:Nat} {s:State_forge} (h:Inv keys n s) (hn:n≤1000):Bh s.log s.log=some true:=by
  have hlog:=h.log;have hve:=h.vers;refine entries_refl (fun e he=>?_) (by omega)
  obtain ⟨k,hk,rfl⟩:=List.getElem_of_mem he;obtain ⟨A,B,_,_,h3⟩:=h.rep k hk;obtain ⟨h1,h2,_⟩:=Of (p:=s.log[k].Patch.Changes) (l:=A) (by rw [h3])
  exact tp_refl (l:=s.log[k].Patch.Changes) h2 (by omega)
def evR (u:Int):ForgeEvent:=⟨8,u,0,0,⟨[]⟩⟩
def evU (u:Int):ForgeEvent:=⟨1,u,0,0,⟨[]⟩⟩
theorem pulled (keys:List Int) (events:List ForgeEvent) (user:Int) (hs:events.length * 56≤140737488351232):Hh keys events user=some true:=by
  unfold Hh;rw [withs_f (by simp;omega),Option.bind_some]
  show ((Ej keys (events++[evR user,evU user])).bind fun y2=>(Kr keys (events++[evR user,evU user]) user).bind _)=_;by_cases hv:(fvF keys (events++[evR user,evU user])).Code=0
  · obtain ⟨hv1,hev,hle⟩:=fv_app hv;have hle:events.length+2≤40:=hle;obtain ⟨s,out,t,v,r1,h,ho,hvs,ht,hvl,hr⟩:=Ve hv1;obtain ⟨_,hu0,hu1,_⟩:=evC_dev (not_net8 user 0 0 _) (hev (evR user) (by simp))
    have hu0:0≤user:=hu0;have hu1:user < keys.length:=hu1;obtain ⟨D,d1,d2,di,de⟩:=Ta (l:=s.developers) hu0 (by rw [h.devs];exact hu1)
    have hD:=h.dev D d2;obtain ⟨⟨V⟩,v1,v2,_⟩:=Ta (l:=s.versions) hD.base.1 hD.base.2;have hV:=h.tree _ v2;have hlog:=h.log;have hve:=h.vers;have e1:Gp s (evR user)=some (0,M6 s user D V):=O4 d1 v1;have hI:Inv keys events.length (M6 s user D V):=h.setDev user.toNat (D:=⟨⟨V⟩,D.base,D.sent,D.accepted⟩) ⟨hV,hD.base,hD.sent,hD.acc⟩
    have da:at? (M6 s user D V).developers user=some ⟨⟨V⟩,D.base,D.sent,D.accepted⟩:=by
      unfold at? M6;rw [if_pos hu0];simp [di]
    have e2:Gp (M6 s user D V) (evU user)=some (0,pullS (M6 s user D V) user ⟨⟨V⟩,D.base,D.sent,D.accepted⟩ ⟨t⟩ v.length):=by
      have:=Tu (s:=M6 s user D V) (u:=user) (k:=0) (n:=0) (p:=⟨[]⟩) (V:=V) (v:=v) (t:=⟨t⟩) da v1 hV hvs (by omega)
      rw [if_pos rfl] at this;exact this
    have rr:Ov (st0 keys) [] (events++[evR user,evU user])=some (pullS (M6 s user D V) user ⟨⟨V⟩,D.base,D.sent,D.accepted⟩ ⟨t⟩ v.length,out++[0]++[0]):=by
      rw [U0,r1,Option.bind_some];simp only;rw [He e1,He e2];rfl
    rw [Run_f hv rr (v:=v) (t:=t) hvs (by omega) ht,Option.bind_some]
    have dw:at? (pullS (M6 s user D V) user ⟨⟨V⟩,D.base,D.sent,D.accepted⟩ ⟨t⟩ v.length).developers user=some ⟨⟨t⟩,v.length,D.sent,D.accepted⟩:=by
      unfold at? pullS M6;rw [if_pos hu0];simp [di]
    have hw:Kr keys (events++[evR user,evU user]) user=some (⟨t⟩,⟨0,0⟩):=by
      unfold Kr;rw [play_f hv rr,Option.bind_some];simp only;have c1:(if decide (user < 0)=true then some true else some (decide (user ≥ (keys.length:Int))))=some false:=by rw [Av,if_neg (by omega),decide_eq_false (by omega)]
      rw [c1,Option.bind_some,if_neg Bool.false_ne_true,dw,Option.bind_some];simp only;rw [copyT_f (fun f hf=>by have:=ht.text_len hf;omega) (by have:=ht.len;omega),Option.bind_some]
    rw [hw,Option.bind_some];simp only [decide_true,Bool.not_true,Bool.false_eq_true,if_false,Option.bind_some];rw [Vn (by rw [List.length_append,ho,List.length_singleton];omega),Option.bind_some,tree_ok ht]
    simp [Eh]
  · rw [Run_bad hv,Option.bind_some]
    have hw:Kr keys (events++[evR user,evU user]) user=some (⟨[]⟩,fvF keys (events++[evR user,evU user])):=by
      unfold Kr;rw [play_bad hv,Option.bind_some]
    rw [hw,Option.bind_some];simp [hv,Eh]
end Go.Dc
