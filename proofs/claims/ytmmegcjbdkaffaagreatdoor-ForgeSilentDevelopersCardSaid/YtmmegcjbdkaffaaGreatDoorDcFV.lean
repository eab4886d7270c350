import Derived.Test.YtmmegcjbdkaffaaGreatDoorDcFU
set_option linter.unusedSimpArgs false
set_option linter.unusedVariables false
set_option maxRecDepth 4000
namespace Go.Dc
open Go
structure Sil (u:Int) (s s':State_forge):Prop where
  ks:s'.keys=s.keys
  vs:s'.versions=s.versions
  fl:s'.flight=s.flight
  lg:s'.log=s.log
  dl:s'.developers.length=s.developers.length
  dv:∀ i:Int,i≠u→at? s'.developers i=at? s.developers i
  nu:∀ m∈s.flight,m.user≠u
theorem at_setx {α:Type} {l:List α} {i j:Int} {x:α} (h0:0≤i):at? (l.set i.toNat x) j=if i=j∧i.toNat < l.length then some x else at? l j:=by
  unfold at?;by_cases hj:0≤j
  · rw [if_pos hj,if_pos hj,List.getElem?_set];by_cases e:i=j
    · subst e;rw [if_pos rfl];by_cases hl:i.toNat < l.length
      · rw [if_pos hl,if_pos ⟨rfl,hl⟩]
      · rw [if_neg hl,if_neg (fun h=>hl h.2)];rw [List.getElem?_eq_none (by omega)]
    · rw [if_neg (by omega),if_neg (fun h=>e h.1)]
  · rw [if_neg hj,if_neg hj,if_neg (by omega)]
theorem Sil.set {u:Int} {s s':State_forge} (h:Sil u s s') {i:Int} (h0:0≤i) (D:Developer_forge) {fl:List Message_forge} (hf:∀ m∈fl,m.user≠u) (v:List FileTree) (lg:List ForgeEntry) :
    Sil u ⟨s.keys,v,s.developers.set i.toNat D,fl,lg⟩ ⟨s'.keys,v,s'.developers.set i.toNat D,fl,lg⟩ where
  ks:=h.ks
  vs:=rfl
  fl:=rfl
  lg:=rfl
  dl:=by show (s'.developers.set _ _).length=(s.developers.set _ _).length;rw [List.length_set,List.length_set,h.dl]
  dv:=fun j hj=>by
    show at? (s'.developers.set _ _) j=at? (s.developers.set _ _) j;rw [at_setx h0,at_setx h0,h.dl,h.dv j hj]
  nu:=hf
theorem Sil.own {u:Int} {s s':State_forge} (h:Sil u s s') (h0:0≤u) (D:Developer_forge):Sil u ⟨s.keys,s.versions,s.developers.set u.toNat D,s.flight,s.log⟩ s' where
  ks:=h.ks
  vs:=h.vs
  fl:=h.fl
  lg:=h.lg
  dl:=by show _=(s.developers.set _ _).length;rw [List.length_set,h.dl]
  dv:=fun j hj=>by
    show _=at? (s.developers.set _ _) j;rw [at_setx h0,if_neg (fun hh=>hj hh.1.symm),h.dv j hj]
  nu:=h.nu
theorem Sil.flight {u:Int} {s s':State_forge} (h:Sil u s s') {fl:List Message_forge} (hf:∀ m∈fl,m.user≠u):Sil u ⟨s.keys,s.versions,s.developers,fl,s.log⟩ ⟨s'.keys,s'.versions,s'.developers,fl,s'.log⟩:=⟨h.ks,h.vs,rfl,h.lg,h.dl,h.dv,hf⟩
theorem Sil.drp {u:Int} {s s':State_forge} (h:Sil u s s') (k:Nat):Sil u (drp s k) (drp s' k):=by
  unfold Go.Dc.drp;rw [h.fl]
  exact h.flight fun m hm=>by
    rcases List.mem_append.1 hm with hm | hm
    · exact h.nu m (List.mem_of_mem_take hm)
    · exact h.nu m (List.mem_of_mem_drop hm)
theorem Sil.acc {keys:List Int} {n:Nat} {u:Int} {s s':State_forge} (h:Sil u s s') (hI:Inv keys n s) (hn:n≤100) (hk:∀ k∈keys,Gz k) {m:Message_forge} (hm:LetOk s.versions keys.length n m) (hu:m.user≠u) {c:Int} {t:State_forge} (ha:Bn s m=some (c,t)) :
    ∃ t',Bn s' m=some (c,t')∧Sil u t t':=by
  obtain ⟨V,T,h1,h2,h3⟩:=hm.app;obtain ⟨v,N,h4,h5,h6⟩:=hI.newest;have hlog:=hI.log;have hve:=hI.vers;have hkl:=hI.kl;obtain ⟨D,d1,d2,_⟩:=Ta (l:=s.developers) hm.user.1 (by rw [hI.devs];exact hm.user.2)
  obtain ⟨key,k1,k2,_⟩:=Ta (l:=s.keys) hm.user.1 (by rw [hI.ks];exact hm.user.2)
  have hik:Gz key:=hk key (by rw [← hI.ks];exact k2)
  have hbl:m.base < s.versions.length:=by obtain ⟨b0,b1,_⟩:=G5 h1;omega
  have nm:=hm.number;have us:=hm.user;have hmo:MsgOk m:=⟨Gg us.1 (by omega),Gg (by omega) (by omega),Gg hm.base (by omega)⟩
  have e1:=accept_g d1 k1 hik hmo hm.sig h1 h4 (by omega) (by omega) h2 h5 h3
  have e2:=accept_g (s:=s') (by rw [h.dv _ hu];exact d1) (by rw [h.ks];exact k1) hik hmo hm.sig (by rw [h.vs];exact h1) (by rw [h.vs];exact h4) (by omega) (by rw [h.lg];omega) h2 h5 h3
  rw [ha] at e1;have e1:=Option.some.inj e1;rw [e2];by_cases hs:sg key (md m)≠m.signature
  · rw [if_pos hs] at e1 ⊢;cases e1;exact ⟨_,rfl,h⟩
  rw [if_neg hs] at e1 ⊢;by_cases hq:m.number≤D.accepted
  · rw [if_pos hq] at e1 ⊢;cases e1;exact ⟨_,rfl,h⟩
  rw [if_neg hq] at e1 ⊢;unfold accG at e1 ⊢;by_cases a1:(Nq V N).2.Code≠0
  · rw [if_pos a1] at e1 ⊢;cases e1;exact ⟨_,rfl,h⟩
  rw [if_neg a1] at e1 ⊢;by_cases a2:(Ox V N T).length > 24
  · rw [if_pos a2] at e1 ⊢;cases e1;exact ⟨_,rfl,h⟩
  rw [if_neg a2] at e1 ⊢;by_cases a3:tmFst V N T ⟨Lp V N⟩ m.patch++tmSec V N T ⟨Lp V N⟩ m.patch≠[]
  · rw [if_pos a3] at e1 ⊢;cases e1;exact ⟨_,rfl,h⟩
  rw [if_neg a3] at e1 ⊢;by_cases a4:(Nq N (Ox V N T)).2.Code≠0
  · rw [if_pos a4] at e1 ⊢;cases e1;exact ⟨_,rfl,h⟩
  rw [if_neg a4] at e1 ⊢;cases e1;refine ⟨_,rfl,?_⟩;rw [h.vs,h.lg,h.fl];exact h.set us.1 _ h.nu _ _
end Go.Dc
