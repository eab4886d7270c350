import Derived.Test.YtmaepcbnjkanhaaGreatDoorDcFH
import Derived.Test.YtmaepcbnjkanhaaGreatDoorDcFE
set_option linter.unusedSimpArgs false
set_option linter.unusedVariables false
set_option maxRecDepth 4000
namespace Go.Dc
open Go
theorem nil_ok:TrOk []:=(Gl []).1 (by decide)
theorem tf_ok {l:List File} (h:TrOk l):Ef l=⟨0,0⟩:=by
  rcases Qn l with e | e
  · exact e
  · exact absurd ((Gl l).2 h) e
theorem apT_ok (p:List TreeChange) (l:List File):(Cz p l).2=⟨0,0⟩∨(Cz p l).2.Code≠0:=by
  by_cases h:(Cz p l).2.Code=0
  · left;obtain ⟨_,c2,c3,c4,_⟩:=Na h;rw [c4] at h ⊢;exact (run_ok _ _ _ c3 c2 h).2
  · exact .inr h
theorem difT_ok (a b:List File):(difT a b).2=⟨0,0⟩∨(difT a b).2.Code≠0:=by
  unfold difT;split
  · next h=>exact .inr h
  · split
    · next h=>exact .inr h
    · split
      · right;decide
      · left;rfl
theorem difT_of {a b:List File} (ha:TrOk a) (hb:TrOk b) (hl:(Ku a b).length≤30):difT a b=(⟨Ku a b⟩,⟨0,0⟩):=by
  unfold difT;rw [tf_ok ha,tf_ok hb,if_neg (by decide),if_neg (by decide),if_neg (by omega)]
theorem difN_len {b:List File} (hb:TrOk b):(Ku [] b).length≤30:=by
  have h1:(Ku [] b).length≤b.length:=by
    unfold Ku;exact List.length_filterMap_le _ _
  have:=hb.len;omega
theorem difN {b:List File} (hb:TrOk b):difT [] b=(⟨Ku [] b⟩,⟨0,0⟩):=difT_of nil_ok hb (difN_len hb)
theorem apN {b:List File} (hb:TrOk b):Cz (Ku [] b) []=(b,⟨0,0⟩):=by
  obtain ⟨h1,h2⟩:=dif_ok rfl hb;rw [applyT_of (difN_len hb) h1 nil_ok,h2]
theorem not_net2 (u k n:Int) (p:TreePatch):¬ Net ⟨2,u,k,n,p⟩:=by intro h;unfold Net at h;simp at h
theorem not_net3 (u k n:Int) (p:TreePatch):¬ Net ⟨3,u,k,n,p⟩:=by intro h;unfold Net at h;simp at h
theorem net4 (u k n:Int) (p:TreePatch):Net ⟨4,u,k,n,p⟩:=.inl rfl
def setTree (s:State_forge) (u:Int) (D:Developer_forge) (t:List File):State_forge:=⟨s.keys,s.versions,s.developers.set u.toNat ⟨⟨t⟩,D.base,D.sent,D.accepted⟩,s.flight,s.log⟩
theorem step_edit {s:State_forge} {u k n:Int} {p:TreePatch} {D:Developer_forge} (hD:at? s.developers u=some D) :
    Mt s ⟨2,u,k,n,p⟩=some (if (Cz p.Changes D.tree.Files).2.Code≠0 then ((Cz p.Changes D.tree.Files).2.Code,s) else (0,setTree s u D (Cz p.Changes D.tree.Files).1)):=by
  unfold Mt;rw [if_neg (not_net2 u k n p)];unfold Bz;simp only;rw [hD,Option.bind_some,if_neg (by simp),if_pos (by simp),Apply_f,Option.bind_some]
  unfold Bz.j2;simp only;rcases apT_ok p.Changes D.tree.Files with h | h
  · rw [h];simp only [decide_true,Bool.and_self,Bool.not_true,Bool.false_eq_true,if_false,ne_eq,not_true_eq_false];rw [Option.bind_some];rfl
  · rw [if_pos (Ls.2 fun h2=>h h2.1),if_pos h]
noncomputable def O2 (u:Int) (D:Developer_forge) (key:Int) (q:TreePatch):Message_forge:=⟨u,D.sent+1,D.base,sg key (md ⟨u,D.sent+1,D.base,0,q⟩),q⟩
noncomputable def pushS (s:State_forge) (u:Int) (D:Developer_forge) (key:Int) (q:TreePatch):State_forge :=
  ⟨s.keys,s.versions,s.developers.set u.toNat ⟨D.tree,D.base,D.sent+1,D.accepted⟩,s.flight++[O2 u D key q],s.log⟩
theorem letter_ok {u:Int} {D:Developer_forge} {key:Int} {q:TreePatch} (hu:0≤u∧u≤1000) (hs:0≤D.sent∧D.sent≤1000) (hb:0≤D.base∧D.base≤1000):MsgOk (O2 u D key q) :=
  ⟨Hq hu.1 (by show u≤_;omega),Hq (by show 0≤D.sent+1;omega) (by show D.sent+1≤_;omega),Hq hb.1 (by show D.base≤_;omega)⟩
theorem letter_sig {u:Int} {D:Developer_forge} {key:Int} {q:TreePatch} (hk:L6 key) (hu:0≤u∧u≤1000) (hs:0≤D.sent∧D.sent≤1000) (hb:0≤D.base∧D.base≤1000) :
    (O2 u D key q).signature=sg key (md (O2 u D key q))∧Dig (O2 u D key q).signature :=
  ⟨rfl,(sign_f hk (by rw [(md_f (letter_ok (key:=0) hu hs hb)).2];decide:(md (O2 u D 0 q)).length≤4096)).2⟩
theorem step_push {s:State_forge} {u key n:Int} {p:TreePatch} {D:Developer_forge} {V:List File} (hD:at? s.developers u=some D) (hVn:V=[]) (hV:at? s.versions D.base=some ⟨V⟩) (hk:L6 key)
    (hu:0≤u∧u≤1000) (hs:0≤D.sent∧D.sent≤1000) (hb:0≤D.base∧D.base≤1000) :
    Mt s ⟨3,u,key,n,p⟩=some (if (difT V D.tree.Files).2.Code≠0 then ((difT V D.tree.Files).2.Code,s) else if (difT V D.tree.Files).1.Changes=[] then (11,s) else if s.flight.length ≥ 20 then (14,s) else (0,pushS s u D key (difT V D.tree.Files).1)):=by
  unfold Mt;rw [if_neg (not_net3 u key n p)];unfold Bz;simp only;rw [hD,Option.bind_some,if_neg (by simp),if_neg (by simp),if_pos (by simp)]
  unfold Ga;rw [hD,Option.bind_some,hV,Option.bind_some];have e0:D.tree=⟨D.tree.Files⟩:=rfl;have e1:Bf ⟨V⟩ D.tree=some (difT V D.tree.Files):=tdifT_f hVn D.tree.Files;rw [e1,Option.bind_some];generalize hd:difT V D.tree.Files=d;have hz:d.2=⟨0,0⟩∨d.2.Code≠0:=hd ▸ difT_ok V D.tree.Files;obtain ⟨q,f⟩:=d;unfold Ga.j1;simp only at hz ⊢;rcases hz with rfl | h
  · simp only [decide_true,Bool.and_self,Bool.not_true,Bool.false_eq_true,if_false,ne_eq,not_true_eq_false];rw [len_zero_dec,Ba];by_cases hq:q.Changes=[]
    · rw [if_pos hq,if_pos hq];rfl
    rw [if_neg hq,if_neg hq,Ba];by_cases hf:s.flight.length ≥ 20
    · rw [if_pos (by omega),if_pos hf];rfl
    rw [if_neg (by omega),if_neg hf,Cs (by omega) (by omega),Option.bind_some,Option.bind_some]
    obtain ⟨m1,m2⟩:=md_f (letter_ok (q:=q) (key:=0) hu hs hb);have m3:Ed ⟨u,D.sent+1,D.base,0,q⟩=some (md ⟨u,D.sent+1,D.base,0,q⟩):=m1;have m4:(md ⟨u,D.sent+1,D.base,0,q⟩).length=32:=m2;rw [m3,Option.bind_some,(sign_f hk (by omega)).1,Option.bind_some,K3 (by rw [List.length_singleton];omega),Option.bind_some]
    rfl
  · rw [if_pos (Ls.2 fun h2=>h h2.1),if_pos h];rfl
def drp (s:State_forge) (n:Nat):State_forge:=⟨s.keys,s.versions,s.developers,s.flight.take n++s.flight.drop (n+1),s.log⟩
theorem step_deliver {s:State_forge} {u k:Int} {n:Nat} {p:TreePatch} (hl:s.flight.length≤1000) :
    Mt s ⟨4,u,k,(n:Int),p⟩=if h:n < s.flight.length then (Ca (drp s n) s.flight[n]) else some (6,s):=by
  unfold Mt;rw [if_pos (net4 u k (n:Int) p)];unfold Df;simp only;rw [Ba];by_cases h:n < s.flight.length
  · rw [if_neg (by omega),dif_pos h,Dg h,Option.bind_some,if_pos (by decide),Cs (by omega) (by omega),Option.bind_some]
    rw [show (n:Int)+1=((n+1:Nat):Int) from rfl,del?_mk (by omega) h,Option.bind_some]
    show (Ca (drp s n) s.flight[n]).bind _=_;cases Ca (drp s n) s.flight[n] <;> rfl
  · rw [if_pos (by omega),dif_neg h]
theorem mg_empty {R:List File} (hR:TrOk R) (p q:TreePatch):Oi [] [] R=R∧tmFst [] [] R p q=[]∧tmSec [] [] R p q=[]:=by
  refine tm_left nil_ok nil_ok hR (fun x=>?_) p q;show mgO Option.none Option.none (lk R x)=_;unfold mgO;by_cases h:lk R x=Option.none
  · rw [if_pos (.inl h),h]
  · rw [if_neg (by rintro (h2 | h2) <;> exact h h2),if_pos rfl]
noncomputable def accT (s:State_forge) (m:Message_forge) (D:Developer_forge) (N R:List File):Int×State_forge :=
  if (Oi [] N R).length > 24 then (10,s)
  else if tmFst [] N R ⟨Ku [] N⟩ m.patch++tmSec [] N R ⟨Ku [] N⟩ m.patch≠[] then (19,s)
  else if (difT N (Oi [] N R)).2.Code≠0 then ((difT N (Oi [] N R)).2.Code,s)
  else (0,⟨s.keys,s.versions++[⟨Oi [] N R⟩],s.developers.set m.user.toNat ⟨D.tree,D.base,D.sent,m.number⟩,s.flight,s.log++[⟨m.user,m.number,(difT N (Oi [] N R)).1⟩]⟩)
theorem accept_f {s:State_forge} {m:Message_forge} {D:Developer_forge} {key:Int} {N:List File} {v:List FileTree} (hD:at? s.developers m.user=some D) (hk:at? s.keys m.user=some key) (hik:L6 key) (hm:MsgOk m)
    (hsd:Dig m.signature) (hs:m.signature=sg key (md m)) (hn:¬ m.number≤D.accepted) (hb:at? s.versions m.base=some ⟨[]⟩) (hv:s.versions=v++[⟨N⟩]) (hvl:v.length≤1000) (hll:s.log.length≤1000) (hN:TrOk N) (hNn:N=[])
    (hp:(Cz m.patch.Changes []).2.Code=0):Ca s m=some (accT s m D N (Cz m.patch.Changes []).1):=by
  obtain ⟨m1,m2⟩:=md_f hm;unfold Ca;rw [hD,Option.bind_some,hk,Option.bind_some,m1,Option.bind_some,verify_f hik (by omega) hsd,Option.bind_some]
  unfold Ca.j1;simp only;rw [decide_eq_true hs.symm,if_neg (by decide),Ba,if_neg hn,hb,Option.bind_some,newest_f hv (by omega),Option.bind_some,tdifT_f rfl,difN hN,Option.bind_some]
  unfold Ca.j2;simp only [decide_true,Bool.and_self,Bool.not_true,Bool.false_eq_true,if_false];have hA:(Cz (⟨Ku [] N⟩:TreePatch).Changes []).2.Code=0:=by show (Cz (Ku [] N) []).2.Code=0;rw [apN hN]
  have hA1:(Cz (⟨Ku [] N⟩:TreePatch).Changes []).1=N:=by show (Cz (Ku [] N) []).1=N;rw [apN hN]
  have hR:=(Na hp).2.2.2.2
  have hv0:∀ p,vF [] N (Cz m.patch.Changes []).1 p=(lk (Cz m.patch.Changes []).1 p,true):=by
    intro x;rw [hNn];show mgO Option.none Option.none _=_;unfold mgO;by_cases h:lk (Cz m.patch.Changes []).1 x=Option.none
    · rw [if_pos (.inl h),h]
    · rw [if_neg (by rintro (h2 | h2) <;> exact h h2),if_pos rfl]
  have hsn:=(tm_left nil_ok hN hR hv0 ⟨Ku [] N⟩ m.patch).2.2;rw [tmerge rfl (by rw [hA1];intro p;rw [hv0]) (by rw [hA1];exact sec_nil.1 hsn) nil_ok hA hp,hA1,Option.bind_some]
  unfold accT;generalize (Cz m.patch.Changes []).1=R;by_cases h24:(Oi [] N R).length > 24
  · rw [if_pos h24,if_pos h24];rfl
  rw [if_neg h24,if_neg h24];simp only [decide_true,Bool.and_self,Bool.not_true,Bool.false_eq_true,if_false];rw [len_pos_dec,Ba];by_cases hc:tmFst [] N R ⟨Ku [] N⟩ m.patch++tmSec [] N R ⟨Ku [] N⟩ m.patch≠[]
  · rw [if_pos hc,if_pos hc]
  rw [if_neg hc,if_neg hc,newest_f hv (by omega),Option.bind_some,tdifT_f hNn,Option.bind_some]
  unfold Ca.j3;rcases difT_ok N (Oi [] N R) with h | h
  · rw [h];simp only [decide_true,Bool.and_self,Bool.not_true,Bool.false_eq_true,if_false,ne_eq,not_true_eq_false];rw [Option.bind_some,K3 (by rw [hv,List.length_append,List.length_singleton,List.length_singleton];omega),Option.bind_some,K3 (by rw [List.length_singleton];omega),Option.bind_some]
  · rw [if_pos (Ls.2 fun h2=>h h2.1),if_pos h]
theorem accT_empty {s:State_forge} {m:Message_forge} {D:Developer_forge} {R:List File} (hR:TrOk R) :
    accT s m D [] R=(0,⟨s.keys,s.versions++[⟨R⟩],s.developers.set m.user.toNat ⟨D.tree,D.base,D.sent,m.number⟩,s.flight,s.log++[⟨m.user,m.number,⟨Ku [] R⟩⟩]⟩):=by
  unfold accT;obtain ⟨h1,h2,h3⟩:=mg_empty hR ⟨Ku [] []⟩ m.patch;have:=hR.len;rw [h1,h2,h3,if_neg (by omega),if_neg (by simp),difN hR,if_neg (by simp)]
end Go.Dc
