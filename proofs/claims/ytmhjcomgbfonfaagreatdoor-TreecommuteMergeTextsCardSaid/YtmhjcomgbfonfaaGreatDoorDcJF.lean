import Derived.Test.YtmhjcomgbfonfaaGreatDoorDcJE
set_option linter.unusedSimpArgs false
set_option linter.unusedVariables false
set_option maxRecDepth 4000
namespace Go.Dc
open Go
theorem tou_of {c:TreeChange} {q p:ByteArray} (h1:q∈Ee c) (h2:L3 q p=true):Ot p c=true:=by
  unfold Ot;rw [List.any_eq_true];exact ⟨q,h1,h2⟩
theorem mgO_text {x y z:List ByteArray} (hx:C8 x) (hy:C8 y) (hz:C8 z):mgO (some x) (some y) (some z)=(match Lt x y z with | some s=>(some s,true) | Option.none=>(some y,false)):=by
  unfold mgO;by_cases h1:z=x
  · subst h1;rw [if_pos (.inl rfl),clean3_base hx hy]
  · by_cases h2:z=y
    · subst h2;rw [if_pos (.inr rfl),clean3_same hx hz]
    · rw [if_neg (by simp [h1,h2])]
      by_cases h3:y=x
      · subst h3;rw [if_pos rfl,clean3_left hx hz]
      · rw [if_neg (by simpa using h3)]
        simp only;cases Lt x y z <;> rfl
theorem ed_one {path:ByteArray} {base:List ByteArray} {p:Patch}:L6 (edF path p) [⟨path,base⟩]=if (Gp p base).2.Code≠0 then ((Gp p base).2.Code,[⟨path,base⟩]) else (0,[⟨path,(Gp p base).1⟩]):=by
  have hp:D4 [(⟨path,base⟩:File)] path=0:=by
    unfold D4;rw [List.takeWhile_cons,Lo];rfl
  have hh:Gy [(⟨path,base⟩:File)] path=true:=by simp [Gy]
  unfold L6 edF;simp only [hp,hh,if_true,List.getElem?_cons_zero];rw [if_neg (by decide),if_neg (by decide),if_neg (by decide)]
  rfl
theorem ed_run1 {path:ByteArray} {base:List ByteArray} {p:Patch} (h:(E5 [edF path p] [⟨path,base⟩]).2.Code=0):(Gp p base).2.Code=0∧(E5 [edF path p] [⟨path,base⟩]).1=[⟨path,(Gp p base).1⟩]:=by
  obtain ⟨_,_,_,he,_⟩:=Ly h;rw [he] at h ⊢;rw [runF,ed_one] at h ⊢;by_cases hc:(Gp p base).2.Code≠0
  · rw [if_pos hc] at h;simp only at h;rw [if_pos hc] at h;exact absurd h hc
  · rw [if_neg hc];exact ⟨by simpa using hc,rfl⟩
theorem lk_one {path:ByteArray} {t:List ByteArray} (q:ByteArray):lk [⟨path,t⟩] q=if q=path then some t else Option.none:=by
  have hs:H2 [(⟨path,t⟩:File)]:=List.pairwise_singleton _ _;by_cases h:q=path
  · subst h;rw [if_pos rfl];exact (lk_some hs).2 (by simp)
  · rw [if_neg h];refine (lk_none hs).2 ?_;cases hh:Gy [(⟨path,t⟩:File)] q
    · rfl
    · obtain ⟨f,hf,e⟩:=Me.1 hh;rw [List.mem_singleton] at hf;subst hf;exact absurd e.symm h
theorem last_one {path:ByteArray} {p:Patch} (h:OkCh (edF path p)):lastF ⟨[edF path p]⟩ path=0:=by
  have hs:=h.size path (path_mem (edF path p));rcases (last_f (p:=⟨[edF path p]⟩) (by simpa using h) (by simp) (path:=path) (by omega)).2 with ⟨_,h2⟩ | ⟨k,hk,h2,_⟩
  · have:=h2 (edF path p) (by simp)
    rw [tou_of (path_mem (edF path p)) (relB_self path)] at this;cases this
  · simp only [List.length_singleton] at hk;omega
theorem pairs_00:B3 [⟨0,0⟩] [⟨0,0⟩]=some true:=by
  have e1:B3.l1 [⟨0,0⟩] [⟨0,0⟩] 0=some (.next 1):=by
    unfold B3.l1;rw [Bg,if_pos (by decide),show at? [(⟨0,0⟩:Arr2_Int)] 0=some ⟨0,0⟩ from rfl,Option.bind_some,Option.bind_some,if_neg (by simp),Ck (by decide) (by decide),Option.bind_some];rfl
  have e2:B3.l1 [⟨0,0⟩] [⟨0,0⟩] 1=some (.done (.inr ())):=by
    unfold B3.l1;rw [Bg,if_neg (by decide)]
  unfold B3;rw [if_neg (by simp),Cd e1,Br e2];rfl
theorem tm_texts (path:ByteArray) (base:List ByteArray) (p q:Patch):A9 path base p q=some true:=by
  have hone:∀ l,Gd path l=some ⟨[⟨path,l⟩]⟩:=fun _=>rfl;have hch:∀ c,E8 c=some ⟨[c]⟩:=fun _=>rfl;unfold A9;rw [apply_f,Option.bind_some,apply_f,Option.bind_some,hone,Option.bind_some,hch,Option.bind_some,hch,Option.bind_some];rw [show (⟨4,path,ByteArray.empty,[],p⟩:TreeChange)=edF path p from rfl,show (⟨4,path,ByteArray.empty,[],q⟩:TreeChange)=edF path q from rfl];unfold A9.j1;rw [followed_f];by_cases hok:TrOk [⟨path,base⟩]∧(E5 (⟨[edF path p]⟩:TreePatch).Changes [⟨path,base⟩]).2.Code=0∧(E5 (⟨[edF path q]⟩:TreePatch).Changes [⟨path,base⟩]).2.Code=0
  case neg =>
    obtain ⟨t1,c1,f1,m1,k1⟩:=tmerge_no hok;rw [m1,Option.bind_some];simp only;rw [decide_eq_false k1];by_cases h1:(Gp p base).2.Code=0 <;> by_cases h2:(Gp q base).2.Code=0 <;> simp [h1,h2]
  obtain ⟨hB,h1,h2⟩:=hok;obtain ⟨p1,p2⟩:=ed_run1 h1;obtain ⟨q1,q2⟩:=ed_run1 h2;obtain ⟨_,cp,_,_,hL⟩:=Ly h1;obtain ⟨_,cq,_,_,hR⟩:=Ly h2;have hb:=hB.text ⟨path,base⟩ (by simp)
  have hm:=tmerge hB h1 h2;simp only at hm hL hR p2 q2;rw [p2,q2] at hm;rw [p2] at hL;rw [q2] at hR;have ha:=hL.text ⟨path,(Gp p base).1⟩ (by simp)
  have hbb:=hR.text ⟨path,(Gp q base).1⟩ (by simp)
  have lp:=last_one (path:=path) (p:=p) (cp _ (by simp))
  have lq:=last_one (path:=path) (p:=q) (cq _ (by simp))
  simp only at hb ha hbb;generalize (Gp p base).1=a at hm hL ha ⊢;generalize (Gp q base).1=b at hm hR hbb ⊢
  have hK:tmK [⟨path,base⟩] [⟨path,a⟩] [⟨path,b⟩]=[path]:=sasc_uniq (ksort_asc _) (List.pairwise_singleton _ _) fun z=>by
    rw [mem_K];have hh:∀ t:List ByteArray,Gy [(⟨path,t⟩:File)] z=true↔z=path:=by intro t;simp [Gy,eq_comm]
    rw [hh,hh,hh,List.mem_singleton];simp
  have hvf:vF [⟨path,base⟩] [⟨path,a⟩] [⟨path,b⟩] path=(match Lt base a b with | some s=>(some s,true) | Option.none=>(some a,false)):=by
    unfold vF;rw [lk_one,lk_one,lk_one,if_pos rfl,if_pos rfl,if_pos rfl,mgO_text hb ha hbb]
  have hlL:lk [⟨path,a⟩] path=some a:=by rw [lk_one,if_pos rfl]
  have hlate:Mo [⟨path,base⟩] [⟨path,a⟩] [⟨path,b⟩]=[]:=by
    unfold Mo;rw [hK,List.filterMap_eq_nil_iff];intro z hz;rw [List.mem_singleton] at hz;subst hz;unfold N2;rw [hlL];cases (vF [⟨z,base⟩] [⟨z,a⟩] [⟨z,b⟩] z).1 <;> rfl
  have hsec:tmSec [⟨path,base⟩] [⟨path,a⟩] [⟨path,b⟩] ⟨[edF path p]⟩ ⟨[edF path q]⟩=[]:=by unfold tmSec;rw [hlate];rfl
  have hfin:tmFin [⟨path,base⟩] [⟨path,a⟩] [⟨path,b⟩]=Mz [⟨path,base⟩] [⟨path,a⟩] [⟨path,b⟩]:=by unfold tmFin;rw [hlate];rfl
  obtain ⟨s,ok,f,e,hc⟩:=clean_f hb ha hbb;have hmm:=(Merge_f hb ha hbb).1;rcases hc with ⟨c1,rfl,rfl,c2⟩ | ⟨c1,rfl⟩
  · rw [c1] at hvf;simp only at hvf
    have hout:Mz [⟨path,base⟩] [⟨path,a⟩] [⟨path,b⟩]=[⟨path,s⟩]:=by
      unfold Mz;rw [hK];have:outO [⟨path,base⟩] [⟨path,a⟩] [⟨path,b⟩] path=some ⟨path,s⟩:=by unfold outO;rw [hvf,hlL]
      rw [List.filterMap_cons_some this];rfl
    have hfst:tmFst [⟨path,base⟩] [⟨path,a⟩] [⟨path,b⟩] ⟨[edF path p]⟩ ⟨[edF path q]⟩=[]:=by
      unfold tmFst;rw [hK];have:fstO [⟨path,base⟩] [⟨path,a⟩] [⟨path,b⟩] ⟨[edF path p]⟩ ⟨[edF path q]⟩ path=Option.none:=by unfold fstO;rw [hvf];rfl
      rw [List.filterMap_cons_none this];rfl
    rw [hfin,hout,hfst,hsec,if_neg (by simp)] at hm
    rw [hm,Option.bind_some];have ht:B2 ⟨[⟨path,s⟩]⟩ ⟨[⟨path,s⟩]⟩=some true:=tree_refl (by intro f hf;rw [List.mem_singleton] at hf;subst hf;have:=c2.1;simp only;omega) (by simp)
    unfold A9.j2;simp only [p1,q1,decide_true,Bool.not_true,Bool.false_eq_true,if_false,Option.bind_some];rw [hmm];simp only [Option.bind_some];rw [e];simp only [Option.bind_some,decide_true,Bool.not_true,Bool.false_eq_true,if_false,if_true,List.append_nil,List.length_nil];rw [hone,Option.bind_some,ht];simp
  · rw [c1] at hvf;simp only at hvf
    have hout:Mz [⟨path,base⟩] [⟨path,a⟩] [⟨path,b⟩]=[⟨path,a⟩]:=by
      unfold Mz;rw [hK];have:outO [⟨path,base⟩] [⟨path,a⟩] [⟨path,b⟩] path=some ⟨path,a⟩:=by unfold outO;rw [hvf,hlL]
      rw [List.filterMap_cons_some this];rfl
    have hfst:tmFst [⟨path,base⟩] [⟨path,a⟩] [⟨path,b⟩] ⟨[edF path p]⟩ ⟨[edF path q]⟩=[⟨0,0⟩]:=by
      unfold tmFst;rw [hK];have:fstO [⟨path,base⟩] [⟨path,a⟩] [⟨path,b⟩] ⟨[edF path p]⟩ ⟨[edF path q]⟩ path=some ⟨0,0⟩:=by unfold fstO;rw [hvf,lp,lq];rfl
      rw [List.filterMap_cons_some this];rfl
    rw [hfin,hout,hfst,hsec,if_neg (by simp)] at hm
    rw [hm,Option.bind_some];have ht:B2 ⟨[⟨path,a⟩]⟩ ⟨[⟨path,a⟩]⟩=some true:=tree_refl (by intro f hf;rw [List.mem_singleton] at hf;subst hf;have:=ha.1;simp only;omega) (by simp)
    unfold A9.j3;simp only [p1,q1,decide_true,Bool.not_true,Bool.false_eq_true,if_false,Option.bind_some];rw [hmm];simp only [Option.bind_some];rw [e];simp only [Option.bind_some,decide_true,Bool.not_true,Bool.false_eq_true,if_false,List.append_nil];rw [pairs_00,Option.bind_some,if_pos rfl,hone,Option.bind_some,ht];simp
end Go.Dc
