import Derived.Test.YtmaepcbnjkanhaaGreatDoorDcFI
set_option linter.unusedSimpArgs false
set_option linter.unusedVariables false
set_option maxRecDepth 4000
namespace Go.Dc
open Go
def evE (u:Int) (p:TreePatch):ForgeEvent:=⟨2,u,0,0,p⟩
def evP (u key:Int):ForgeEvent:=⟨3,u,key,0,⟨[]⟩⟩
def evL (n:Int):ForgeEvent:=⟨4,0,0,n,⟨[]⟩⟩
theorem evE_c {n u:Int} (h0:0≤u) (h1:u < n) (p:TreePatch):evC n (evE u p)=(pcF p.Changes).Code:=by
  unfold evC evE;rw [if_neg (not_net2 u 0 0 p),if_pos (by simp)]
  unfold evD;rw [if_neg (by rintro (h | h | h);exact absurd h (by show ¬ u < 0;omega);exact absurd h (by show ¬ u ≥ n;omega);exact absurd h.1 (by simp)),if_pos rfl]
theorem evP_c {n u key:Int} (h0:0≤u) (h1:u < n):evC n (evP u key)=if L6 key then 0 else 3:=by
  unfold evC evP;rw [if_neg (not_net3 u key 0 _),if_pos (by simp)]
  unfold evD;by_cases hk:L6 key
  · rw [if_neg (by rintro (h | h | h);exact absurd h (by show ¬ u < 0;omega);exact absurd h (by show ¬ u ≥ n;omega);exact h.2 hk),if_neg (by simp),if_pos hk]
  · rw [if_pos (.inr (.inr ⟨rfl,hk⟩)),if_neg hk]
theorem evL_c {n k:Int} (h0:0≤k) (h1:k≤1000000000):evC n (evL k)=0:=by
  unfold evC evL;rw [if_pos (net4 0 0 k _)];unfold evN;rw [if_neg (by rintro (h | h);exact absurd h (by show ¬ k < 0;omega);exact absurd h (by show ¬ k > 1000000000;omega))]
def evs1 (key:Int) (p:TreePatch):List ForgeEvent:=[evE 0 p,evP 0 key,evL 0]
theorem fv1 (key:Int) (p:TreePatch):(fvF [key] (evs1 key p)).Code=0↔L6 key∧(pcF p.Changes).Code=0:=by
  rw [fvF_zero];have e1:=evE_c (n:=([key]:List Int).length) (u:=0) (by omega) (by simp) p
  have e2:=evP_c (n:=([key]:List Int).length) (u:=0) (key:=key) (by omega) (by simp)
  have e3:=evL_c (n:=([key]:List Int).length) (k:=0) (by omega) (by omega)
  constructor
  · rintro ⟨⟨_,_,hk⟩,_,he⟩;exact ⟨hk key (by simp),by rw [← e1];exact he _ (by simp [evs1])⟩
  · rintro ⟨hk,hp⟩;refine ⟨⟨by simp,by simp,fun k h=>by rw [List.mem_singleton] at h;rw [h];exact hk⟩,by simp [evs1],fun e he=>?_⟩
    unfold evs1 at he;simp only [List.mem_cons,List.not_mem_nil,or_false] at he;rcases he with rfl | rfl | rfl
    · rw [e1];exact hp
    · rw [e2,if_pos hk]
    · exact e3
theorem ap_tr (p:List TreeChange):TrOk (Cz p []).1:=by
  by_cases h:(Cz p []).2.Code=0
  · exact (Na h).2.2.2.2
  · rw [applyT_fail h];exact nil_ok
theorem difL_nil {b:List File}:Ku [] b=[]↔b=[]:=by
  unfold Ku;cases b with
  | nil=>simp
  | cons f r=>simp [adOf,Gp]
def s1 (key:Int) (t:List File):State_forge:=⟨[key],[⟨[]⟩],[⟨⟨t⟩,0,0,0⟩],[],[]⟩
def s3 (key:Int) (t:List File):State_forge:=⟨[key],[⟨[]⟩,⟨t⟩],[⟨⟨t⟩,0,1,1⟩],[],[⟨0,1,⟨Ku [] t⟩⟩]⟩
theorem first_runs {key:Int} (hk:L6 key) (p:TreePatch):runs (st0 [key]) [] (evs1 key p)=some (if (Cz p.Changes []).1=[] then (s1 key (Cz p.Changes []).1,[(Cz p.Changes []).2.Code,11,6]) else (s3 key (Cz p.Changes []).1,[(Cz p.Changes []).2.Code,0,0])):=by
  have ht:=ap_tr p.Changes
  have step1:Mt (st0 [key]) (evE 0 p)=some ((Cz p.Changes []).2.Code,s1 key (Cz p.Changes []).1):=by
    unfold evE;rw [step_edit (D:=⟨⟨[]⟩,0,0,0⟩) rfl];simp only;by_cases h:(Cz p.Changes []).2.Code=0
    · rw [if_neg (by omega),h];rfl
    · rw [if_pos h,applyT_fail h];rfl
  unfold evs1;rw [O9 step1];generalize (Cz p.Changes []).2.Code=c0;generalize (Cz p.Changes []).1=t at ht ⊢
  have step2:Mt (s1 key t) (evP 0 key)=some (if t=[] then (11,s1 key t) else (0,pushS (s1 key t) 0 ⟨⟨t⟩,0,0,0⟩ key ⟨Ku [] t⟩)):=by
    unfold evP;rw [step_push (D:=⟨⟨t⟩,0,0,0⟩) (V:=[]) rfl rfl rfl hk (by omega) (by simp) (by simp)]
    simp only;rw [difN ht];simp only [ne_eq,not_true_eq_false,if_false,difL_nil];rfl
  by_cases h:t=[]
  · rw [if_pos h] at step2 ⊢;rw [O9 step2]
    have step3:Mt (s1 key t) (evL 0)=some (6,s1 key t):=by
      unfold evL;rw [show (0:Int)=((0:Nat):Int) from rfl,step_deliver (by show 0≤1000;omega),dif_neg (by show ¬ 0 < 0;omega)]
    rw [O9 step3];rfl
  · rw [if_neg h] at step2 ⊢;rw [O9 step2]
    have step3:Mt (pushS (s1 key t) 0 ⟨⟨t⟩,0,0,0⟩ key ⟨Ku [] t⟩) (evL 0)=some (0,s3 key t):=by
      unfold evL;rw [show (0:Int)=((0:Nat):Int) from rfl,step_deliver (by show 1≤1000;omega),dif_pos (by show 0 < 1;omega)]
      have hl:=letter_sig (u:=0) (D:=⟨⟨t⟩,0,0,0⟩) (q:=⟨Ku [] t⟩) hk (by omega) (by simp) (by simp)
      have hm:=letter_ok (u:=0) (D:=⟨⟨t⟩,0,0,0⟩) (key:=key) (q:=⟨Ku [] t⟩) (by omega) (by simp) (by simp)
      show Ca (drp (pushS (s1 key t) 0 ⟨⟨t⟩,0,0,0⟩ key ⟨Ku [] t⟩) 0) (O2 0 ⟨⟨t⟩,0,0,0⟩ key ⟨Ku [] t⟩)=_;have hA:(Cz (O2 0 ⟨⟨t⟩,0,0,0⟩ key ⟨Ku [] t⟩).patch.Changes [])=(t,⟨0,0⟩):=apN ht;rw [accept_f (D:=⟨⟨t⟩,0,1,0⟩) (key:=key) (N:=[]) (v:=[]) rfl rfl hk hm hl.2 hl.1 (by show ¬ (0+1:Int)≤0;omega) rfl rfl (by simp) (by show 0≤1000;omega) nil_ok rfl (by rw [hA]),hA,accT_empty ht]
      rfl
    rw [O9 step3];rfl
theorem first_run {key:Int} {p:TreePatch} (hk:L6 key) (hp:(pcF p.Changes).Code=0) :
    Kz [key] (evs1 key p)=some (⟨(Cz p.Changes []).1⟩,(if (Cz p.Changes []).1=[] then [] else [⟨0,1,⟨Ku [] (Cz p.Changes []).1⟩⟩]),(if (Cz p.Changes []).1=[] then [(Cz p.Changes []).2.Code,11,6] else [(Cz p.Changes []).2.Code,0,0]),⟨0,0⟩):=by
  have hr:=first_runs hk p;have hv:=(fv1 key p).2 ⟨hk,hp⟩;have ht:=ap_tr p.Changes;by_cases h:(Cz p.Changes []).1=[]
  · rw [if_pos h] at hr;rw [if_pos h,if_pos h,Run_f hv hr (v:=[]) (t:=(Cz p.Changes []).1) (by show [(⟨[]⟩:FileTree)]=_;rw [h];rfl) (by simp) ht]
    rfl
  · rw [if_neg h] at hr;rw [if_neg h,if_neg h,Run_f hv hr (v:=[⟨[]⟩]) (t:=(Cz p.Changes []).1) rfl (by simp) ht]
    rfl
theorem ints_refl (l:List Int) (h:l.length≤1000):B8 l l=some true:=by
  rw [ints_eq l l (by omega),decide_eq_true rfl]
theorem entry_refl {u n:Int} {c:List TreeChange} (h:∀ x∈c,OkCh x) (hl:c.length≤1000):Bu [⟨u,n,⟨c⟩⟩] [⟨u,n,⟨c⟩⟩]=some true:=by
  unfold Bu;rw [if_neg (by simp)]
  have e1:Bu.l1 [⟨u,n,⟨c⟩⟩] [⟨u,n,⟨c⟩⟩] 0=some (.next 1):=by
    unfold Bu.l1;rw [Ba,if_pos (by simp)]
    rw [show at? ([⟨u,n,⟨c⟩⟩]:List ForgeEntry) 0=some ⟨u,n,⟨c⟩⟩ from rfl,Option.bind_some,Option.bind_some];simp only [decide_true,Bool.not_true,Bool.false_eq_true,if_false,Option.bind_some,tp_refl h hl];rw [Cs (by omega) (by omega)];rfl
  have e2:Bu.l1 [⟨u,n,⟨c⟩⟩] [⟨u,n,⟨c⟩⟩] 1=some (.done (.inr ())):=by
    unfold Bu.l1;rw [Ba,if_neg (by simp)]
  rw [Cp e1,B2 e2,Option.bind_some];rfl
theorem x_okt:Kl [(⟨#[120]⟩:ByteArray)]:=(Gv _).2 ((D9 _).2 (by decide +kernel))
theorem a_tr:TrOk [⟨⟨#[97]⟩,[⟨#[120]⟩]⟩]:=one_ok (by decide +kernel) x_okt
theorem Mj:Ch=some true:=by
  have hd:Ku [] [⟨⟨#[97]⟩,[⟨#[120]⟩]⟩]=[⟨1,⟨#[97]⟩,ByteArray.empty,[⟨#[120]⟩],⟨[]⟩⟩]:=by simp [Ku,adOf,Gp]
  have hA:=apN a_tr;have hO:=(dif_ok rfl a_tr).1;rw [hd] at hA hO;have hp:(pcF [⟨1,⟨#[97]⟩,ByteArray.empty,[⟨#[120]⟩],⟨[]⟩⟩]).Code=0:=(Oa _).2 ⟨by simp,hO⟩
  have hr:=first_run (key:=5) (p:=⟨[⟨1,⟨#[97]⟩,ByteArray.empty,[⟨#[120]⟩],⟨[]⟩⟩]⟩) ⟨by omega,by omega⟩ hp
  simp only at hr;rw [hA] at hr;simp only [List.cons_ne_nil,if_false,hd,reduceCtorEq] at hr;unfold Ch G7;rw [Option.bind_some];have hr2:=hr;unfold evs1 evE evP evL at hr2;rw [hr2,Option.bind_some];simp only [decide_true,if_true];unfold H9;rw [Option.bind_some,tree_ok a_tr,Option.bind_some,if_pos rfl,entry_refl hO (by simp),Option.bind_some,if_pos rfl,ints_refl _ (by simp),Option.bind_some]
  rfl
theorem first_change (key:Int) (p:TreePatch):Es key p=some true:=by
  unfold Es;rw [Apply_f,Option.bind_some];simp only;show (Kz [key] (evs1 key p)).bind _=_;by_cases hv:(fvF [key] (evs1 key p)).Code=0
  · obtain ⟨hk,hp⟩:=(fv1 key p).1 hv;rw [first_run hk hp,Option.bind_some];simp only;have ht:=ap_tr p.Changes;rcases apT_ok p.Changes [] with h | h
    · rw [h];generalize (Cz p.Changes []).1=t at ht ⊢;simp only [decide_true,Bool.not_true,Bool.false_eq_true,if_false,Option.bind_some];by_cases h0:t=[]
      · rw [if_pos h0,if_pos h0];subst h0;rw [if_pos (by simp),ints_refl _ (by simp),Option.bind_some,if_pos rfl]
        simp only [List.length_nil,Int.natCast_zero,decide_true,Option.bind_some,if_true]
        first
          | rw [Mj];rfl
          | (simp [Mj])
      · rw [if_neg h0,if_neg h0,if_neg (by simpa using h0),ints_refl _ (by simp),Option.bind_some,if_pos rfl,tree_ok ht,Option.bind_some,Option.bind_some,if_pos rfl]
        simp [Mj]
    · simp [h,Mj]
  · rw [Run_bad hv,Option.bind_some];simp only;by_cases h:(Cz p.Changes []).2.Code=0
    · simp [h,hv,Mj]
    · simp [h,Mj]
end Go.Dc
