import Derived.Test.YtmaepcbnjkanhaaGreatDoorDcFG
set_option linter.unusedSimpArgs false
set_option linter.unusedVariables false
set_option maxRecDepth 4000
namespace Go.Dc
open Go
def Net (e:ForgeEvent):Prop:=e.Kind=4∨e.Kind=5∨e.Kind=6∨e.Kind=7
instance (e:ForgeEvent):Decidable (Net e):=inferInstanceAs (Decidable (_∨_))
def evD (n:Int) (e:ForgeEvent):Int:=if e.User < 0∨e.User ≥ n∨(e.Kind=3∧¬ L6 e.Key) then 3 else if e.Kind=2 then (pcF e.Patch.Changes).Code else 0
def evN (e:ForgeEvent):Int:=if e.N < 0∨e.N > 1000000000 then 3 else 0
def evC (n:Int) (e:ForgeEvent):Int :=
  if Net e then evN e
  else if e.Kind=1∨e.Kind=2∨e.Kind=3∨e.Kind=8 then
    evD n e
  else 4
theorem ce2 (e:ForgeEvent) (n:Int) (b:Bool):Cn.j2 e n b=some (if b=true then evD n e else 4):=by
  unfold Cn.j2 evD;cases b
  · rw [if_neg Bool.false_ne_true,if_neg Bool.false_ne_true]
  rw [if_pos rfl,if_pos rfl];simp only [Ba,isKey_f,VPatch_f,Option.bind_some];by_cases h1:e.User < 0
  · rw [if_pos h1,Option.bind_some,if_pos rfl,Option.bind_some,if_pos rfl,if_pos (.inl h1)]
  rw [if_neg h1,Option.bind_some];simp only [Ba];by_cases h2:e.User ≥ n
  · rw [if_pos h2,Option.bind_some,if_pos rfl,if_pos (.inr (.inl h2))]
  rw [if_neg h2];by_cases h3:e.Kind=3
  · rw [if_pos h3,Option.bind_some,Option.bind_some];by_cases h4:L6 e.Key
    · have hP:¬ (e.User < 0∨e.User ≥ n∨(e.Kind=3∧¬ L6 e.Key)):=by rintro (h | h | h);exact h1 h;exact h2 h;exact h.2 h4
      rw [decide_eq_true h4,if_neg (by decide),if_neg hP]
      split <;> rfl
    · rw [decide_eq_false h4,if_pos (by decide),if_pos (.inr (.inr ⟨h3,h4⟩))]
  · have hP:¬ (e.User < 0∨e.User ≥ n∨(e.Kind=3∧¬ L6 e.Key)):=by rintro (h | h | h);exact h1 h;exact h2 h;exact h3 h.1
    rw [if_neg h3,Option.bind_some,Option.bind_some,if_neg Bool.false_ne_true,if_neg hP];split <;> rfl
theorem checkEvent_f (e:ForgeEvent) (n:Int):Cn e n=some (evC n e):=by
  have j1t:Cn.j1 e n true=some (evN e):=by
    unfold Cn.j1 evN;rw [if_pos rfl];by_cases h1:e.N < 0
    · rw [decide_eq_true h1,if_pos rfl,Option.bind_some,if_pos rfl,if_pos (.inl h1)]
    · rw [decide_eq_false h1,if_neg Bool.false_ne_true,Option.bind_some,Ba];by_cases h2:e.N > 1000000000
      · rw [if_pos h2,if_pos (.inr h2)]
      · rw [if_neg h2,if_neg (by omega)]
  have j1f:Cn.j1 e n false=some (if e.Kind=1∨e.Kind=2∨e.Kind=3∨e.Kind=8 then
    evD n e
  else 4):=by
    unfold Cn.j1;rw [if_neg Bool.false_ne_true];simp only [ce2,Ba];by_cases h1:e.Kind=1
    · rw [if_pos h1,if_pos h1,if_pos (.inl h1)]
    rw [if_neg h1];by_cases h2:e.Kind=2
    · rw [if_pos h2,if_pos h2,if_pos (.inr (.inl h2))]
    rw [if_neg h2];by_cases h3:e.Kind=3
    · rw [if_pos h3,if_pos h3,if_pos (.inr (.inr (.inl h3)))]
    rw [if_neg h3];by_cases h8:e.Kind=8
    · rw [if_pos h8,if_pos (.inr (.inr (.inr h8)))]
    · rw [if_neg h8,if_neg (by omega)]
  unfold Cn evC;simp only [Ba];by_cases h4:e.Kind=4
  · rw [if_pos h4,decide_eq_true h4,j1t,if_pos (show Net e from .inl h4)]
  rw [if_neg h4];by_cases h5:e.Kind=5
  · rw [if_pos h5,decide_eq_true h5,j1t,if_pos (show Net e from .inr (.inl h5))]
  rw [if_neg h5];by_cases h6:e.Kind=6
  · rw [if_pos h6,decide_eq_true h6,j1t,if_pos (show Net e from .inr (.inr (.inl h6)))]
  rw [if_neg h6];by_cases h7:e.Kind=7
  · rw [decide_eq_true h7,j1t,if_pos (show Net e from .inr (.inr (.inr h7)))]
  · rw [decide_eq_false h7,j1f,if_neg (show ¬ Net e by rintro (h | h | h | h) <;> contradiction)]
def evG (n:Int) (k:Nat) (e:ForgeEvent):Option Fault:=if evC n e≠0 then some ⟨evC n e,k⟩ else Option.none
def kyG (k:Nat) (x:Int):Option Fault:=if L6 x then Option.none else some ⟨3,-3 - (k:Int)⟩
def fvF (keys:List Int) (events:List ForgeEvent):Fault :=
  if keys.length=0∨keys.length > 4 then ⟨9,-2⟩ else match Gf kyG 0 keys with
  | some f=>f
  | Option.none=>if events.length > 40 then ⟨2,-1⟩ else (Gf (evG keys.length) 0 events).getD ⟨0,0⟩
theorem FValidate_f (keys:List Int) (events:List ForgeEvent):Cf keys events=some (fvF keys events):=by
  unfold Cf fvF
  have e1:(if decide ((keys.length:Int)=0)=true then some true else some (decide ((keys.length:Int) > 4)))=some (decide (keys.length=0∨keys.length > 4)):=by
    rw [Ba];split
    · rw [decide_eq_true (by omega)]
    · exact congrArg some (decide_eq_decide.2 (by omega))
  rw [e1,Option.bind_some,Ba];by_cases hk:keys.length=0∨keys.length > 4
  · rw [if_pos hk,if_pos hk]
  rw [if_neg hk,if_neg hk,scan0 keys kyG ?_ ?_,Option.bind_some]
  · cases hs:Gf kyG 0 keys with
    | some f=>rfl
    | none =>
      show Cf.j1 keys events=_;unfold Cf.j1;simp only;rw [Ba];by_cases h40:events.length > 40
      · rw [if_pos (by omega),if_pos h40]
      rw [if_neg (by omega),if_neg h40,scan0 events (evG keys.length) ?_ ?_,Option.bind_some]
      · cases Gf (evG keys.length) 0 events <;> rfl
      · intro k hk _;unfold Cf.l1 evG;rw [Ba,if_pos (by omega),Dg hk,Option.bind_some,checkEvent_f,Option.bind_some]
        by_cases hc:evC keys.length events[k]=0
        · rw [decide_eq_true hc,if_neg (by decide),if_neg (fun hn=>hn hc),Cs (by omega) (by omega)];rfl
        · rw [decide_eq_false hc,if_pos (show (!false)=true from rfl),if_pos hc]
      · unfold Cf.l1;rw [Ba,if_neg (by omega)]
  · intro k hk2 _;unfold Cf.l2 kyG;rw [Ba,if_pos (by omega),Dg hk2,Option.bind_some,isKey_f,Option.bind_some]
    by_cases hc:L6 keys[k]
    · rw [decide_eq_true hc,if_neg (by decide),if_pos hc,Cs (by omega) (by omega)];rfl
    · rw [decide_eq_false hc,if_pos (show (!false)=true from rfl),if_neg hc,Cs (by omega) (by omega)];rfl
  · unfold Cf.l2;rw [Ba,if_neg (by omega)]
theorem fvF_ok (keys:List Int) (events:List ForgeEvent):fvF keys events=⟨0,0⟩∨(fvF keys events).Code≠0:=by
  unfold fvF;split
  · right;decide
  · cases hs:Gf kyG 0 keys with
    | some f =>
      right;obtain ⟨j,hj,e⟩:=H4 hs;unfold kyG at e;split at e
      · cases e
      · cases e;simp
    | none =>
      simp only;split
      · right;decide
      · cases h:Gf (evG keys.length) 0 events with
        | none=>left;rfl
        | some y =>
          right;obtain ⟨j,hj,e⟩:=H4 h;unfold evG at e;split at e
          · rename_i hc;cases e;exact hc
          · cases e
theorem fvF_zero (keys:List Int) (events:List ForgeEvent):(fvF keys events).Code=0↔(1≤keys.length∧keys.length≤4∧∀ k∈keys,L6 k)∧events.length≤40∧∀ e∈events,evC keys.length e=0:=by
  unfold fvF;by_cases hk:keys.length=0∨keys.length > 4
  · rw [if_pos hk];exact ⟨fun h=>by simp at h,fun h=>by omega⟩
  rw [if_neg hk];cases hs:Gf kyG 0 keys with
  | some f =>
    obtain ⟨j,hj,e⟩:=H4 hs;unfold kyG at e;split at e
    · cases e
    · rename_i hc
      cases e;exact ⟨fun h=>by simp at h,fun h=>absurd (h.1.2.2 _ (List.getElem_mem hj)) hc⟩
  | none =>
    have hall:∀ k∈keys,L6 k:=by
      intro x hx;obtain ⟨j,hj,rfl⟩:=List.getElem_of_mem hx;have:=Md.1 hs j hj;unfold kyG at this;split at this
      · assumption
      · cases this
    simp only;by_cases h40:events.length > 40
    · rw [if_pos h40];exact ⟨fun h=>by simp at h,fun h=>by omega⟩
    rw [if_neg h40];cases h:Gf (evG keys.length) 0 events with
    | some y =>
      obtain ⟨j,hj,e⟩:=H4 h;unfold evG at e;split at e
      · rename_i hc
        cases e;exact ⟨fun h=>absurd h hc,fun h=>absurd (h.2.2 _ (List.getElem_mem hj)) hc⟩
      · cases e
    | none =>
      refine ⟨fun _=>⟨⟨by omega,by omega,hall⟩,by omega,fun e he=>?_⟩,fun _=>rfl⟩
      obtain ⟨j,hj,rfl⟩:=List.getElem_of_mem he;have:=Md.1 h j hj;unfold evG at this;split at this
      · cases this
      · rename_i hc;exact Classical.not_not.1 hc
noncomputable def Mt (s:State_forge) (e:ForgeEvent):Option (Int×State_forge):=if Net e then Df s e else Bz s e
noncomputable def runs:State_forge→List Int→List ForgeEvent→Option (State_forge×List Int)
  | s,out,[]=>some (s,out)
  | s,out,e::r=>(Mt s e).bind fun y=>runs y.2 (out++[y.1]) r
theorem O9 {s s':State_forge} {out:List Int} {e:ForgeEvent} {r:List ForgeEvent} {c:Int} (h:Mt s e=some (c,s')):runs s out (e::r)=runs s' (out++[c]) r:=by
  rw [runs,h,Option.bind_some]
theorem play_loop (keys:List Int) (events:List ForgeEvent) (hl:events.length≤1000):∀ (rest:List ForgeEvent) (k:Nat) (out:List Int) (s s':State_forge) (out':List Int),events.drop k=rest→k≤events.length→out.length=k →
    runs s out rest=some (s',out') →
    Dw (fun s=>Dm.l1 keys events s.1 s.2.1 s.2.2.1 s.2.2.2.1 s.2.2.2.2.1 s.2.2.2.2.2.1 s.2.2.2.2.2.2) ((k:Int),out,s.keys,s.versions,s.developers,s.flight,s.log)=some (out',s'.keys,s'.versions,s'.developers,s'.flight,s'.log):=by
  intro rest
  induction rest with
  | nil =>
    intro k out s s' out' hk hkl ho hr;have:=Hz hk;rw [runs] at hr;cases hr;refine B2 ?_;unfold Dm.l1;simp only;rw [Ba,if_neg (by omega)]
  | cons e r ih =>
    intro k out s s' out' hk hkl ho hr;obtain ⟨hlt,hx,hr'⟩:=K6 hk;rw [runs] at hr;cases he:Mt s e with
    | none=>rw [he] at hr;cases hr
    | some y =>
      obtain ⟨c,t⟩:=y;rw [he,Option.bind_some] at hr;simp only at hr
      have key:Dm.l1 keys events (k:Int) out s.keys s.versions s.developers s.flight s.log=some (.next (((k+1:Nat):Int),out++[c],t.keys,t.versions,t.developers,t.flight,t.log)):=by
        have j2:∀ b:Bool,b=decide (Net e)→Dm.j2 keys (k:Int) out s.keys s.versions s.developers s.flight s.log e b=some (.next (((k+1:Nat):Int),out++[c],t.keys,t.versions,t.developers,t.flight,t.log)):=by
          rintro b rfl;unfold Dm.j2;unfold Mt at he;rw [Ba];by_cases hn:Net e
          · rw [if_pos hn] at he ⊢;rw [show ({ keys:=s.keys,versions:=s.versions,developers:=s.developers,flight:=s.flight,log:=s.log }:State_forge)=s from rfl,he,Option.bind_some,K3 (by rw [List.length_singleton];omega),Option.bind_some,Cs (by omega) (by omega),Option.bind_some];rfl
          · rw [if_neg hn] at he ⊢;rw [show ({ keys:=s.keys,versions:=s.versions,developers:=s.developers,flight:=s.flight,log:=s.log }:State_forge)=s from rfl,he,Option.bind_some,K3 (by rw [List.length_singleton];omega),Option.bind_some,Cs (by omega) (by omega),Option.bind_some];rfl
        unfold Dm.l1;rw [Ba,if_pos (by omega),Dg hlt,Option.bind_some,hx]
        simp only [Ba];by_cases h4:e.Kind=4
        · rw [if_pos h4];exact j2 _ (decide_eq_decide.2 ⟨fun h=>.inl h,fun _=>h4⟩)
        rw [if_neg h4];by_cases h5:e.Kind=5
        · rw [if_pos h5];exact j2 _ (decide_eq_decide.2 ⟨fun h=>.inr (.inl h),fun _=>h5⟩)
        rw [if_neg h5];by_cases h6:e.Kind=6
        · rw [if_pos h6];exact j2 _ (decide_eq_decide.2 ⟨fun h=>.inr (.inr (.inl h)),fun _=>h6⟩)
        rw [if_neg h6];exact j2 _ (decide_eq_decide.2 ⟨fun h=>.inr (.inr (.inr h)),fun h=>by rcases h with h | h | h | h;exact absurd h h4;exact absurd h h5;exact absurd h h6;exact h⟩)
      rw [Cp (m:=fun s:Int×List Int×List Int×List FileTree×List Developer_forge×List Message_forge×List ForgeEntry=>Dm.l1 keys events s.1 s.2.1 s.2.2.1 s.2.2.2.1 s.2.2.2.2.1 s.2.2.2.2.2.1 s.2.2.2.2.2.2) key];exact ih (k+1) _ t s' out' hr' (by omega) (by rw [List.length_append,ho];rfl) hr
def st0 (keys:List Int):State_forge:=⟨keys,[⟨[]⟩],List.replicate keys.length ⟨⟨[]⟩,0,0,0⟩,[],[]⟩
theorem play_f {keys:List Int} {events:List ForgeEvent} {s:State_forge} {out:List Int} (hv:(fvF keys events).Code=0) (hr:runs (st0 keys) [] events=some (s,out)):Dm keys events=some (.inr (s,out)):=by
  have hz:=(fvF_zero keys events).1 hv;unfold Dm;rw [FValidate_f,Option.bind_some];rcases fvF_ok keys events with h | h
  · rw [h];simp only [decide_true,Bool.and_self,Bool.not_true,Bool.false_eq_true,if_false];rw [mk_eq (by omega) (by omega),Option.bind_some,Int.toNat_natCast]
    have:=play_loop keys events (by omega) events 0 [] (st0 keys) s out rfl (Nat.zero_le _) rfl hr
    rw [show ((0:Nat):Int)=0 from rfl] at this;unfold st0 at this;simp only at this;rw [this,Option.bind_some];rfl
  · exact absurd hv h
theorem play_bad {keys:List Int} {events:List ForgeEvent} (hv:(fvF keys events).Code≠0):Dm keys events=some (.inl (fvF keys events)):=by
  unfold Dm;rw [FValidate_f,Option.bind_some,if_pos (Ls.2 fun h2=>hv h2.1)]
theorem Run_bad {keys:List Int} {events:List ForgeEvent} (hv:(fvF keys events).Code≠0):Kz keys events=some (⟨[]⟩,[],[],fvF keys events):=by
  unfold Kz;rw [play_bad hv,Option.bind_some]
theorem newest_f {s:State_forge} {v:List FileTree} {t:FileTree} (h:s.versions=v++[t]) (hl:v.length≤100000):Eo s=some t:=by
  unfold Eo;rw [h,List.length_append,List.length_singleton,Cs (by omega) (by omega),Option.bind_some]
  rw [show ((v.length+1:Nat):Int) - 1=(v.length:Int) by omega,Dg (by simp),Option.bind_some]
  simp
theorem Run_f {keys:List Int} {events:List ForgeEvent} {s:State_forge} {out:List Int} {v:List FileTree} {t:List File} (hv:(fvF keys events).Code=0) (hr:runs (st0 keys) [] events=some (s,out))
    (h:s.versions=v++[⟨t⟩]) (hl:v.length≤100000) (ht:TrOk t):Kz keys events=some (⟨t⟩,s.log,out,⟨0,0⟩):=by
  unfold Kz;rw [play_f hv hr,Option.bind_some];simp only;rw [newest_f h hl,Option.bind_some,copyT_f (fun f hf=>by have:=ht.text_len hf;omega) (by have:=ht.len;omega),Option.bind_some]
end Go.Dc
