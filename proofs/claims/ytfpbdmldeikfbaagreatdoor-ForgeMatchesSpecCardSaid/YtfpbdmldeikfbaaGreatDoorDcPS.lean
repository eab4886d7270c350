import Derived.Test.YtfpbdmldeikfbaaGreatDoorDcH
set_option linter.unusedSimpArgs false
set_option linter.unusedVariables false
namespace Go.Dc
open Go
theorem U5 {σ ρ:Type} {m:σ→Option (Step σ ρ)} (I:σ→Prop) (μ:σ→Nat) (Q:ρ→Prop)
  (h:∀ s,I s→(∃ s',m s=some (.next s')∧I s'∧μ s' < μ s)∨(∃ r,m s=some (.done r)∧Q r)):∀ s,I s→∃ r,C7 m s=some r∧Q r:=by
 have key:∀ k s,μ s≤k→I s→∃ r,C7 m s=some r∧Q r:=by
  intro k
  induction k with
  | zero =>
   intro s hk hI;rcases h s hI with ⟨s',_,_,h3⟩ | ⟨r,h1,h2⟩
   ·omega
   ·exact ⟨r,Bm h1,h2⟩
  | succ k ih =>
   intro s hk hI;rcases h s hI with ⟨s',h1,h2,h3⟩ | ⟨r,h1,h2⟩
   ·rw [Bz h1];exact ih s' (by omega) h2
   ·exact ⟨r,Bm h1,h2⟩
 exact fun s=>key (μ s) s (B7 _)
theorem iter_eq_of {σ ρ:Type} {m:σ→Option (Step σ ρ)} (I:σ→Prop) (μ:σ→Nat) (r:ρ)
  (h:∀ s,I s→(∃ s',m s=some (.next s')∧I s'∧μ s' < μ s)∨m s=some (.done r)) (s:σ) (hs:I s):C7 m s=some r:=by
 obtain ⟨r',h1,rfl⟩:=U5 I μ (· = r) (fun s hI=>by
  rcases h s hI with h' | h'
  ·exact .inl h'
  ·exact .inr ⟨r,h',rfl⟩) s hs
 exact h1
theorem i64_wrap {x:Int} (h1 : -9223372036854775808≤x) (h2:x≤9223372036854775807):IntKind.i64.wrap x=x:=IntWalk.i64_in x (by omega)
theorem Br {x:Int} (h1 : -9223372036854775808≤x) (h2:x≤9223372036854775807):ckK .i64 x=some x:=by
 unfold ckK inK;rw [Ad];exact Ag (i64_wrap h1 h2)
theorem Bg {α:Type} {l:List α} {k:Nat} (h:k < l.length):at? l (k:Int)=some l[k]:=by
 unfold at?;rw [Ad (by omega)]
 simp [h]
theorem Dp {α:Type} {b:Nat} {l r:List α} (h:(l.length+r.length) * b≤140737488355328):app? b l r=some (l++r):=by
 unfold app?;rw [Ad h]
theorem mk_eq {α:Type} {b:Nat} {m:Int} {x:α} (h0:0≤m) (h:m * b≤140737488355328):mk? b m x=some (List.replicate m.toNat x):=by
 unfold mk?;rw [Ad ⟨h0,h⟩]
theorem Tr {α:Type} {l:List α} {p q:Int} (h0:0≤p) (h1:p≤q) (h2:q≤l.length):cut? l p q=some ((l.take q.toNat).drop p.toNat):=by
 unfold cut?;rw [Ad ⟨h0,h1,h2⟩]
theorem Al {α:Type} {p:Prop} [Decidable p] {x y:α}:(if decide p=true then x else y)=if p then x else y:=by
 by_cases h:p <;> simp [h]
theorem Lm {α:Type} {p:Prop} [Decidable p] {x y:α}:(if (!decide p)=true then x else y)=if p then y else x:=by
 by_cases h:p <;> simp [h]
end Go.Dc
set_option linter.unusedSimpArgs false
set_option linter.unusedVariables false
namespace Go.Dc
open Go
theorem dropAt {α:Type} {l r:List α} {x:α} {k:Nat} (h:l.drop k=x::r):∃ hk:k < l.length,l[k]=x∧l.drop (k+1)=r:=by
 have hk:k < l.length:=by
  rcases Ec k l.length with h' | h'
  ·exact h'
  ·rw [Lu h'] at h;cases h
 rw [Cq hk] at h;exact ⟨hk,(List.cons.inj h).1,(List.cons.inj h).2⟩
def scn {α ρ:Type} (g:Nat→α→Option ρ):Nat→List α→Option ρ
 | _,[]=>Option.none
 | k,x::r=>match g k x with
  | some y=>some y
  | Option.none=>scn g (k+1) r
theorem scn_iter {α ρ σ:Type} {f:Int→Option (Step Int σ)} {dn:ρ→σ} {e:σ} (k0:Nat) (l:List α) (g:Nat→α→Option ρ)
  (hs:∀ k (h:k < l.length),k0≤k→(∀ j (hj:j < l.length),j < k→g j l[j]=Option.none)→f (k:Int)=match g k l[k] with | some r=>some (.done (dn r)) | Option.none=>some (.next ((k+1:Nat):Int)))
  (he:f (l.length:Int)=some (.done e)):∀ (rest:List α) (k:Nat),l.drop k=rest→k≤l.length→k0≤k→(∀ j (hj:j < l.length),j < k→g j l[j]=Option.none) →
   C7 f (k:Int)=some (match scn g k rest with | some r=>dn r | Option.none=>e):=by
 intro rest
 induction rest with
 | nil =>
  intro k hk hkl _ _;have h2:l.length≤k:=by simpa using hk
  have e:k=l.length:=by omega
  subst e;exact Bm he
 | cons x r ih =>
  intro k hk hkl hk0 hp;obtain ⟨hlt,hx,hr⟩:=dropAt hk;have e:=hs k hlt hk0 hp;rw [hx] at e;rw [scn];cases hg:g k x with
  | some y=>rw [hg] at e;exact Bm e
  | none =>
   rw [hg] at e;rw [Bz e];refine ih (k+1) hr (by omega) (by omega) fun j hj hjk=>?_
   by_cases hjk':j=k
   ·subst hjk';rw [hx];exact hg
   ·exact hp j hj (by omega)
theorem scn_none {α ρ:Type} {g:Nat→α→Option ρ}:∀ {l:List α} {k:Nat},scn g k l=Option.none↔∀ j (h:j < l.length),g (k+j) l[j]=Option.none
 | [],k=>⟨fun _ j h=>absurd h (by simp),fun _=>rfl⟩
 | x::r,k=>by
  rw [scn];cases hg:g k x with
  | some y =>
   simp only [reduceCtorEq,false_iff];intro h;have:=h 0 (by simp)
   rw [Eg,List.getElem_cons_zero,hg] at this;cases this
  | none =>
   simp only;rw [scn_none];constructor
   ·intro h j hj;cases j with
    | zero=>exact hg
    | succ j =>
     have:=h j (by simpa using hj)
     rw [Hd,← this];congr 1;omega
   ·intro h j hj;have:=h (j+1) (by simpa using hj)
    rw [Hd] at this;rw [← this];congr 1;omega
theorem scn_some {α ρ:Type} {g:Nat→α→Option ρ}:∀ {l:List α} {k:Nat} {y:ρ},scn g k l=some y→∃ j,∃ h:j < l.length,g (k+j) l[j]=some y
 | [],k,y,h=>by cases h
 | x::r,k,y,h=>by
  rw [scn] at h;cases hg:g k x with
  | some z=>rw [hg] at h;simp only at h;exact ⟨0,by simp,by rw [Eg,List.getElem_cons_zero,hg];exact h⟩
  | none =>
   rw [hg] at h;obtain ⟨j,hj,e⟩:=scn_some h;exact ⟨j+1,by simpa using hj,by rw [Hd,← e];congr 1;omega⟩
theorem inv_loopE {β σ:Type} {f:Int×β→Option (Step (Int×β) σ)} (k0 N:Nat) (hk0:k0≤N) (I:Nat→β→Prop) (Q:σ→Prop)
  (hs:∀ k s,k0≤k→k < N→I k s→(∃ s',f ((k:Int),s)=some (.next (((k+1:Nat):Int),s'))∧I (k+1) s')∨(∃ r,f ((k:Int),s)=some (.done r)∧Q r))
  (he:∀ s,I N s→∃ r,f ((N:Int),s)=some (.done r)∧Q r) (s:β) (h0:I k0 s):∃ r,C7 f ((k0:Int),s)=some r∧Q r:=by
 have key:∀ d k s,k+d=N→k0≤k→I k s→∃ r,C7 f ((k:Int),s)=some r∧Q r:=by
  intro d
  induction d with
  | zero =>
   intro k s hk _ hI;have:k=N:=by omega
   subst this;obtain ⟨r,h1,h2⟩:=he s hI;exact ⟨r,Bm h1,h2⟩
  | succ d ih =>
   intro k s hk hk1 hI;rcases hs k s hk1 (by omega) hI with ⟨s',h1,h2⟩ | ⟨r,h1,h2⟩
   ·rw [Bz h1];exact ih (k+1) s' (by omega) (by omega) h2
   ·exact ⟨r,Bm h1,h2⟩
 exact key (N - k0) k0 s (by omega) (B7 _) h0
theorem La {β σ:Type} {f:Int×β→Option (Step (Int×β) σ)} (N:Nat) (I:Nat→β→Prop) (Q:σ→Prop)
  (hs:∀ k s,k < N→I k s→∃ s',f ((k:Int),s)=some (.next (((k+1:Nat):Int),s'))∧I (k+1) s')
  (he:∀ s,I N s→∃ r,f ((N:Int),s)=some (.done r)∧Q r) (s:β) (h0:I 0 s):∃ r,C7 f (0,s)=some r∧Q r:=by
 have key:∀ d k s,k+d=N→I k s→∃ r,C7 f ((k:Int),s)=some r∧Q r:=by
  intro d
  induction d with
  | zero =>
   intro k s hk hI;have:k=N:=by omega
   subst this;obtain ⟨r,h1,h2⟩:=he s hI;exact ⟨r,Bm h1,h2⟩
  | succ d ih =>
   intro k s hk hI;obtain ⟨s',h1,h2⟩:=hs k s (by omega) hI
   rw [Bz h1];exact ih (k+1) s' (by omega) h2
 exact key N 0 s (by omega) h0
end Go.Dc
