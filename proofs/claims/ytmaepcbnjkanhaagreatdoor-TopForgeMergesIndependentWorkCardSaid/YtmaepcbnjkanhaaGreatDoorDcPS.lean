import Derived.Test.YtmaepcbnjkanhaaGreatDoorDcP
set_option linter.unusedSimpArgs false
set_option linter.unusedVariables false
namespace Go.Dc
open Go
theorem dropAt {α:Type} {l r:List α} {x:α} {k:Nat} (h:l.drop k=x::r):∃ hk:k < l.length,l[k]=x∧l.drop (k+1)=r:=by
  have hk:k < l.length:=by
    rcases Nat.lt_or_ge k l.length with h' | h'
    · exact h'
    · rw [List.drop_eq_nil_of_le h'] at h;cases h
  rw [List.drop_eq_getElem_cons hk] at h;exact ⟨hk,(List.cons.inj h).1,(List.cons.inj h).2⟩
def scn {α ρ:Type} (g:Nat→α→Option ρ):Nat→List α→Option ρ
  | _,[]=>Option.none
  | k,x::r=>match g k x with
    | some y=>some y
    | Option.none=>scn g (k+1) r
theorem scn_iter {α ρ σ:Type} {f:Int→Option (Step Int σ)} {dn:ρ→σ} {e:σ} (k0:Nat) (l:List α) (g:Nat→α→Option ρ)
    (hs:∀ k (h:k < l.length),k0≤k→(∀ j (hj:j < l.length),j < k→g j l[j]=Option.none)→f (k:Int)=match g k l[k] with | some r=>some (.done (dn r)) | Option.none=>some (.next ((k+1:Nat):Int)))
    (he:f (l.length:Int)=some (.done e)):∀ (rest:List α) (k:Nat),l.drop k=rest→k≤l.length→k0≤k→(∀ j (hj:j < l.length),j < k→g j l[j]=Option.none) →
      Dv f (k:Int)=some (match scn g k rest with | some r=>dn r | Option.none=>e):=by
  intro rest
  induction rest with
  | nil =>
    intro k hk hkl _ _;have h2:l.length≤k:=by simpa using hk
    have e:k=l.length:=by omega
    subst e;exact B9 he
  | cons x r ih =>
    intro k hk hkl hk0 hp;obtain ⟨hlt,hx,hr⟩:=dropAt hk;have e:=hs k hlt hk0 hp;rw [hx] at e;rw [scn];cases hg:g k x with
    | some y=>rw [hg] at e;exact B9 e
    | none =>
      rw [hg] at e;rw [Cp e];refine ih (k+1) hr (by omega) (by omega) fun j hj hjk=>?_
      by_cases hjk':j=k
      · subst hjk';rw [hx];exact hg
      · exact hp j hj (by omega)
theorem scn_none {α ρ:Type} {g:Nat→α→Option ρ}:∀ {l:List α} {k:Nat},scn g k l=Option.none↔∀ j (h:j < l.length),g (k+j) l[j]=Option.none
  | [],k=>⟨fun _ j h=>absurd h (by simp),fun _=>rfl⟩
  | x::r,k=>by
    rw [scn];cases hg:g k x with
    | some y =>
      simp only [reduceCtorEq,false_iff];intro h;have:=h 0 (by simp)
      rw [Nat.add_zero,List.getElem_cons_zero,hg] at this;cases this
    | none =>
      simp only;rw [scn_none];constructor
      · intro h j hj;cases j with
        | zero=>exact hg
        | succ j =>
          have:=h j (by simpa using hj)
          rw [List.getElem_cons_succ,← this];congr 1;omega
      · intro h j hj;have:=h (j+1) (by simpa using hj)
        rw [List.getElem_cons_succ] at this;rw [← this];congr 1;omega
theorem scn_some {α ρ:Type} {g:Nat→α→Option ρ}:∀ {l:List α} {k:Nat} {y:ρ},scn g k l=some y→∃ j,∃ h:j < l.length,g (k+j) l[j]=some y
  | [],k,y,h=>by cases h
  | x::r,k,y,h=>by
    rw [scn] at h;cases hg:g k x with
    | some z=>rw [hg] at h;simp only at h;exact ⟨0,by simp,by rw [Nat.add_zero,List.getElem_cons_zero,hg];exact h⟩
    | none =>
      rw [hg] at h;obtain ⟨j,hj,e⟩:=scn_some h;exact ⟨j+1,by simpa using hj,by rw [List.getElem_cons_succ,← e];congr 1;omega⟩
theorem inv_loopE {β σ:Type} {f:Int×β→Option (Step (Int×β) σ)} (k0 N:Nat) (hk0:k0≤N) (I:Nat→β→Prop) (Q:σ→Prop)
    (hs:∀ k s,k0≤k→k < N→I k s→(∃ s',f ((k:Int),s)=some (.next (((k+1:Nat):Int),s'))∧I (k+1) s')∨(∃ r,f ((k:Int),s)=some (.done r)∧Q r))
    (he:∀ s,I N s→∃ r,f ((N:Int),s)=some (.done r)∧Q r) (s:β) (h0:I k0 s):∃ r,Dv f ((k0:Int),s)=some r∧Q r:=by
  have key:∀ d k s,k+d=N→k0≤k→I k s→∃ r,Dv f ((k:Int),s)=some r∧Q r:=by
    intro d
    induction d with
    | zero =>
      intro k s hk _ hI;have:k=N:=by omega
      subst this;obtain ⟨r,h1,h2⟩:=he s hI;exact ⟨r,B9 h1,h2⟩
    | succ d ih =>
      intro k s hk hk1 hI;rcases hs k s hk1 (by omega) hI with ⟨s',h1,h2⟩ | ⟨r,h1,h2⟩
      · rw [Cp h1];exact ih (k+1) s' (by omega) (by omega) h2
      · exact ⟨r,B9 h1,h2⟩
  exact key (N - k0) k0 s (by omega) (Nat.le_refl _) h0
theorem Mb {β σ:Type} {f:Int×β→Option (Step (Int×β) σ)} (N:Nat) (I:Nat→β→Prop) (Q:σ→Prop)
    (hs:∀ k s,k < N→I k s→∃ s',f ((k:Int),s)=some (.next (((k+1:Nat):Int),s'))∧I (k+1) s')
    (he:∀ s,I N s→∃ r,f ((N:Int),s)=some (.done r)∧Q r) (s:β) (h0:I 0 s):∃ r,Dv f (0,s)=some r∧Q r:=by
  have key:∀ d k s,k+d=N→I k s→∃ r,Dv f ((k:Int),s)=some r∧Q r:=by
    intro d
    induction d with
    | zero =>
      intro k s hk hI;have:k=N:=by omega
      subst this;obtain ⟨r,h1,h2⟩:=he s hI;exact ⟨r,B9 h1,h2⟩
    | succ d ih =>
      intro k s hk hI;obtain ⟨s',h1,h2⟩:=hs k s (by omega) hI
      rw [Cp h1];exact ih (k+1) s' (by omega) h2
  exact key N 0 s (by omega) h0
end Go.Dc
