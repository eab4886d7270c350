import Derived.Test.YtmaepcbnjkanhaaGreatDoorDcG
namespace Go.Dc
open Go
theorem L4 {σ ρ:Type} {m:σ→Option (Step σ ρ)} (I:σ→Prop) (μ:σ→Nat) (Q:ρ→Prop)
    (h:∀ s,I s→(∃ s',m s=some (.next s')∧I s'∧μ s' < μ s)∨(∃ r,m s=some (.done r)∧Q r)):∀ s,I s→∃ r,Dv m s=some r∧Q r:=by
  have key:∀ k s,μ s≤k→I s→∃ r,Dv m s=some r∧Q r:=by
    intro k
    induction k with
    | zero =>
      intro s hk hI;rcases h s hI with ⟨s',_,_,h3⟩ | ⟨r,h1,h2⟩
      · omega
      · exact ⟨r,B9 h1,h2⟩
    | succ k ih =>
      intro s hk hI;rcases h s hI with ⟨s',h1,h2,h3⟩ | ⟨r,h1,h2⟩
      · rw [Cp h1];exact ih s' (by omega) h2
      · exact ⟨r,B9 h1,h2⟩
  exact fun s=>key (μ s) s (Nat.le_refl _)
theorem iter_eq_of {σ ρ:Type} {m:σ→Option (Step σ ρ)} (I:σ→Prop) (μ:σ→Nat) (r:ρ)
    (h:∀ s,I s→(∃ s',m s=some (.next s')∧I s'∧μ s' < μ s)∨m s=some (.done r)) (s:σ) (hs:I s):Dv m s=some r:=by
  obtain ⟨r',h1,rfl⟩:=L4 I μ (· = r) (fun s hI=>by
    rcases h s hI with h' | h'
    · exact .inl h'
    · exact .inr ⟨r,h',rfl⟩) s hs
  exact h1
theorem i64_wrap {x:Int} (h1 : -9223372036854775808≤x) (h2:x≤9223372036854775807):IntKind.i64.wrap x=x:=IntWalk.i64_in x (by omega)
theorem Cd {x:Int} (h1 : -9223372036854775808≤x) (h2:x≤9223372036854775807):ckK .i64 x=some x:=by
  unfold ckK inK;rw [if_pos];exact decide_eq_true (i64_wrap h1 h2)
theorem C3 {α:Type} {l:List α} {k:Nat} (h:k < l.length):at? l (k:Int)=some l[k]:=by
  unfold at?;rw [if_pos (by omega)]
  simp [h]
theorem Gm {α:Type} {b:Nat} {l r:List α} (h:(l.length+r.length) * b≤140737488355328):app? b l r=some (l++r):=by
  unfold app?;rw [if_pos h]
theorem mk_eq {α:Type} {b:Nat} {m:Int} {x:α} (h0:0≤m) (h:m * b≤140737488355328):mk? b m x=some (List.replicate m.toNat x):=by
  unfold mk?;rw [if_pos ⟨h0,h⟩]
theorem cut_eq {α:Type} {l:List α} {p q:Int} (h0:0≤p) (h1:p≤q) (h2:q≤l.length):cut? l p q=some ((l.take q.toNat).drop p.toNat):=by
  unfold cut?;rw [if_pos ⟨h0,h1,h2⟩]
theorem Bb {α:Type} {p:Prop} [Decidable p] {x y:α}:(if decide p=true then x else y)=if p then x else y:=by
  by_cases h:p <;> simp [h]
theorem Ls {α:Type} {p:Prop} [Decidable p] {x y:α}:(if (!decide p)=true then x else y)=if p then y else x:=by
  by_cases h:p <;> simp [h]
end Go.Dc
