/- Loops over a list: a search, a search with the index, a running state. -/
import Derived.Test.YtibigfejalemjaaDcP
set_option linter.unusedSimpArgs false
set_option linter.unusedVariables false
namespace Go.Dc
open Go

def orS {α : Type} : Option α → α ⊕ Unit
  | some x => .inl x
  | Option.none => .inr ()

theorem dropAt {α : Type} {l r : List α} {x : α} {k : Nat} (h : l.drop k = x :: r) : ∃ hk : k < l.length, l[k] = x ∧ l.drop (k + 1) = r := by
  have hk : k < l.length := by
    rcases Nat.lt_or_ge k l.length with h' | h'
    · exact h'
    · rw [List.drop_eq_nil_of_le h'] at h; cases h
  rw [List.drop_eq_getElem_cons hk] at h
  exact ⟨hk, (List.cons.inj h).1, (List.cons.inj h).2⟩

/-- the first datum of a row -/
def scn {α ρ : Type} (g : Nat → α → Option ρ) : Nat → List α → Option ρ
  | _, [] => Option.none
  | k, x :: r => match g k x with
    | some y => some y
    | Option.none => scn g (k + 1) r

theorem scn_iter {α ρ σ : Type} {f : Int → Option (Step Int σ)} {dn : ρ → σ} {e : σ} (k0 : Nat) (l : List α) (g : Nat → α → Option ρ)
    (hs : ∀ k (h : k < l.length), k0 ≤ k → (∀ j (hj : j < l.length), j < k → g j l[j] = Option.none) → f (k : Int) = match g k l[k] with | some r => some (.done (dn r)) | Option.none => some (.next ((k + 1 : Nat) : Int)))
    (he : f (l.length : Int) = some (.done e)) : ∀ (rest : List α) (k : Nat), l.drop k = rest → k ≤ l.length → k0 ≤ k → (∀ j (hj : j < l.length), j < k → g j l[j] = Option.none) →
      iter f (k : Int) = some (match scn g k rest with | some r => dn r | Option.none => e) := by
  intro rest
  induction rest with
  | nil =>
    intro k hk hkl _ _
    have h2 : l.length ≤ k := by simpa using hk
    have e : k = l.length := by omega
    subst e
    exact iter_done he
  | cons x r ih =>
    intro k hk hkl hk0 hp
    obtain ⟨hlt, hx, hr⟩ := dropAt hk
    have e := hs k hlt hk0 hp
    rw [hx] at e
    rw [scn]
    cases hg : g k x with
    | some y => rw [hg] at e; exact iter_done e
    | none =>
      rw [hg] at e
      rw [iter_next e]
      refine ih (k + 1) hr (by omega) (by omega) fun j hj hjk => ?_
      by_cases hjk' : j = k
      · subst hjk'; rw [hx]; exact hg
      · exact hp j hj (by omega)

/-- a search, done at a datum or at the end -/
theorem scn_loop {α ρ σ : Type} {f : Int → Option (Step Int σ)} (dn : ρ → σ) (e : σ) (l : List α) (g : Nat → α → Option ρ)
    (hs : ∀ k (h : k < l.length), (∀ j (hj : j < l.length), j < k → g j l[j] = Option.none) → f (k : Int) = match g k l[k] with | some r => some (.done (dn r)) | Option.none => some (.next ((k + 1 : Nat) : Int)))
    (he : f (l.length : Int) = some (.done e)) : iter f 0 = some (match scn g 0 l with | some r => dn r | Option.none => e) :=
  scn_iter 0 l g (fun k h _ => hs k h) he l 0 rfl (Nat.zero_le _) (Nat.zero_le _) (fun j hj h => absurd h (by omega))

theorem scn_none {α ρ : Type} {g : Nat → α → Option ρ} : ∀ {l : List α} {k : Nat}, scn g k l = Option.none ↔ ∀ j (h : j < l.length), g (k + j) l[j] = Option.none
  | [], k => ⟨fun _ j h => absurd h (by simp), fun _ => rfl⟩
  | x :: r, k => by
    rw [scn]
    cases hg : g k x with
    | some y =>
      simp only [reduceCtorEq, false_iff]
      intro h
      have := h 0 (by simp)
      rw [Nat.add_zero, List.getElem_cons_zero, hg] at this; cases this
    | none =>
      simp only
      rw [scn_none]
      constructor
      · intro h j hj
        cases j with
        | zero => exact hg
        | succ j =>
          have := h j (by simpa using hj)
          rw [List.getElem_cons_succ, ← this]; congr 1; omega
      · intro h j hj
        have := h (j + 1) (by simpa using hj)
        rw [List.getElem_cons_succ] at this
        rw [← this]; congr 1; omega

theorem scn_some {α ρ : Type} {g : Nat → α → Option ρ} : ∀ {l : List α} {k : Nat} {y : ρ}, scn g k l = some y → ∃ j, ∃ h : j < l.length, g (k + j) l[j] = some y
  | [], k, y, h => by cases h
  | x :: r, k, y, h => by
    rw [scn] at h
    cases hg : g k x with
    | some z => rw [hg] at h; simp only at h; exact ⟨0, by simp, by rw [Nat.add_zero, List.getElem_cons_zero, hg]; exact h⟩
    | none =>
      rw [hg] at h
      obtain ⟨j, hj, e⟩ := scn_some h
      exact ⟨j + 1, by simpa using hj, by rw [List.getElem_cons_succ, ← e]; congr 1; omega⟩

/-- whether some datum has a property, and what is handed over at the first -/
def firstB {α : Type} (p : α → Bool) (k : Nat) : List α → Option Nat
  | [] => Option.none
  | x :: r => if p x then some k else firstB p (k + 1) r

theorem firstB_none {α : Type} {p : α → Bool} : ∀ {l : List α} {k : Nat}, firstB p k l = Option.none ↔ l.any p = false
  | [], k => by simp [firstB]
  | x :: r, k => by
    rw [firstB, List.any_cons]
    cases h : p x
    · simp only [Bool.false_eq_true, if_false, Bool.false_or]; exact firstB_none
    · simp

/-- a search by a property alone -/
theorem any_loop {α σ : Type} {f : Int → Option (Step Int σ)} (dn : Nat → σ) (e : σ) (l : List α) (p : α → Bool)
    (hs : ∀ k (h : k < l.length), f (k : Int) = if p l[k] then some (.done (dn k)) else some (.next ((k + 1 : Nat) : Int)))
    (he : f (l.length : Int) = some (.done e)) : iter f 0 = some (match firstB p 0 l with | some k => dn k | Option.none => e) := by
  have h := scn_loop (f := f) dn e l (fun k x => if p x then some k else Option.none) (fun k h _ => by
    rw [hs k h]
    by_cases hp : p l[k] = true
    · rw [if_pos hp, if_pos hp]
    · rw [if_neg hp, if_neg hp]) he
  rw [h]
  have : ∀ (m : List α) (k : Nat), scn (fun k x => if p x then some k else Option.none) k m = firstB p k m := by
    intro m
    induction m with
    | nil => intro k; rfl
    | cons x r ih =>
      intro k
      rw [scn, firstB]
      by_cases hp : p x = true
      · rw [if_pos hp, if_pos hp]
      · rw [if_neg hp, if_neg hp]; exact ih (k + 1)
  rw [this]
  cases firstB p 0 l <;> rfl

/-- a search by a property, where the place of the find does not matter -/
theorem any_loopC {α σ : Type} {f : Int → Option (Step Int σ)} (d e : σ) (l : List α) (p : α → Bool)
    (hs : ∀ k (h : k < l.length), f (k : Int) = if p l[k] then some (.done d) else some (.next ((k + 1 : Nat) : Int)))
    (he : f (l.length : Int) = some (.done e)) : iter f 0 = some (if l.any p then d else e) := by
  rw [any_loop (fun _ => d) e l p hs he]
  cases h : firstB p 0 l with
  | none => rw [firstB_none.1 h]; rfl
  | some k =>
    have : l.any p = true := by
      cases h2 : l.any p
      · rw [firstB_none.2 h2] at h; cases h
      · rfl
    rw [this]; rfl

/-- two rows of one length, side by side -/
theorem pair_loop {σ : Type} {f : Int → Option (Step Int σ)} {β : Type} (g : Int → Int → Option β) (dn : β → σ) (e : σ) (a b : List Int) (hl : a.length = b.length)
    (hs : ∀ k (h : k < a.length) (h' : k < b.length), f (k : Int) = match g a[k] b[k] with | some r => some (.done (dn r)) | Option.none => some (.next ((k + 1 : Nat) : Int)))
    (he : f (a.length : Int) = some (.done e)) : iter f 0 = some (match (List.zip a b).findSome? (fun p => g p.1 p.2) with | some r => dn r | Option.none => e) := by
  have hz : (List.zip a b).length = a.length := by rw [List.length_zip, hl, Nat.min_self]
  have h := scn_loop (f := f) dn e (List.zip a b) (fun _ p => g p.1 p.2) (fun k h _ => by
    rw [hs k (by omega) (by omega), List.getElem_zip]) (by rw [hz]; exact he)
  rw [h]
  have : ∀ (m : List (Int × Int)) (k : Nat), scn (fun _ p => g p.1 p.2) k m = m.findSome? (fun p => g p.1 p.2) := by
    intro m
    induction m with
    | nil => intro k; rfl
    | cons x r ih =>
      intro k
      rw [scn, List.findSome?_cons]
      cases g x.1 x.2 with
      | some y => rfl
      | none => exact ih (k + 1)
  rw [this]

/-- a state that runs along -/
theorem fold_loop {α β σ : Type} {f : Int × β → Option (Step (Int × β) σ)} (l : List α) (g : Nat → β → α → β) (dn : β → σ)
    (hs : ∀ k (h : k < l.length) (s : β), f ((k : Int), s) = some (.next (((k + 1 : Nat) : Int), g k s l[k])))
    (he : ∀ s, f ((l.length : Int), s) = some (.done (dn s))) : ∀ (rest : List α) (k : Nat) (s : β), l.drop k = rest → k ≤ l.length → ∃ s', iter f ((k : Int), s) = some (dn s') ∧ s' = (rest.foldl (fun (t : Nat × β) x => (t.1 + 1, g t.1 t.2 x)) (k, s)).2 := by
  intro rest
  induction rest with
  | nil =>
    intro k s hk hkl
    have h2 : l.length ≤ k := by simpa using hk
    have e : k = l.length := by omega
    subst e
    exact ⟨s, iter_done (he s), rfl⟩
  | cons x r ih =>
    intro k s hk hkl
    obtain ⟨hlt, hx, hr⟩ := dropAt hk
    rw [iter_next (hs k hlt s)]
    rw [hx]
    exact ih (k + 1) _ hr (by omega)

theorem fold_loop0 {α β σ : Type} {f : Int × β → Option (Step (Int × β) σ)} (l : List α) (g : β → α → β) (dn : β → σ) (s : β)
    (hs : ∀ k (h : k < l.length) (s : β), f ((k : Int), s) = some (.next (((k + 1 : Nat) : Int), g s l[k])))
    (he : ∀ s, f ((l.length : Int), s) = some (.done (dn s))) : iter f (0, s) = some (dn (l.foldl g s)) := by
  obtain ⟨s', h1, h2⟩ := fold_loop l (fun _ => g) dn hs he l 0 s rfl (Nat.zero_le _)
  have : ∀ (m : List α) (k : Nat) (s : β), (m.foldl (fun (t : Nat × β) x => (t.1 + 1, g t.2 x)) (k, s)).2 = m.foldl g s := by
    intro m
    induction m with
    | nil => intro k s; rfl
    | cons x r ih => intro k s; exact ih (k + 1) _
  rw [this] at h2
  rw [← h2]; exact h1

/-- a state that runs along, with a way out -/
theorem exit_loop {α β σ : Type} {f : Int × β → Option (Step (Int × β) σ)} (l : List α) (p : α → Bool) (g : β → α → β) (d : σ) (dn : β → σ)
    (hs : ∀ k (h : k < l.length) (s : β), f ((k : Int), s) = if p l[k] then some (.done d) else some (.next (((k + 1 : Nat) : Int), g s l[k])))
    (he : ∀ s, f ((l.length : Int), s) = some (.done (dn s))) : ∀ (s : β), iter f (0, s) = some (if l.any p then d else dn (l.foldl g s)) := by
  have key : ∀ (rest : List α) (k : Nat) (s : β), l.drop k = rest → k ≤ l.length → iter f ((k : Int), s) = some (if rest.any p then d else dn (rest.foldl g s)) := by
    intro rest
    induction rest with
    | nil =>
      intro k s hk hkl
      have h2 : l.length ≤ k := by simpa using hk
      have e : k = l.length := by omega
      subst e
      exact iter_done (he s)
    | cons x r ih =>
      intro k s hk hkl
      obtain ⟨hlt, hx, hr⟩ := dropAt hk
      have e := hs k hlt s
      rw [hx] at e
      rw [List.any_cons]
      by_cases hp : p x = true
      · rw [if_pos hp] at e
        rw [iter_done e, hp]; rfl
      · rw [if_neg hp] at e
        rw [iter_next e]
        simp only [Bool.not_eq_true] at hp
        rw [hp, Bool.false_or]
        exact ih (k + 1) _ hr (by omega)
  exact fun s => key l 0 s rfl (Nat.zero_le _)

/-- a counted loop with an invariant, and ways out -/
theorem inv_loopE {β σ : Type} {f : Int × β → Option (Step (Int × β) σ)} (k0 N : Nat) (hk0 : k0 ≤ N) (I : Nat → β → Prop) (Q : σ → Prop)
    (hs : ∀ k s, k0 ≤ k → k < N → I k s → (∃ s', f ((k : Int), s) = some (.next (((k + 1 : Nat) : Int), s')) ∧ I (k + 1) s') ∨ (∃ r, f ((k : Int), s) = some (.done r) ∧ Q r))
    (he : ∀ s, I N s → ∃ r, f ((N : Int), s) = some (.done r) ∧ Q r) (s : β) (h0 : I k0 s) : ∃ r, iter f ((k0 : Int), s) = some r ∧ Q r := by
  have key : ∀ d k s, k + d = N → k0 ≤ k → I k s → ∃ r, iter f ((k : Int), s) = some r ∧ Q r := by
    intro d
    induction d with
    | zero =>
      intro k s hk _ hI
      have : k = N := by omega
      subst this
      obtain ⟨r, h1, h2⟩ := he s hI
      exact ⟨r, iter_done h1, h2⟩
    | succ d ih =>
      intro k s hk hk1 hI
      rcases hs k s hk1 (by omega) hI with ⟨s', h1, h2⟩ | ⟨r, h1, h2⟩
      · rw [iter_next h1]
        exact ih (k + 1) s' (by omega) (by omega) h2
      · exact ⟨r, iter_done h1, h2⟩
  exact key (N - k0) k0 s (by omega) (Nat.le_refl _) h0

/-- a counted loop with an invariant -/
theorem inv_loop {β σ : Type} {f : Int × β → Option (Step (Int × β) σ)} (N : Nat) (I : Nat → β → Prop) (Q : σ → Prop)
    (hs : ∀ k s, k < N → I k s → ∃ s', f ((k : Int), s) = some (.next (((k + 1 : Nat) : Int), s')) ∧ I (k + 1) s')
    (he : ∀ s, I N s → ∃ r, f ((N : Int), s) = some (.done r) ∧ Q r) (s : β) (h0 : I 0 s) : ∃ r, iter f (0, s) = some r ∧ Q r := by
  have key : ∀ d k s, k + d = N → I k s → ∃ r, iter f ((k : Int), s) = some r ∧ Q r := by
    intro d
    induction d with
    | zero =>
      intro k s hk hI
      have : k = N := by omega
      subst this
      obtain ⟨r, h1, h2⟩ := he s hI
      exact ⟨r, iter_done h1, h2⟩
    | succ d ih =>
      intro k s hk hI
      obtain ⟨s', h1, h2⟩ := hs k s (by omega) hI
      rw [iter_next h1]
      exact ih (k + 1) s' (by omega) h2
  exact key N 0 s (by omega) h0
end Go.Dc
