/- Changes of file trees: their check, and how two of them are exchanged: the program's and the document's come to the same function. -/
import Derived.Test.YtjmigclbilnajaaDoorDcUA
import Derived.Test.YtjmigclbilnajaaDoorDcUI
set_option linter.unusedSimpArgs false
set_option linter.unusedVariables false
namespace Go.Dc
open Go

/-- the code of a change -/
def chF (c : TreeChange) : Int :=
  if c.Kind < 1 ∨ c.Kind > 4 then 4
  else if pathB c.Path = false ∨ (c.Kind = 3 ∧ pathB c.To = false) then 12
  else if (c.Kind ≠ 3 ∧ c.To ≠ ⟨#[]⟩) ∨ (c.Kind = 3 ∧ relB c.Path c.To = true) ∨ (c.Lines ≠ [] ∧ (c.Kind = 4 ∨ c.Kind = 3)) ∨ (c.Kind = 4 ∧ c.Patch.Hunks = []) ∨ (c.Kind ≠ 4 ∧ c.Patch.Hunks ≠ []) then 5
  else if (textFault c.Lines).Code ≠ 0 then (textFault c.Lines).Code else (patchFault c.Patch).Code

theorem len_pos_dec {α : Type} (l : List α) : decide ((l.length : Int) > 0) = decide (l ≠ []) := decide_eq_decide.2 (by cases l <;> simp <;> omega)
theorem len_zero_dec {α : Type} (l : List α) : decide ((l.length : Int) = 0) = decide (l = []) := decide_eq_decide.2 (by cases l <;> simp <;> omega)

theorem rel_ok {c : TreeChange} (h : ¬ (pathB c.Path = false ∨ (c.Kind = 3 ∧ pathB c.To = false))) (h3 : c.Kind = 3) : c.Path.size ≤ 1000000 ∧ c.To.size ≤ 1000000 := by
  have h1 : pathB c.Path = true := by cases hh : pathB c.Path with | true => rfl | false => exact absurd (Or.inl hh) h
  have h2 : pathB c.To = true := by cases hh : pathB c.To with | true => rfl | false => exact absurd (Or.inr ⟨h3, hh⟩) h
  have := pathB_size h1
  have := pathB_size h2
  omega

theorem check_f (c : TreeChange) : treepatch_check c = some (chF c) := by
  unfold treepatch_check chF
  simp only [ValidPath_f, orS, andS, Option.bind_some, len_pos_dec]
  by_cases h1 : c.Kind < 1 ∨ c.Kind > 4
  · rw [if_pos h1, if_pos (by simpa using h1)]
  · rw [if_neg h1, if_neg (by simpa using h1)]
    have e2 : (!pathB c.Path || if decide (c.Kind = 3) = true then !pathB c.To else false) = decide (pathB c.Path = false ∨ (c.Kind = 3 ∧ pathB c.To = false)) := by
      by_cases h3 : c.Kind = 3 <;> cases pathB c.Path <;> cases pathB c.To <;> simp [h3]
    have e2' : (if !pathB c.Path = true then some true else (if decide (c.Kind = 3) = true then some (!pathB c.To) else some false).bind fun x3 => some x3) = some (decide (pathB c.Path = false ∨ (c.Kind = 3 ∧ pathB c.To = false))) := by
      rw [← e2]
      by_cases h3 : c.Kind = 3 <;> cases pathB c.Path <;> cases pathB c.To <;> simp [h3]
    by_cases h2 : pathB c.Path = false ∨ (c.Kind = 3 ∧ pathB c.To = false)
    · rw [if_pos h2]
      rw [decide_eq_true h2] at e2'
      simp only [Option.bind_some, andS, orS] at e2' ⊢
      rw [show (!pathB c.Path || (decide (c.Kind = 3) && !pathB c.To)) = true from by simpa using e2']
      rfl
    · rw [if_neg h2]
      rw [decide_eq_false h2] at e2'
      simp only [Option.bind_some, andS, orS] at e2' ⊢
      rw [show (!pathB c.Path || (decide (c.Kind = 3) && !pathB c.To)) = false from by simpa using e2']
      rw [if_neg (by decide)]
      have e3 : (if decide (c.Kind = 3) = true then (treepatch_Related c.Path c.To).bind fun y3 => some y3 else some false) = some (decide (c.Kind = 3) && relB c.Path c.To) := by
        by_cases h3 : c.Kind = 3
        · obtain ⟨a, b⟩ := rel_ok h2 h3
          rw [Related_f a b, decide_eq_true h3]; rfl
        · rw [decide_eq_false h3]; rfl
      rw [e3]
      simp only [Option.bind_some, orS]
      by_cases h5 : (c.Kind ≠ 3 ∧ c.To ≠ ⟨#[]⟩) ∨ (c.Kind = 3 ∧ relB c.Path c.To = true) ∨ (c.Lines ≠ [] ∧ (c.Kind = 4 ∨ c.Kind = 3)) ∨ (c.Kind = 4 ∧ c.Patch.Hunks = []) ∨ (c.Kind ≠ 4 ∧ c.Patch.Hunks ≠ [])
      · rw [if_pos h5]
        by_cases g1 : ((!decide (c.Kind = 3) && !decide (c.To = ⟨#[]⟩)) || (decide (c.Kind = 3) && relB c.Path c.To)) = true
        · rw [if_pos g1]
        · rw [if_neg g1]
          by_cases g2 : (decide (c.Lines ≠ []) && (decide (c.Kind = 4) || decide (c.Kind = 3))) = true
          · rw [if_pos g2]
          · rw [if_neg g2, if_pos]
            simp only [Bool.or_eq_true, Bool.and_eq_true, Bool.not_eq_true', decide_eq_true_eq, decide_eq_false_iff_not, ne_eq] at g1 g2 h5 ⊢
            by_cases k4 : c.Kind = 4 <;> by_cases kh : c.Patch.Hunks = [] <;> simp [k4, kh] at h5 g1 g2 ⊢
            all_goals first
              | omega
              | (rcases h5 with ⟨a, b⟩ | ⟨a, b⟩ | ⟨a, b⟩ <;> simp_all)
              | simp_all
      · rw [if_neg h5]
        rw [if_neg (by
          simp only [Bool.or_eq_true, Bool.and_eq_true, Bool.not_eq_true', decide_eq_true_eq, decide_eq_false_iff_not, ne_eq]
          intro h
          rcases h with h | h
          · exact h5 (Or.inl h)
          · exact h5 (Or.inr (Or.inl h)))]
        rw [if_neg (by
          simp only [Bool.or_eq_true, Bool.and_eq_true, decide_eq_true_eq]
          intro h
          exact h5 (Or.inr (Or.inr (Or.inl h))))]
        rw [if_neg (by
          simp only [Bool.not_eq_true', decide_eq_false_iff_not]
          intro h
          by_cases k4 : c.Kind = 4 <;> by_cases kh : c.Patch.Hunks = [] <;> simp [k4, kh] at h5 h)]
        rw [validate_f, Option.bind_some, fless (textFault_ok c.Lines), ite_dec, pvalidate_f]
        split <;> rfl

theorem ChangeCode_f (c : TreeChange) : changeforgeref2_ChangeCode c = some (chF c) := by
  unfold changeforgeref2_ChangeCode chF
  simp only [PathValid_f, RRelated_f, orS, andS, Option.bind_some, len_pos_dec, len_zero_dec]
  by_cases h1 : c.Kind < 1 ∨ c.Kind > 4
  · rw [if_pos h1, if_pos (by simp; omega)]
  · rw [if_neg h1, if_neg (by simp; omega)]
    have e2 : (!pathB c.Path || (decide (c.Kind = 3) && !pathB c.To)) = decide (pathB c.Path = false ∨ (c.Kind = 3 ∧ pathB c.To = false)) := by
      by_cases h3 : c.Kind = 3 <;> cases pathB c.Path <;> cases pathB c.To <;> simp [h3]
    rw [e2, ite_dec]
    by_cases h2 : pathB c.Path = false ∨ (c.Kind = 3 ∧ pathB c.To = false)
    · rw [if_pos h2, if_pos h2]
    · rw [if_neg h2, if_neg h2]
      have e5 : (!decide (c.Kind = 3) && !decide (c.To = ⟨#[]⟩) || decide (c.Kind = 3) && relB c.Path c.To || !decide (c.Kind = 1) && !decide (c.Kind = 2) && decide (c.Lines ≠ []) || decide (c.Kind = 4) && decide (c.Patch.Hunks = []) || !decide (c.Kind = 4) && decide (c.Patch.Hunks ≠ [])) =
          decide ((c.Kind ≠ 3 ∧ c.To ≠ ⟨#[]⟩) ∨ (c.Kind = 3 ∧ relB c.Path c.To = true) ∨ (c.Lines ≠ [] ∧ (c.Kind = 4 ∨ c.Kind = 3)) ∨ (c.Kind = 4 ∧ c.Patch.Hunks = []) ∨ (c.Kind ≠ 4 ∧ c.Patch.Hunks ≠ [])) := by
        have hk : c.Kind = 1 ∨ c.Kind = 2 ∨ c.Kind = 3 ∨ c.Kind = 4 := by omega
        rcases hk with k | k | k | k <;> rw [k] <;> by_cases t1 : c.To = ⟨#[]⟩ <;> by_cases t2 : c.Lines = [] <;> by_cases t3 : c.Patch.Hunks = [] <;> cases relB c.Path c.To <;> simp [t1, t2, t3]
      rw [e5, ite_dec]
      split
      · rfl
      · rw [linesCode_f, Option.bind_some, rpatchFault_f, ite_ndec]
        by_cases h : (textFault c.Lines).Code = 0
        · rw [if_pos h, if_neg (by simpa using h)]; rfl
        · rw [if_neg h, if_pos h]

/-! ## what a good change is -/
structure OkCh (c : TreeChange) : Prop where
  kind : 1 ≤ c.Kind ∧ c.Kind ≤ 4
  path : pathB c.Path = true
  to : c.Kind = 3 → pathB c.To = true ∧ relB c.Path c.To = false
  noTo : c.Kind ≠ 3 → c.To = ⟨#[]⟩
  noLines : c.Kind = 4 ∨ c.Kind = 3 → c.Lines = []
  hunks : c.Kind = 4 → c.Patch.Hunks ≠ []
  noHunks : c.Kind ≠ 4 → c.Patch.Hunks = []
  lines : (textFault c.Lines).Code = 0
  patch : (patchFault c.Patch).Code = 0

theorem chF_ok {c : TreeChange} : chF c = 0 ↔ OkCh c := by
  unfold chF
  constructor
  · intro h
    split at h
    · cases h
    · rename_i h1
      split at h
      · cases h
      · rename_i h2
        split at h
        · cases h
        · rename_i h3
          split at h
          · rename_i h4; exact absurd h h4
          · rename_i h4
            refine ⟨by omega, ?_, fun k => ⟨?_, ?_⟩, fun k => ?_, fun k => ?_, fun k e => ?_, fun k => ?_, by omega, h⟩
            · cases hh : pathB c.Path with | true => rfl | false => exact absurd (Or.inl hh) h2
            · cases hh : pathB c.To with | true => rfl | false => exact absurd (Or.inr ⟨k, hh⟩) h2
            · cases hh : relB c.Path c.To with | false => rfl | true => exact absurd (Or.inr (Or.inl ⟨k, hh⟩)) h3
            · exact Decidable.by_contra fun e => h3 (Or.inl ⟨k, e⟩)
            · exact Decidable.by_contra fun e => h3 (Or.inr (Or.inr (Or.inl ⟨e, k⟩)))
            · exact h3 (Or.inr (Or.inr (Or.inr (Or.inl ⟨k, e⟩))))
            · exact Decidable.by_contra fun e => h3 (Or.inr (Or.inr (Or.inr (Or.inr ⟨k, e⟩))))
  · rintro ⟨a1, a2, a3, a4, a5, a6, a7, a8, a9⟩
    rw [if_neg (by omega), if_neg, if_neg, if_neg (by omega), a9]
    · rintro (⟨h, e⟩ | ⟨h, e⟩ | ⟨e, h⟩ | ⟨h, e⟩ | ⟨h, e⟩)
      · exact e (a4 h)
      · rw [(a3 h).2] at e; cases e
      · exact e (a5 h)
      · exact a6 h e
      · exact e (a7 h)
    · rintro (h | ⟨h, e⟩)
      · rw [a2] at h; cases h
      · rw [(a3 h).1] at e; cases e

theorem empty_eq : ByteArray.empty = (⟨#[]⟩ : ByteArray) := rfl

/-! ## independent changes -/
def pathsF (c : TreeChange) : List ByteArray := if c.Kind = 3 then [c.Path, c.To] else [c.Path]
def touB (p : ByteArray) (c : TreeChange) : Bool := (pathsF c).any fun q => relB q p
def indB (a b : TreeChange) : Bool := !(pathsF a).any fun p => touB p b

theorem paths_f (c : TreeChange) : treecommute_paths c = some (pathsF c) := by
  unfold treecommute_paths pathsF
  rw [ite_dec]
  split <;> rfl

theorem OkCh.size {c : TreeChange} (h : OkCh c) : ∀ p ∈ pathsF c, p.size ≤ 60 := by
  intro p hp
  unfold pathsF at hp
  split at hp
  · rename_i k
    simp only [List.mem_cons, List.not_mem_nil, or_false] at hp
    rcases hp with rfl | rfl
    · exact pathB_size h.path
    · exact pathB_size (h.to k).1
  · simp only [List.mem_singleton] at hp
    subst hp
    exact pathB_size h.path

theorem any_drop {α : Type} (p : α → Bool) {l : List α} {k : Nat} (h : k < l.length) : (l.drop k).any p = (p l[k] || (l.drop (k + 1)).any p) := by
  rw [List.drop_eq_getElem_cons h, List.any_cons]

theorem paths_len (c : TreeChange) : (pathsF c).length ≤ 2 := by unfold pathsF; split <;> simp

theorem touches_f {p : ByteArray} {c : TreeChange} (hp : p.size ≤ 1000000) (hc : ∀ q ∈ pathsF c, q.size ≤ 60) : treecommute_touches p [c] = some (touB p c) := by
  have hlen := paths_len c
  have key : ∀ (n k : Nat), k + n = (pathsF c).length → (iter (fun s => treecommute_touches.l2 p (pathsF c) s) (k : Int) = some (.inr ()) ∧ ((pathsF c).drop k).any (fun q => relB q p) = false) ∨
      ∃ j : Nat, iter (fun s => treecommute_touches.l2 p (pathsF c) s) (k : Int) = some (.inl (j : Int)) ∧ ((pathsF c).drop k).any (fun q => relB q p) = true := by
    intro n
    induction n with
    | zero =>
      intro k hk
      left
      refine ⟨iter_done ?_, by rw [List.drop_of_length_le (by omega)]; rfl⟩
      unfold treecommute_touches.l2
      rw [ite_dec, if_neg (by omega)]
    | succ n ih =>
      intro k hk
      have hlt : k < (pathsF c).length := by omega
      have hq := hc _ (List.getElem_mem hlt)
      rw [any_drop _ hlt]
      have e : treecommute_touches.l2 p (pathsF c) (k : Int) = if relB (pathsF c)[k] p = true then some (Step.done (Sum.inl (k : Int))) else some (Step.next ((k + 1 : Nat) : Int)) := by
        unfold treecommute_touches.l2
        rw [ite_dec, if_pos (by omega), at_nat hlt, Option.bind_some, Related_f (by omega) hp, Option.bind_some]
        split
        · rfl
        · rw [ck_eq (by omega) (by omega)]; rfl
      cases hb : relB (pathsF c)[k] p with
      | true =>
        rw [hb, if_pos rfl] at e
        exact Or.inr ⟨k, iter_done e, by rw [Bool.true_or]⟩
      | false =>
        rw [hb, if_neg (by decide)] at e
        rw [iter_next e, Bool.false_or]
        exact ih (k + 1) (by omega)
  unfold treecommute_touches
  have e1 : treecommute_touches.l1 p [c] 0 = if touB p c = true then some (Step.done (Sum.inl true)) else some (Step.next 1) := by
    unfold treecommute_touches.l1
    rw [if_pos (by simp), show at? [c] 0 = some c from rfl, Option.bind_some, paths_f, Option.bind_some]
    rcases key (pathsF c).length 0 (by omega) with ⟨h1, h2⟩ | ⟨j, h1, h2⟩
    · rw [show (0 : Int) = ((0 : Nat) : Int) from rfl, h1, Option.bind_some]
      rw [List.drop_zero] at h2
      unfold touB
      rw [h2, if_neg (by decide)]
      rfl
    · rw [show (0 : Int) = ((0 : Nat) : Int) from rfl, h1, Option.bind_some]
      rw [List.drop_zero] at h2
      unfold touB
      rw [h2, if_pos rfl]
      simp only [treecommute_touches.j2]
      rw [ite_dec, if_pos (by omega)]
  cases h : touB p c with
  | true =>
    rw [h, if_pos rfl] at e1
    rw [iter_done e1]; rfl
  | false =>
    rw [h, if_neg (by decide)] at e1
    have e2 : treecommute_touches.l1 p [c] 1 = some (Step.done (Sum.inr ())) := by
      unfold treecommute_touches.l1
      rw [if_neg (by simp)]
    rw [iter_next e1, iter_done e2]; rfl

theorem independent_f {a b : TreeChange} (ha : ∀ q ∈ pathsF a, q.size ≤ 60) (hb : ∀ q ∈ pathsF b, q.size ≤ 60) : treecommute_independent a b = some (indB a b) := by
  have hlen := paths_len a
  have key : ∀ (n k : Nat), k + n = (pathsF a).length → (iter (fun s => treecommute_independent.l1 b (pathsF a) s) (k : Int) = some (.inr ()) ∧ ((pathsF a).drop k).any (fun q => touB q b) = false) ∨
      ∃ j : Nat, iter (fun s => treecommute_independent.l1 b (pathsF a) s) (k : Int) = some (.inl (j : Int)) ∧ ((pathsF a).drop k).any (fun q => touB q b) = true := by
    intro n
    induction n with
    | zero =>
      intro k hk
      left
      refine ⟨iter_done ?_, by rw [List.drop_of_length_le (by omega)]; rfl⟩
      unfold treecommute_independent.l1
      rw [ite_dec, if_neg (by omega)]
    | succ n ih =>
      intro k hk
      have hlt : k < (pathsF a).length := by omega
      have hq := ha _ (List.getElem_mem hlt)
      rw [any_drop _ hlt]
      have e : treecommute_independent.l1 b (pathsF a) (k : Int) = if touB (pathsF a)[k] b = true then some (Step.done (Sum.inl (k : Int))) else some (Step.next ((k + 1 : Nat) : Int)) := by
        unfold treecommute_independent.l1
        rw [ite_dec, if_pos (by omega), at_nat hlt, Option.bind_some, touches_f (by omega) hb, Option.bind_some]
        split
        · rfl
        · rw [ck_eq (by omega) (by omega)]; rfl
      cases hx : touB (pathsF a)[k] b with
      | true =>
        rw [hx, if_pos rfl] at e
        exact Or.inr ⟨k, iter_done e, by rw [Bool.true_or]⟩
      | false =>
        rw [hx, if_neg (by decide)] at e
        rw [iter_next e, Bool.false_or]
        exact ih (k + 1) (by omega)
  unfold treecommute_independent indB
  rw [paths_f, Option.bind_some]
  rcases key (pathsF a).length 0 (by omega) with ⟨h1, h2⟩ | ⟨j, h1, h2⟩
  · rw [show (0 : Int) = ((0 : Nat) : Int) from rfl, h1, Option.bind_some]
    rw [List.drop_zero] at h2
    rw [h2]; rfl
  · rw [show (0 : Int) = ((0 : Nat) : Int) from rfl, h1, Option.bind_some]
    rw [List.drop_zero] at h2
    rw [h2]
    simp only [treecommute_independent.j1]
    rw [decide_eq_true (by omega)]

theorem touB_def (p : ByteArray) (c : TreeChange) : touB p c = (relB c.Path p || (decide (c.Kind = 3) && relB c.To p)) := by
  unfold touB pathsF
  by_cases k : c.Kind = 3 <;> simp [k]

theorem Touches_f (c : TreeChange) (p : ByteArray) : changeforgeref2_Touches c p = some (touB p c) := by
  unfold changeforgeref2_Touches
  simp only [RRelated_f, orS, andS, Option.bind_some]
  rw [touB_def]

theorem indB_comm (a b : TreeChange) : indB a b = indB b a := by
  unfold indB
  congr 1
  rw [Bool.eq_iff_iff]
  simp only [touB, List.any_eq_true]
  constructor
  · rintro ⟨p, hp, q, hq, h⟩
    exact ⟨q, hq, p, hp, by rw [relB_comm]; exact h⟩
  · rintro ⟨p, hp, q, hq, h⟩
    exact ⟨q, hq, p, hp, by rw [relB_comm]; exact h⟩

theorem indB_ref (a b : TreeChange) : indB a b = (!touB b.Path a && (!decide (b.Kind = 3) || !touB b.To a)) := by
  rw [indB_comm]
  unfold indB pathsF
  by_cases k : b.Kind = 3 <;> simp [k]
end Go.Dc
