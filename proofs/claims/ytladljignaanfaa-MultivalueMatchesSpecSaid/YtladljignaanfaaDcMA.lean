/- Vectors: one above another, in order, equal; the program's and the document's functions. -/
import Derived.Test.YtladljignaanfaaDcPS
import Derived.Test.YtladljignaanfaaDcM
set_option linter.unusedSimpArgs false
set_option linter.unusedVariables false
namespace Go.Dc
open Go

def covB (a b : List Int) : Bool := !(List.zip a b).any fun p => decide (p.1 < p.2)

def lexB : List Int → List Int → Bool
  | a :: x, b :: y => if a = b then lexB x y else decide (a < b)
  | _, _ => false

def cmpI (x y : Int) : Int := if x < y then -1 else if x > y then 1 else 0
def cmpL : List Int → List Int → Int
  | a :: x, b :: y => if a = b then cmpL x y else cmpI a b
  | _, _ => 0

theorem cmpL_neg : ∀ a b : List Int, decide (cmpL a b < 0) = lexB a b
  | [], _ => by simp [cmpL, lexB]
  | _ :: _, [] => by simp [cmpL, lexB]
  | a :: x, b :: y => by
    rw [cmpL, lexB]
    by_cases h : a = b
    · rw [if_pos h, if_pos h]; exact cmpL_neg x y
    · rw [if_neg h, if_neg h]
      unfold cmpI
      by_cases h2 : a < b
      · rw [if_pos h2]; simp [h2]
      · rw [if_neg h2, if_pos (by omega)]; simp [h2]

theorem cmpL_pos : ∀ a b : List Int, decide (cmpL a b ≤ 0) = !lexB b a
  | [], b => by cases b <;> simp [cmpL, lexB]
  | _ :: _, [] => by simp [cmpL, lexB]
  | a :: x, b :: y => by
    rw [cmpL, lexB]
    by_cases h : a = b
    · rw [if_pos h, if_pos h.symm]; exact cmpL_pos x y
    · rw [if_neg h, if_neg (Ne.symm h)]
      unfold cmpI
      by_cases h2 : a < b
      · rw [if_pos h2]
        have : ¬ b < a := by omega
        simp [this]
      · rw [if_neg h2, if_pos (by omega)]
        have : b < a := by omega
        simp [this]

theorem lexB_irr : ∀ a : List Int, lexB a a = false
  | [] => rfl
  | a :: x => by rw [lexB, if_pos rfl]; exact lexB_irr x

theorem lexB_trans : ∀ {a b c : List Int}, a.length = b.length → lexB a b = true → lexB b c = true → lexB a c = true
  | [], _, _, _, h, _ => by simp [lexB] at h
  | _ :: _, [], _, _, h, _ => by simp [lexB] at h
  | _ :: _, _ :: _, [], _, _, h => by simp [lexB] at h
  | a :: x, b :: y, c :: z, hl, h1, h2 => by
    rw [lexB] at h1 h2 ⊢
    by_cases e1 : a = b
    · rw [if_pos e1] at h1
      by_cases e2 : b = c
      · rw [if_pos e2] at h2; rw [if_pos (e1.trans e2)]; exact lexB_trans (by simpa using hl) h1 h2
      · rw [if_neg e2] at h2; rw [if_neg (by rw [e1]; exact e2), e1]; exact h2
    · rw [if_neg e1] at h1
      have h1' := of_decide_eq_true h1
      by_cases e2 : b = c
      · rw [if_pos e2] at h2; rw [if_neg (by omega)]; exact decide_eq_true (by omega)
      · rw [if_neg e2] at h2
        have h2' := of_decide_eq_true h2
        rw [if_neg (by omega)]; exact decide_eq_true (by omega)

theorem lexB_asymm {a b : List Int} (hl : a.length = b.length) (h : lexB a b = true) : lexB b a = false := by
  cases h2 : lexB b a
  · rfl
  · have := lexB_trans hl h h2
    rw [lexB_irr] at this; cases this

theorem lexB_tri : ∀ {a b : List Int}, a.length = b.length → lexB a b = false → lexB b a = false → a = b
  | [], [], _, _, _ => rfl
  | [], _ :: _, h, _, _ => by simp at h
  | _ :: _, [], h, _, _ => by simp at h
  | a :: x, b :: y, hl, h1, h2 => by
    rw [lexB] at h1 h2
    by_cases e : a = b
    · rw [if_pos e] at h1; rw [if_pos e.symm] at h2
      rw [e, lexB_tri (by simpa using hl) h1 h2]
    · rw [if_neg e] at h1; rw [if_neg (Ne.symm e)] at h2
      have := of_decide_eq_false h1
      have := of_decide_eq_false h2
      omega

theorem lexB_ne {a b : List Int} (h : lexB a b = true) : a ≠ b := by intro e; subst e; rw [lexB_irr] at h; cases h

theorem covB_iff {a b : List Int} (hl : a.length = b.length) : covB a b = true ↔ ∀ i (h : i < a.length), b[i]'(hl ▸ h) ≤ a[i] := by
  unfold covB
  rw [Bool.not_eq_true', List.any_eq_false]
  constructor
  · intro h i hi
    have hz : i < (List.zip a b).length := by rw [List.length_zip, hl, Nat.min_self, ← hl]; exact hi
    have := h _ (List.getElem_mem hz)
    rw [List.getElem_zip] at this
    simp at this
    exact this
  · intro h p hp
    obtain ⟨i, hi, rfl⟩ := List.getElem_of_mem hp
    rw [List.length_zip, hl, Nat.min_self, ← hl] at hi
    have := h i hi
    rw [List.getElem_zip]
    simp
    exact this

theorem covB_refl (a : List Int) : covB a a = true := (covB_iff rfl).2 fun i h => Int.le_refl _

theorem covB_trans {a b c : List Int} (h1 : a.length = b.length) (h2 : b.length = c.length) (h : covB a b = true) (h' : covB b c = true) : covB a c = true :=
  (covB_iff (h1.trans h2)).2 fun i hi => Int.le_trans ((covB_iff h2).1 h' i (h1 ▸ hi)) ((covB_iff h1).1 h i hi)

theorem covB_anti {a b : List Int} (h1 : a.length = b.length) (h : covB a b = true) (h' : covB b a = true) : a = b :=
  List.ext_getElem h1 fun i hi hi' => Int.le_antisymm ((covB_iff h1.symm).1 h' i hi') ((covB_iff h1).1 h i hi)

theorem find_if {β : Type} (c : β) (p : Int × Int → Bool) (l : List (Int × Int)) : l.findSome? (fun q => if p q then some c else Option.none) = if l.any p then some c else Option.none := by
  induction l with
  | nil => rfl
  | cons x r ih =>
    rw [List.findSome?_cons, List.any_cons]
    by_cases h : p x = true
    · rw [if_pos h, h]; rfl
    · rw [if_neg h]; simp only [Bool.not_eq_true] at h; rw [h, Bool.false_or]; exact ih

theorem covers_f {a b : List Int} (hl : a.length = b.length) (hs : a.length ≤ 1000) : multivalue_covers a b = some (covB a b) := by
  unfold multivalue_covers
  rw [pair_loop (fun x y => if decide (x < y) then some false else Option.none) Sum.inl (.inr ()) a b hl ?_ ?_, Option.bind_some]
  · rw [find_if false (fun q => decide (q.1 < q.2))]
    unfold covB
    cases (List.zip a b).any fun q => decide (q.1 < q.2) <;> rfl
  · intro k h h'
    unfold multivalue_covers.l1
    rw [ite_dec, if_pos (by omega), at_nat h, Option.bind_some, at_nat h', Option.bind_some]
    by_cases hc : a[k] < b[k]
    · rw [if_pos (decide_eq_true hc), if_pos (decide_eq_true hc)]
    · rw [if_neg (by simpa using hc), if_neg (by simpa using hc), ck_eq (by omega) (by omega), Option.bind_some]; rfl
  · unfold multivalue_covers.l1
    rw [ite_dec, if_neg (by omega)]

theorem less_f {a b : List Int} (hl : a.length = b.length) (hs : a.length ≤ 1000) : changeforgeref2_less a b = some (lexB a b) := by
  unfold changeforgeref2_less
  rw [pair_loop (fun x y => if x = y then Option.none else some (decide (x < y))) Sum.inl (.inr ()) a b hl ?_ ?_, Option.bind_some]
  · have : ∀ a b : List Int, lexB a b = ((List.zip a b).findSome? (fun p => if p.1 = p.2 then Option.none else some (decide (p.1 < p.2)))).getD false := by
      intro a
      induction a with
      | nil => intro b; cases b <;> rfl
      | cons x a ih =>
        intro b
        cases b with
        | nil => rfl
        | cons y b =>
          rw [lexB, List.zip_cons_cons, List.findSome?_cons]
          by_cases h : x = y
          · rw [if_pos h, if_pos h]; exact ih b
          · rw [if_neg h, if_neg h]; rfl
    rw [this a b]
    cases (List.zip a b).findSome? (fun p => if p.1 = p.2 then Option.none else some (decide (p.1 < p.2))) <;> rfl
  · intro k h h'
    unfold changeforgeref2_less.l1
    rw [ite_dec, if_pos (by omega), at_nat h, Option.bind_some, at_nat h', Option.bind_some, ite_ndec]
    by_cases hc : a[k] = b[k]
    · rw [if_pos hc, if_pos hc, ck_eq (by omega) (by omega), Option.bind_some]; rfl
    · rw [if_neg hc, if_neg hc]; rfl
  · unfold changeforgeref2_less.l1
    rw [ite_dec, if_neg (by omega)]

theorem cmpc_f (x y : Int) : cmp_Compare x y = some (cmpI x y) := by
  unfold cmp_Compare cmp_isNaN cmpI
  simp only [Option.bind_some, decide_true, Bool.not_true, Bool.false_eq_true, if_false, decide_eq_true_eq]
  by_cases h : x < y
  · rw [if_pos h, if_pos h]
  · rw [if_neg h, if_neg h]
    by_cases h2 : x > y
    · rw [if_pos h2, if_pos h2]
    · rw [if_neg h2, if_neg h2]

theorem compare_f {a b : List Int} (hl : a.length = b.length) (hs : a.length ≤ 1000) : slices_Compare a b = some (cmpL a b) := by
  unfold slices_Compare
  rw [pair_loop (fun x y => if x = y then Option.none else some (cmpI x y)) Sum.inl (.inr ()) a b hl ?_ ?_, Option.bind_some]
  · have : ∀ a b : List Int, cmpL a b = ((List.zip a b).findSome? (fun p => if p.1 = p.2 then Option.none else some (cmpI p.1 p.2))).getD 0 := by
      intro a
      induction a with
      | nil => intro b; cases b <;> rfl
      | cons x a ih =>
        intro b
        cases b with
        | nil => rfl
        | cons y b =>
          rw [cmpL, List.zip_cons_cons, List.findSome?_cons]
          by_cases h : x = y
          · rw [if_pos h, if_pos h]; exact ih b
          · rw [if_neg h, if_neg h]; rfl
    rw [this a b]
    cases (List.zip a b).findSome? (fun p => if p.1 = p.2 then Option.none else some (cmpI p.1 p.2)) with
    | some r => rfl
    | none =>
      unfold slices_Compare.j1
      simp only
      rw [ite_dec, if_neg (by omega)]; rfl
  · intro k h h'
    unfold slices_Compare.l1
    rw [ite_dec, if_pos (by omega), at_nat h, Option.bind_some, ite_dec, if_neg (by omega), at_nat h', Option.bind_some, cmpc_f, Option.bind_some, ite_ndec]
    by_cases hc : a[k] = b[k]
    · have : cmpI a[k] b[k] = 0 := by unfold cmpI; rw [if_neg (by omega), if_neg (by omega)]
      rw [if_pos this, if_pos hc, ck_eq (by omega) (by omega), Option.bind_some]; rfl
    · have : ¬ cmpI a[k] b[k] = 0 := by
        unfold cmpI
        by_cases h1 : a[k] < b[k]
        · rw [if_pos h1]; decide
        · rw [if_neg h1, if_pos (by omega)]; decide
      rw [if_neg this, if_neg hc]
  · unfold slices_Compare.l1
    rw [ite_dec, if_neg (by omega)]

theorem zip_eq {a b : List Int} (hl : a.length = b.length) : (List.zip a b).any (fun p => !decide (p.1 = p.2)) = !decide (a = b) := by
  induction a generalizing b with
  | nil => cases b with
    | nil => rfl
    | cons _ _ => simp at hl
  | cons x a ih => cases b with
    | nil => simp at hl
    | cons y b =>
      rw [List.zip_cons_cons, List.any_cons, ih (by simpa using hl)]
      by_cases h : x = y <;> by_cases h2 : a = b <;> simp [h, h2]

theorem sEqual_f (a b : List Int) (hs : a.length ≤ 1000) : slices_Equal a b = some (decide (a = b)) := by
  unfold slices_Equal
  rw [ite_ndec]
  by_cases hl : (a.length : Int) = (b.length : Int)
  · have hl' : a.length = b.length := by omega
    rw [if_pos hl, pair_loop (fun x y => if !decide (x = y) then some false else Option.none) Sum.inl (.inr ()) a b hl' ?_ ?_, Option.bind_some]
    · rw [find_if false (fun q => !decide (q.1 = q.2)), zip_eq hl']
      cases decide (a = b) <;> rfl
    · intro k h h'
      unfold slices_Equal.l1
      rw [ite_dec, if_pos (by omega), at_nat h, Option.bind_some, at_nat h', Option.bind_some]
      by_cases hc : a[k] = b[k]
      · rw [if_neg (by simpa using hc), if_neg (by simpa using hc), ck_eq (by omega) (by omega), Option.bind_some]; rfl
      · rw [if_pos (by simpa using hc), if_pos (by simpa using hc)]
    · unfold slices_Equal.l1
      rw [ite_dec, if_neg (by omega)]
  · rw [if_neg hl, decide_eq_false (fun h => hl (by rw [h]))]

theorem ints_f (a b : List Int) (hs : a.length ≤ 1000) : changeforgeequal_Ints a b = some (decide (a = b)) := by
  unfold changeforgeequal_Ints
  rw [ite_ndec]
  by_cases hl : (a.length : Int) = (b.length : Int)
  · have hl' : a.length = b.length := by omega
    rw [if_pos hl, pair_loop (fun x y => if !decide (x = y) then some false else Option.none) Sum.inl (.inr ()) a b hl' ?_ ?_, Option.bind_some]
    · rw [find_if false (fun q => !decide (q.1 = q.2)), zip_eq hl']
      cases decide (a = b) <;> rfl
    · intro k h h'
      unfold changeforgeequal_Ints.l1
      rw [ite_dec, if_pos (by omega), at_nat h, Option.bind_some, at_nat h', Option.bind_some]
      by_cases hc : a[k] = b[k]
      · rw [if_neg (by simpa using hc), if_neg (by simpa using hc), ck_eq (by omega) (by omega), Option.bind_some]; rfl
      · rw [if_pos (by simpa using hc), if_pos (by simpa using hc)]
    · unfold changeforgeequal_Ints.l1
      rw [ite_dec, if_neg (by omega)]
  · rw [if_neg hl, decide_eq_false (fun h => hl (by rw [h]))]

/-- Relation in one loop -/
theorem relation_f {a b : List Int} (hl : a.length = b.length) (hs : a.length ≤ 1000) : changeforgeref2_Relation a b = some (covB a b, covB b a) := by
  unfold changeforgeref2_Relation
  have hz : (List.zip a b).length = a.length := by rw [List.length_zip, hl, Nat.min_self]
  rw [fold_loop0 (f := fun s => changeforgeref2_Relation.l1 a b s.1 s.2.1 s.2.2) (List.zip a b) (fun (s : Bool × Bool) p => (s.1 && decide (p.1 ≤ p.2), s.2 && decide (p.1 ≥ p.2))) (fun s => (s.1, s.2)) (true, true) ?_ ?_, Option.bind_some]
  · unfold changeforgeref2_Relation.j1
    have key : ∀ (m : List (Int × Int)) (s : Bool × Bool), m.foldl (fun (s : Bool × Bool) p => (s.1 && decide (p.1 ≤ p.2), s.2 && decide (p.1 ≥ p.2))) s = (s.1 && !m.any (fun p => decide (p.2 < p.1)), s.2 && !m.any (fun p => decide (p.1 < p.2))) := by
      intro m
      induction m with
      | nil => intro s; simp
      | cons p m ih =>
        intro s
        rw [List.foldl_cons, ih, List.any_cons, List.any_cons]
        have e1 : decide (p.1 ≤ p.2) = !decide (p.2 < p.1) := by by_cases h : p.2 < p.1 <;> simp [h] <;> omega
        have e2 : decide (p.1 ≥ p.2) = !decide (p.1 < p.2) := by by_cases h : p.1 < p.2 <;> simp [h] <;> omega
        rw [e1, e2]
        simp [Bool.and_assoc]
    rw [key]
    have e : (List.zip a b).any (fun p => decide (p.2 < p.1)) = (List.zip b a).any (fun p => decide (p.1 < p.2)) := by
      clear hz hs hl
      induction a generalizing b with
      | nil => cases b <;> rfl
      | cons x a ih => cases b with
        | nil => rfl
        | cons y b => rw [List.zip_cons_cons, List.zip_cons_cons, List.any_cons, List.any_cons, ih]
    simp only [Bool.true_and]
    rw [e]; rfl
  · intro k h s
    rw [hz] at h
    unfold changeforgeref2_Relation.l1
    simp only
    have h' : k < b.length := by omega
    rw [ite_dec, if_pos (by omega), at_nat h, at_nat h', List.getElem_zip]
    simp only [Option.bind_some]
    obtain ⟨s1, s2⟩ := s
    cases s1 <;> cases s2 <;> simp only [Bool.false_eq_true, if_false, if_true, Option.bind_some, Bool.false_and, Bool.true_and] <;> rw [ck_eq (by omega) (by omega), Option.bind_some] <;> rfl
  · intro s
    unfold changeforgeref2_Relation.l1
    simp only
    rw [hz, ite_dec, if_neg (by omega)]
end Go.Dc
