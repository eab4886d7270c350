/- Joined by sub.py from texts of mine: XDcPA XDcQA XDcVD -/
import Derived.Test.YtmhjcomgbfonfaaGreatDoorDcP
import Derived.Test.YtmhjcomgbfonfaaGreatDoorDcPS
import Derived.Test.YtmhjcomgbfonfaaGreatDoorDcM
import Derived.Lib.IndexAny
set_option linter.unusedSimpArgs false
set_option linter.unusedVariables false
set_option maxRecDepth 4000
namespace Go.Dc
open Go

/-- the length of the longest common part, as the table has it -/
def lcs : List ByteArray → List ByteArray → Nat
  | [], _ => 0
  | _ :: _, [] => 0
  | x :: a, y :: b => if x = y then lcs a b + 1 else max (lcs a (y :: b)) (lcs (x :: a) b)
 termination_by a b => a.length + b.length

/-- the steps: 0 keeps, 1 deletes, 2 inserts -/
def algn : List ByteArray → List ByteArray → List Int
  | [], [] => []
  | [], _ :: b => 2 :: algn [] b
  | _ :: a, [] => 1 :: algn a []
  | x :: a, y :: b => if x = y then 0 :: algn a b else if lcs a (y :: b) ≥ lcs (x :: a) b then 1 :: algn a (y :: b) else 2 :: algn (x :: a) b
 termination_by a b => a.length + b.length

theorem lcs_nil_r (a : List ByteArray) : lcs a [] = 0 := by cases a <;> simp [lcs]
theorem lcs_nil_l (b : List ByteArray) : lcs [] b = 0 := by simp [lcs]
theorem lcs_cons (x y : ByteArray) (a b : List ByteArray) : lcs (x :: a) (y :: b) = if x = y then lcs a b + 1 else max (lcs a (y :: b)) (lcs (x :: a) b) := by rw [lcs]

theorem lcs_le : ∀ (a b : List ByteArray), lcs a b ≤ a.length ∧ lcs a b ≤ b.length
  | [], b => by simp [lcs]
  | _ :: _, [] => by simp [lcs]
  | x :: a, y :: b => by
    rw [lcs_cons]
    have h1 := lcs_le a b
    have h2 := lcs_le a (y :: b)
    have h3 := lcs_le (x :: a) b
    simp only [List.length_cons] at *
    split <;> omega
 termination_by a b => a.length + b.length

/-- a place of the table -/
theorem place_inj {w p q i j : Nat} (hq : q < w) (hj : j < w) (h : p * w + q = i * w + j) : p = i ∧ q = j := by
  have h1 : (p * w + q) / w = p := by rw [Nat.mul_comm, Nat.mul_add_div (by omega)]; simp [Nat.div_eq_of_lt hq]
  have h2 : (i * w + j) / w = i := by rw [Nat.mul_comm, Nat.mul_add_div (by omega)]; simp [Nat.div_eq_of_lt hj]
  have : p = i := by rw [← h1, ← h2, h]
  subst this
  exact ⟨rfl, by omega⟩

theorem place_lt {w p q n : Nat} (hq : q < w) (hp : p ≤ n) : p * w + q < (n + 1) * w := by
  have : p * w ≤ n * w := Nat.mul_le_mul_right _ hp
  rw [Nat.add_mul, Nat.one_mul]
  omega

/-- the table is right at the places of the set K -/
def Tab (a b : List ByteArray) (T : List Int) (K : Nat → Nat → Prop) : Prop :=
  T.length = (a.length + 1) * (b.length + 1) ∧ ∀ p q, p ≤ a.length → q ≤ b.length → (K p q ∨ p = a.length ∨ q = b.length) → T[p * (b.length + 1) + q]? = some (lcs (a.drop p) (b.drop q) : Int)

section
variable {a b : List ByteArray} (hs : (a.length + 1) * (b.length + 1) * 8 ≤ 140737488355328) include hs

theorem small_w : a.length + 1 ≤ 140737488355328 ∧ b.length + 1 ≤ 140737488355328 ∧ (a.length + 1) * (b.length + 1) ≤ 140737488355328 := by
  have h1 : a.length + 1 ≤ (a.length + 1) * (b.length + 1) := Nat.le_mul_of_pos_right _ (by omega)
  have h2 : b.length + 1 ≤ (a.length + 1) * (b.length + 1) := Nat.le_mul_of_pos_left _ (by omega)
  omega

theorem at_place {T : List Int} {K : Nat → Nat → Prop} (h : Tab a b T K) {p q : Nat} (hp : p ≤ a.length) (hq : q ≤ b.length) (hk : K p q ∨ p = a.length ∨ q = b.length) :
    diff_Align_s1 p q T (b.length + 1 : Nat) = some (lcs (a.drop p) (b.drop q) : Int) := by
  obtain ⟨s1, s2, s3⟩ := small_w hs
  have hlt := place_lt (w := b.length + 1) (q := q) (n := a.length) (by omega) hp
  have e : ((p : Int) * ((b.length + 1 : Nat) : Int)) = ((p * (b.length + 1) : Nat) : Int) := by rw [Int.natCast_mul]
  unfold diff_Align_s1
  rw [e, ck_eq (by omega) (by omega)]
  simp only [Option.bind_some]
  rw [show ((p * (b.length + 1) : Nat) : Int) + (q : Int) = ((p * (b.length + 1) + q : Nat) : Int) from by omega, ck_eq (by omega) (by omega)]
  simp only [Option.bind_some]
  have := h.2 p q hp hq hk
  have hl : p * (b.length + 1) + q < T.length := by rw [h.1]; exact hlt
  rw [at_nat hl]
  rw [List.getElem?_eq_getElem hl] at this
  simpa using this

set_option linter.unusedVariables false in omit hs in
theorem tab_set {T : List Int} {K : Nat → Nat → Prop} (h : Tab a b T K) {i j : Nat} (hi : i < a.length) (hj : j < b.length) {x : Int} (hx : x = lcs (a.drop i) (b.drop j)) :
    Tab a b (T.set (i * (b.length + 1) + j) x) (fun p q => K p q ∨ (p = i ∧ q = j)) := by
  refine ⟨by rw [List.length_set]; exact h.1, fun p q hp hq hk => ?_⟩
  by_cases he : p = i ∧ q = j
  · obtain ⟨rfl, rfl⟩ := he
    have hlt := place_lt (w := b.length + 1) (q := q) (n := a.length) (by omega) hp
    rw [List.getElem?_set_self (by rw [h.1]; exact hlt), hx]
  · have hne : i * (b.length + 1) + j ≠ p * (b.length + 1) + q := by
      intro e
      obtain ⟨h1, h2⟩ := place_inj (by omega) (by omega) e
      exact he ⟨h1.symm, h2.symm⟩
    rw [List.getElem?_set_ne hne]
    refine h.2 p q hp hq ?_
    rcases hk with (hk | hk) | hk
    · exact .inl hk
    · exact absurd hk he
    · exact .inr hk

set_option linter.unusedVariables false in omit hs in
theorem drop_cons {l : List ByteArray} {i : Nat} (h : i < l.length) : l.drop i = l[i] :: l.drop (i + 1) := List.drop_eq_getElem_cons h

/-- one row -/
theorem row_eq {i : Nat} (hi : i < a.length) {T : List Int} (h : Tab a b T (fun p _ => i < p)) :
    ∃ T', iter (fun s => diff_Align.l3 a b (b.length + 1 : Nat) i s.1 s.2) ((b.length : Int) - 1, T) = some T' ∧ Tab a b T' (fun p _ => i ≤ p) := by
  obtain ⟨s1, s2, s3⟩ := small_w hs
  refine iter_rule (fun s => ∃ k : Nat, k ≤ b.length ∧ s.1 = (k : Int) - 1 ∧ Tab a b s.2 (fun p q => i < p ∨ (p = i ∧ k ≤ q))) (fun s => (s.1 + 1).toNat) _ ?_ _ ⟨b.length, Nat.le_refl _, rfl, ?_⟩
  · rintro ⟨x, T⟩ ⟨k, hk, hx, hT⟩
    simp only at hx
    subst hx
    unfold diff_Align.l3
    rw [ite_dec]
    cases k with
    | zero =>
      rw [if_neg (by omega)]
      refine .inr ⟨T, rfl, hT.1, fun p q hp hq hk => hT.2 p q hp hq ?_⟩
      rcases hk with hk | hk
      · rcases Nat.lt_or_eq_of_le hk with h | h
        · exact .inl (.inl h)
        · exact .inl (.inr ⟨h.symm, Nat.zero_le _⟩)
      · exact .inr hk
    | succ k =>
      have hkb : k < b.length := hk
      rw [if_pos (by omega)]
      rw [show ((k + 1 : Nat) : Int) - 1 = (k : Int) from by omega]
      rw [ck_eq (by omega) (by omega)]
      simp only [Option.bind_some]
      rw [show ((i : Int) + 1) = ((i + 1 : Nat) : Int) from by omega, at_place hs hT (p := i + 1) (q := k) (by omega) (by omega) (.inl (.inl (by omega)))]
      simp only [Option.bind_some]
      rw [ck_eq (by omega) (by omega)]
      simp only [Option.bind_some]
      rw [show ((k : Int) + 1) = ((k + 1 : Nat) : Int) from by omega, at_place hs hT (p := i) (q := k + 1) (by omega) (by omega) (.inl (.inr ⟨rfl, by omega⟩))]
      simp only [Option.bind_some]
      rw [at_nat hi]
      simp only [Option.bind_some]
      rw [at_nat hkb]
      simp only [Option.bind_some]
      have hlt := place_lt (w := b.length + 1) (q := k) (n := a.length) (p := i) (by omega) (by omega)
      have fin : ∀ x : Int, x = lcs (a.drop i) (b.drop k) → ∃ s', diff_Align.j5 (b.length + 1 : Nat) i k T x = some (.next s') ∧ (∃ k' : Nat, k' ≤ b.length ∧ s'.1 = (k' : Int) - 1 ∧ Tab a b s'.2 (fun p q => i < p ∨ (p = i ∧ k' ≤ q))) ∧ (s'.1 + 1).toNat < (((k : Int)) + 1).toNat := by
        intro x hx
        have e : ((i : Int) * ((b.length + 1 : Nat) : Int)) = ((i * (b.length + 1) : Nat) : Int) := by rw [Int.natCast_mul]
        unfold diff_Align.j5
        rw [e, ck_eq (by omega) (by omega)]
        simp only [Option.bind_some]
        rw [show ((i * (b.length + 1) : Nat) : Int) + (k : Int) = ((i * (b.length + 1) + k : Nat) : Int) from by omega, ck_eq (by omega) (by omega)]
        simp only [Option.bind_some]
        rw [at_nat (by rw [hT.1]; exact hlt)]
        simp only [Option.bind_some]
        rw [ck_eq (by omega) (by omega)]
        simp only [Option.bind_some]
        refine ⟨_, rfl, ⟨k, by omega, rfl, ?_⟩, by simp only; omega⟩
        simp only [Int.toNat_natCast]
        have := tab_set hT hi hkb hx
        refine ⟨this.1, fun p q hp hq hk => this.2 p q hp hq ?_⟩
        rcases hk with (hk | ⟨h1, h2⟩) | hk
        · exact .inl (.inl (.inl hk))
        · rcases Nat.lt_or_eq_of_le h2 with h | h
          · exact .inl (.inl (.inr ⟨h1, h⟩))
          · exact .inl (.inr ⟨h1, h.symm⟩)
        · exact .inr hk
      left
      rw [ite_dec]
      by_cases heq : a[i] = b[k]
      · rw [if_pos heq]
        rw [at_place hs hT (p := i + 1) (q := k + 1) (by omega) (by omega) (.inl (.inl (by omega)))]
        simp only [Option.bind_some]
        have hb := (lcs_le (a.drop (i + 1)) (b.drop (k + 1))).1
        rw [List.length_drop] at hb
        rw [ck_eq (by omega) (by omega)]
        simp only [Option.bind_some]
        obtain ⟨s', h1, h2, h3⟩ := fin (((lcs (a.drop (i + 1)) (b.drop (k + 1)) : Nat) : Int) + 1) (by
          rw [drop_cons hi, drop_cons hkb, lcs_cons, if_pos heq]; omega)
        exact ⟨s', h1, h2, h3⟩
      · rw [if_neg heq]
        obtain ⟨s', h1, h2, h3⟩ := fin (max ((lcs (a.drop (i + 1)) (b.drop k) : Nat) : Int) ((lcs (a.drop i) (b.drop (k + 1)) : Nat) : Int)) (by
          have e1 := drop_cons hi
          have e2 := drop_cons hkb
          rw [e1, e2, lcs_cons, if_neg heq, ← e1, ← e2]
          omega)
        exact ⟨s', h1, h2, h3⟩
  · refine ⟨h.1, fun p q hp hq hk => h.2 p q hp hq ?_⟩
    rcases hk with (hk | ⟨_, h2⟩) | hk
    · exact .inl hk
    · exact .inr (.inr (by omega))
    · exact .inr hk

theorem table_eq : ∃ T', iter (fun s => diff_Align.l2 a b (b.length + 1 : Nat) s.1 s.2) ((a.length : Int) - 1, List.replicate ((a.length + 1) * (b.length + 1)) 0) = some T' ∧ Tab a b T' (fun _ _ => True) := by
  obtain ⟨s1, s2, s3⟩ := small_w hs
  refine iter_rule (fun s => ∃ k : Nat, k ≤ a.length ∧ s.1 = (k : Int) - 1 ∧ Tab a b s.2 (fun p _ => k ≤ p)) (fun s => (s.1 + 1).toNat) _ ?_ _ ⟨a.length, Nat.le_refl _, rfl, ?_⟩
  · rintro ⟨x, T⟩ ⟨k, hk, hx, hT⟩
    simp only at hx
    subst hx
    unfold diff_Align.l2
    rw [ite_dec]
    cases k with
    | zero =>
      rw [if_neg (by omega)]
      exact .inr ⟨T, rfl, hT.1, fun p q hp hq _ => hT.2 p q hp hq (.inl (Nat.zero_le _))⟩
    | succ k =>
      rw [if_pos (by omega), show ((k + 1 : Nat) : Int) - 1 = (k : Int) from by omega, ck_eq (by omega) (by omega)]
      simp only [Option.bind_some]
      obtain ⟨T', h1, h2⟩ := row_eq hs (i := k) (by omega) (T := T) ⟨hT.1, fun p q hp hq hk => hT.2 p q hp hq (by
        rcases hk with hk | hk
        · exact .inl hk
        · exact .inr hk)⟩
      rw [h1]
      simp only [Option.bind_some]
      unfold diff_Align.j4 diff_Align.j3
      rw [ck_eq (by omega) (by omega)]
      simp only [Option.bind_some]
      exact .inl ⟨_, rfl, ⟨k, by omega, rfl, h2⟩, by simp only; omega⟩
  · refine ⟨by simp, fun p q hp hq hk => ?_⟩
    have hlt := place_lt (w := b.length + 1) (q := q) (n := a.length) (p := p) (by omega) hp
    have hz : lcs (a.drop p) (b.drop q) = 0 := by
      rcases hk with hk | hk | hk
      · have : p = a.length := by omega
        subst this; simp [lcs]
      · subst hk; simp [lcs]
      · subst hk; simp [lcs_nil_r]
    rw [hz, List.getElem?_replicate, if_pos hlt]
    rfl

theorem sum_small : (a.length + b.length) * 8 ≤ 140737488355328 := by
  have : a.length + b.length + 1 ≤ (a.length + 1) * (b.length + 1) := by
    rw [Nat.add_mul, Nat.mul_add, Nat.mul_one, Nat.one_mul]; omega
  omega

theorem script_eq {T : List Int} (hT : Tab a b T (fun _ _ => True)) : iter (fun s => diff_Align.l1 a b (b.length + 1 : Nat) T s.1 s.2.1 s.2.2) (0, 0, []) = some (algn a b) := by
  obtain ⟨s1, s2, s3⟩ := small_w hs
  have s4 := sum_small hs
  refine iter_eq_of (σ := Int × Int × List Int) (fun s => ∃ i j : Nat, i ≤ a.length ∧ j ≤ b.length ∧ s.1 = (j : Int) ∧ s.2.1 = (i : Int) ∧ s.2.2.length ≤ i + j ∧ s.2.2 ++ algn (a.drop i) (b.drop j) = algn a b) (fun s => (a.length + b.length) - (s.1.toNat + s.2.1.toNat)) _ ?_ _ ⟨0, 0, Nat.zero_le _, Nat.zero_le _, rfl, rfl, by simp, by simp⟩
  rintro ⟨x, y, out⟩ ⟨i, j, hi, hj, hx, hy, hl, hout⟩
  simp only at hx hy hl hout ⊢
  subst hx; subst hy
  unfold diff_Align.l1
  simp only [ite_dec]
  by_cases hend : i = a.length ∧ j = b.length
  · obtain ⟨rfl, rfl⟩ := hend
    right
    rw [if_neg (by omega)]
    simp only [Option.bind_some]
    rw [if_neg (by simp)]
    simp only [List.drop_length] at hout
    rw [← hout]
    simp [algn]
  · left
    have hgo : (if (i : Int) < (a.length : Int) then some true else some (decide ((j : Int) < (b.length : Int)))) = some true := by
      by_cases h : i < a.length
      · rw [if_pos (by omega)]
      · rw [if_neg (by omega), decide_eq_true (by omega)]
    rw [hgo]
    simp only [Option.bind_some, if_true]
    have keepNext : ∀ (x : Int) (i' j' : Nat), i' ≤ a.length → j' ≤ b.length → i + j < i' + j' → out ++ ([x] ++ algn (a.drop i') (b.drop j')) = algn a b →
        ((app? 8 out [x]) = some (out ++ [x])) ∧ (∃ (i_ j_ : Nat), i_ ≤ a.length ∧ j_ ≤ b.length ∧ ((j' : Nat) : Int) = j_ ∧ ((i' : Nat) : Int) = i_ ∧ (out ++ [x]).length ≤ i_ + j_ ∧ (out ++ [x]) ++ algn (a.drop i_) (b.drop j_) = algn a b) ∧ (a.length + b.length) - (j' + i') < (a.length + b.length) - (j + i) := by
      intro x i' j' h1 h2 h3 h4
      refine ⟨app_eq (by simp only [List.length_singleton]; omega), ⟨i', j', h1, h2, rfl, rfl, by simp; omega, by rw [List.append_assoc]; exact h4⟩, by omega⟩
    by_cases hia : i < a.length
    · by_cases hjb : j < b.length
      · have hda := drop_cons hia
        have hdb := drop_cons hjb
        have hboth : (if (i : Int) < (a.length : Int) then some (decide ((j : Int) < (b.length : Int))) else some false) = some true := by
          rw [if_pos (by omega), decide_eq_true (by omega)]
        rw [hboth]
        simp only [Option.bind_some, if_true]
        rw [at_nat hia, at_nat hjb]
        simp only [Option.bind_some, decide_eq_true_eq]
        by_cases heq : a[i] = b[j]
        · rw [if_pos heq]
          have h4 : out ++ ([0] ++ algn (a.drop (i + 1)) (b.drop (j + 1))) = algn a b := by
            rw [← hout, hda, hdb]
            conv => rhs; rw [algn]
            rw [if_pos heq]; rfl
          obtain ⟨e1, e2, e3⟩ := keepNext 0 (i + 1) (j + 1) (by omega) (by omega) (by omega) h4
          rw [e1]
          simp only [Option.bind_some]
          rw [ck_eq (by omega) (by omega)]
          simp only [Option.bind_some]
          rw [ck_eq (by omega) (by omega)]
          simp only [Option.bind_some]
          exact ⟨_, rfl, e2, by simp only; omega⟩
        · rw [if_neg heq]
          have hjn : ¬ ((j : Int) = (b.length : Int)) := by omega
          rw [if_neg hjn, if_pos (by omega), ck_eq (by omega) (by omega)]
          simp only [Option.bind_some]
          rw [show ((i : Int) + 1) = ((i + 1 : Nat) : Int) from by omega, at_place hs hT (p := i + 1) (q := j) (by omega) (by omega) (.inl trivial)]
          simp only [Option.bind_some]
          rw [ck_eq (by omega) (by omega)]
          simp only [Option.bind_some]
          rw [show ((j : Int) + 1) = ((j + 1 : Nat) : Int) from by omega, at_place hs hT (p := i) (q := j + 1) (by omega) (by omega) (.inl trivial)]
          simp only [Option.bind_some, decide_eq_true_eq]
          by_cases hge : ((lcs (a.drop (i + 1)) (b.drop j) : Nat) : Int) ≥ ((lcs (a.drop i) (b.drop (j + 1)) : Nat) : Int)
          · rw [if_pos hge]
            have h4 : out ++ ([1] ++ algn (a.drop (i + 1)) (b.drop j)) = algn a b := by
              rw [← hout]
              conv => rhs; rw [hda, hdb, algn]
              rw [if_neg heq, ← hda, ← hdb, if_pos (by omega)]; rfl
            obtain ⟨e1, e2, e3⟩ := keepNext 1 (i + 1) j (by omega) (by omega) (by omega) h4
            rw [e1]
            simp only [Option.bind_some]
            exact ⟨_, rfl, e2, by simp only; omega⟩
          · rw [if_neg hge]
            have h4 : out ++ ([2] ++ algn (a.drop i) (b.drop (j + 1))) = algn a b := by
              rw [← hout]
              conv => rhs; rw [hda, hdb, algn]
              rw [if_neg heq, ← hda, ← hdb, if_neg (by omega)]; rfl
            obtain ⟨e1, e2, e3⟩ := keepNext 2 i (j + 1) (by omega) (by omega) (by omega) h4
            rw [e1]
            simp only [Option.bind_some]
            exact ⟨_, rfl, e2, by simp only; omega⟩
      · -- the second text is at its end
        have hj' : j = b.length := by omega
        subst hj'
        have hda := drop_cons hia
        have hboth : (if (i : Int) < (a.length : Int) then some (decide ((b.length : Int) < (b.length : Int))) else some false) = some false := by
          rw [if_pos (by omega), decide_eq_false (by omega)]
        rw [hboth]
        simp only [Option.bind_some, Bool.false_eq_true, if_false, if_true]
        have h4 : out ++ ([1] ++ algn (a.drop (i + 1)) (b.drop b.length)) = algn a b := by
          rw [← hout, hda, List.drop_length]
          conv => rhs; rw [algn]
          rfl
        obtain ⟨e1, e2, e3⟩ := keepNext 1 (i + 1) b.length (by omega) (by omega) (by omega) h4
        rw [e1]
        simp only [Option.bind_some]
        rw [ck_eq (by omega) (by omega)]
        simp only [Option.bind_some]
        exact ⟨_, rfl, e2, by simp only; omega⟩
    · have hi' : i = a.length := by omega
      subst hi'
      have hjb : j < b.length := by omega
      have hdb := drop_cons hjb
      have hboth : (if (a.length : Int) < (a.length : Int) then some (decide ((j : Int) < (b.length : Int))) else some false) = some false := by
        rw [if_neg (by omega)]
      rw [hboth]
      simp only [Option.bind_some, Bool.false_eq_true, if_false]
      rw [if_neg (show ¬ ((j : Int) = (b.length : Int)) by omega), if_neg (show ¬ ((a.length : Int) < (a.length : Int)) by omega)]
      simp only [Option.bind_some, Bool.false_eq_true, if_false]
      have h4 : out ++ ([2] ++ algn (a.drop a.length) (b.drop (j + 1))) = algn a b := by
        rw [← hout, hdb, List.drop_length]
        conv => rhs; rw [algn]
        rfl
      obtain ⟨e1, e2, e3⟩ := keepNext 2 a.length (j + 1) (by omega) (by omega) (by omega) h4
      rw [e1]
      simp only [Option.bind_some]
      rw [ck_eq (by omega) (by omega)]
      simp only [Option.bind_some]
      exact ⟨_, rfl, e2, by simp only; omega⟩

/-- what diff.Align comes to -/
theorem align_eq : diff_Align a b = some (algn a b) := by
  obtain ⟨s1, s2, s3⟩ := small_w hs
  have c1 : ckK .i64 ((b.length : Int) + 1) = some (((b.length + 1 : Nat)) : Int) := ck_eq (by omega) (by omega)
  have c2 : ckK .i64 ((a.length : Int) + 1) = some (((a.length + 1 : Nat)) : Int) := ck_eq (by omega) (by omega)
  have c3 : ckK .i64 ((((a.length + 1 : Nat)) : Int) * (((b.length + 1 : Nat)) : Int)) = some (((a.length + 1) * (b.length + 1) : Nat) : Int) := by
    rw [← Int.natCast_mul]; exact ck_eq (by omega) (by omega)
  have c4 : mk? 8 ((((a.length + 1) * (b.length + 1) : Nat)) : Int) (0 : Int) = some (List.replicate ((a.length + 1) * (b.length + 1)) 0) := by
    rw [mk_eq (Int.natCast_nonneg _) (by omega), Int.toNat_natCast]
  have c5 : ckK .i64 ((a.length : Int) - 1) = some ((a.length : Int) - 1) := ck_eq (by omega) (by omega)
  obtain ⟨T, h1, h2⟩ := table_eq hs
  have h3 := script_eq hs h2
  unfold diff_Align
  rw [c1, Option.bind_some, c2, Option.bind_some, c3, Option.bind_some, c4, Option.bind_some, c5, Option.bind_some, h1, Option.bind_some]
  unfold diff_Align.j1 diff_Align.j2
  rw [h3, Option.bind_some]

end
/-- a line the program takes -/
def OkLine (s : ByteArray) : Prop := s.size ≤ 80 ∧ idxB s 10 < 0
/-- a text the program takes -/
def OkText (l : List ByteArray) : Prop := l.length ≤ 120 ∧ ∀ s ∈ l, OkLine s

theorem not_okText {l : List ByteArray} {k : Nat} (h : k < l.length) (hs : ¬ OkLine l[k]) : ¬ OkText l := fun ⟨_, hl⟩ => hs (hl _ (List.getElem_mem h))

theorem validate_eq (l : List ByteArray) : ∃ f, lines_Validate l = some f ∧ ((f = ⟨0, 0⟩ ∧ OkText l) ∨ (f.Code ≠ 0 ∧ ¬ OkText l)) := by
  unfold lines_Validate
  rw [ite_dec]
  by_cases h120 : (l.length : Int) > 120
  · rw [if_pos h120]
    exact ⟨_, rfl, .inr ⟨by simp, fun h => by have := h.1; omega⟩⟩
  · rw [if_neg h120]
    obtain ⟨r, h1, h2⟩ := iter_rule (m := fun s => lines_Validate.l1 l s) (fun s => ∃ k : Nat, s = (k : Int) ∧ k ≤ l.length ∧ ∀ q (hq : q < l.length), q < k → OkLine l[q]) (fun s => l.length - s.toNat)
      (fun r => (r = .inr () ∧ OkText l) ∨ ∃ f, r = .inl f ∧ f.Code ≠ 0 ∧ ¬ OkText l) (by
        rintro s ⟨k, rfl, hk, hall⟩
        unfold lines_Validate.l1
        rw [ite_dec]
        by_cases hlt : k < l.length
        · rw [if_pos (by omega), at_nat hlt, Option.bind_some, ite_dec]
          by_cases h80 : (l[k].size : Int) > 80
          · rw [if_pos h80]
            exact .inr ⟨_, rfl, .inr ⟨_, rfl, by simp, not_okText hlt (fun h => by have := h.1; omega)⟩⟩
          · rw [if_neg h80]
            unfold strings_IndexByte stringslite_IndexByte
            simp only [Option.bind_some, ite_dec]
            by_cases h10 : idxB l[k] 10 ≥ 0
            · rw [if_pos h10]
              exact .inr ⟨_, rfl, .inr ⟨_, rfl, by simp, not_okText hlt (fun h => by have := h.2; omega)⟩⟩
            · rw [if_neg h10, ck_eq (by omega) (by omega), Option.bind_some]
              refine .inl ⟨_, rfl, ⟨k + 1, by omega, hlt, fun q hq hqk => ?_⟩, by omega⟩
              by_cases he : q = k
              · subst he; exact ⟨by omega, by omega⟩
              · exact hall q hq (by omega)
        · rw [if_neg (by omega)]
          refine .inr ⟨_, rfl, .inl ⟨rfl, by omega, fun s hs => ?_⟩⟩
          obtain ⟨q, hq, rfl⟩ := List.getElem_of_mem hs
          exact hall q hq (by omega)) 0 ⟨0, rfl, Nat.zero_le _, fun q hq h => absurd h (by omega)⟩
    rw [h1, Option.bind_some]
    rcases h2 with ⟨rfl, h⟩ | ⟨f, rfl, h, h'⟩
    · exact ⟨_, rfl, .inl ⟨rfl, h⟩⟩
    · exact ⟨_, rfl, .inr ⟨h, h'⟩⟩

theorem faultless {f : Fault} : (!(decide (f.Code = 0) && decide (f.Index = 0))) = true ↔ ¬ (f.Code = 0 ∧ f.Index = 0) := by
  by_cases h : f.Code = 0 <;> by_cases h' : f.Index = 0 <;> simp [h, h']

theorem strings_eq (a b : List ByteArray) (hb : a.length ≤ 1000000) : changeforgeequal_Strings a b = some (decide (a = b)) := by
  unfold changeforgeequal_Strings
  rw [ite_ndec]
  by_cases hl : (a.length : Int) = (b.length : Int)
  · rw [if_pos hl]
    have hl' : a.length = b.length := by omega
    obtain ⟨r, h1, h2⟩ := iter_rule (m := fun s => changeforgeequal_Strings.l1 a b s) (fun s => ∃ k : Nat, s = (k : Int) ∧ k ≤ a.length ∧ a.take k = b.take k) (fun s => a.length - s.toNat)
      (fun r => (r = .inr () ∧ a = b) ∨ (r = .inl false ∧ a ≠ b)) (by
        rintro s ⟨k, rfl, hk, hall⟩
        unfold changeforgeequal_Strings.l1
        rw [ite_dec]
        by_cases hlt : k < a.length
        · rw [if_pos (by omega), at_nat hlt, Option.bind_some, at_nat (by omega), Option.bind_some, ite_ndec]
          by_cases he : a[k] = b[k]
          · rw [if_pos he, ck_eq (by omega) (by omega), Option.bind_some]
            exact .inl ⟨_, rfl, ⟨k + 1, by omega, hlt, by rw [List.take_succ_eq_append_getElem hlt, List.take_succ_eq_append_getElem (by omega), hall, he]⟩, by omega⟩
          · rw [if_neg he]
            exact .inr ⟨_, rfl, .inr ⟨rfl, fun h => he (by subst h; rfl)⟩⟩
        · rw [if_neg (by omega)]
          refine .inr ⟨_, rfl, .inl ⟨rfl, ?_⟩⟩
          rw [List.take_of_length_le (by omega), List.take_of_length_le (by omega)] at hall
          exact hall) 0 ⟨0, rfl, Nat.zero_le _, by simp⟩
    rw [h1, Option.bind_some]
    rcases h2 with ⟨rfl, h⟩ | ⟨rfl, h⟩
    · rw [decide_eq_true h]; rfl
    · rw [decide_eq_false h]
  · rw [if_neg hl, decide_eq_false (fun h => hl (by rw [h]))]

/-- a datum of either side -/
def orL {α : Type} : Option α → α ⊕ Unit
  | some x => .inl x
  | Option.none => .inr ()

theorem drop_at {α : Type} {l r : List α} {x : α} {k : Nat} (h : l.drop k = x :: r) : ∃ hk : k < l.length, l[k] = x ∧ l.drop (k + 1) = r := by
  have hk : k < l.length := by
    rcases Nat.lt_or_ge k l.length with h' | h'
    · exact h'
    · rw [List.drop_eq_nil_of_le h'] at h; cases h
  rw [List.drop_eq_getElem_cons hk] at h
  exact ⟨hk, (List.cons.inj h).1, (List.cons.inj h).2⟩

theorem drop_end {α : Type} {l : List α} {k : Nat} (h : l.drop k = []) : l.length ≤ k := by simpa using h

def hasNL (s : ByteArray) : Bool := s.data.toList.contains 10

theorem idxB_nl (s : ByteArray) : decide (idxB s 10 ≥ 0) = hasNL s := by
  unfold hasNL idxB
  rw [Lib.contains_iff_indexByte]
  rfl

def tscan : Int → List ByteArray → Option Fault
  | _, [] => Option.none
  | i, s :: r => if s.size > 80 then some ⟨2, i⟩ else if hasNL s then some ⟨5, i⟩ else tscan (i + 1) r

/-- the fault of a text -/
def textFault (l : List ByteArray) : Fault := if l.length > 120 then ⟨2, -1⟩ else (tscan 0 l).getD ⟨0, 0⟩

theorem validate_f (l : List ByteArray) : lines_Validate l = some (textFault l) := by
  unfold lines_Validate textFault
  rw [ite_dec]
  by_cases h120 : l.length > 120
  · rw [if_pos (by omega), if_pos h120]
  · rw [if_neg (by omega), if_neg h120]
    have key : ∀ (rest : List ByteArray) (k : Nat), l.drop k = rest → iter (fun s => lines_Validate.l1 l s) (k : Int) = some (orL (tscan k rest)) := by
      intro rest
      induction rest with
      | nil =>
        intro k hk
        have := drop_end hk
        refine iter_done ?_
        unfold lines_Validate.l1
        rw [ite_dec, if_neg (by omega)]; rfl
      | cons s r ih =>
        intro k hk
        obtain ⟨hlt, hs, hr⟩ := drop_at hk
        have e1 : lines_Validate.l1 l (k : Int) = if s.size > 80 then some (Step.done (.inl ⟨2, (k : Int)⟩)) else if hasNL s then some (Step.done (.inl ⟨5, (k : Int)⟩)) else some (Step.next ((k : Int) + 1)) := by
          unfold lines_Validate.l1 strings_IndexByte stringslite_IndexByte
          simp (disch := omega) only [at_nat hlt, hs, Option.bind_some, ck_eq, if_pos, ← idxB_nl, decide_eq_true_eq]
          by_cases h : s.size > 80
          · rw [if_pos (by omega), if_pos h]
          · rw [if_neg (by omega), if_neg h]
        rw [tscan]
        by_cases h80 : s.size > 80
        · rw [if_pos h80] at e1 ⊢; exact iter_done e1
        · rw [if_neg h80] at e1 ⊢
          cases hn : hasNL s with
          | true => rw [hn, if_pos rfl] at e1; exact iter_done e1
          | false =>
            rw [hn, if_neg (by decide)] at e1
            have := ih (k + 1) hr
            rw [iter_next e1]
            exact this
    have := key l 0 rfl
    simp only [Int.natCast_zero] at this
    rw [show (0 : Int) = ((0 : Nat) : Int) from rfl] at *
    rw [key l 0 rfl, Option.bind_some]
    cases tscan ((0 : Nat) : Int) l <;> rfl

theorem sAt_nat {s : ByteArray} {k : Nat} (h : k < s.size) : sAt? s (k : Int) = some ((s[k].toNat : Nat) : Int) := by
  unfold sAt?
  rw [if_pos (by omega)]
  simp [h]

theorem tscan_code : ∀ (l : List ByteArray) (i : Int) (f : Fault), tscan i l = some f → f.Code ≠ 0
  | [], _, _, h => by cases h
  | s :: r, i, f, h => by
    rw [tscan] at h
    split at h
    · cases h; show (2 : Int) ≠ 0; decide
    · split at h
      · cases h; show (5 : Int) ≠ 0; decide
      · exact tscan_code r _ f h

theorem textFault_ok (l : List ByteArray) : textFault l = ⟨0, 0⟩ ∨ (textFault l).Code ≠ 0 := by
  unfold textFault
  split
  · right; decide
  · cases h : tscan 0 l with
    | none => left; rfl
    | some f => right; exact tscan_code l 0 f h

theorem textFault_zero (l : List ByteArray) : textFault l = ⟨0, 0⟩ ↔ (textFault l).Code = 0 := by
  rcases textFault_ok l with h | h
  · rw [h]; exact ⟨fun _ => rfl, fun _ => rfl⟩
  · constructor
    · intro h2; rw [h2]
    · intro h2; exact absurd h2 h

theorem okText_iff (l : List ByteArray) : OkText l ↔ textFault l = ⟨0, 0⟩ := by
  obtain ⟨f, h1, h2⟩ := validate_eq l
  rw [validate_f] at h1
  cases h1
  rcases h2 with ⟨h3, h4⟩ | ⟨h3, h4⟩
  · exact ⟨fun _ => h3, fun _ => h4⟩
  · exact ⟨fun h => absurd h h4, fun h => absurd (by rw [h]) h3⟩

theorem second_f (l : List ByteArray) (i : Int) : lines_Second l i = some (if (textFault l).Code = 0 then ⟨0, 0⟩ else ⟨(textFault l).Code, i⟩) := by
  unfold lines_Second
  rw [validate_f, Option.bind_some]
  rcases textFault_ok l with h | h
  · rw [h]; rfl
  · rw [if_pos (faultless.2 fun h2 => h h2.1), if_neg h]
theorem second_eq (l : List ByteArray) (i : Int) : ∃ f, lines_Second l i = some f ∧ ((f = ⟨0, 0⟩ ∧ OkText l) ∨ (f.Code ≠ 0 ∧ ¬ OkText l)) := by
  obtain ⟨f, h1, h2⟩ := validate_eq l
  unfold lines_Second
  rw [h1, Option.bind_some]
  rcases h2 with ⟨rfl, h⟩ | ⟨h, h'⟩
  · rw [if_neg (by simp)]; exact ⟨_, rfl, .inl ⟨rfl, h⟩⟩
  · rw [if_pos (faultless.2 (fun h2 => h h2.1))]; exact ⟨_, rfl, .inr ⟨h, h'⟩⟩

theorem both_eq (a b : List ByteArray) : ∃ f, lines_Both a b = some f ∧ ((f = ⟨0, 0⟩ ∧ OkText a ∧ OkText b) ∨ (f.Code ≠ 0 ∧ ¬ (OkText a ∧ OkText b))) := by
  obtain ⟨f, h1, h2⟩ := validate_eq a
  unfold lines_Both
  rw [h1, Option.bind_some]
  rcases h2 with ⟨rfl, h⟩ | ⟨h, h'⟩
  · rw [if_neg (by simp)]
    obtain ⟨f2, h3, h4⟩ := second_eq b (-2)
    rw [h3]
    refine ⟨f2, rfl, ?_⟩
    rcases h4 with ⟨rfl, h4⟩ | ⟨h4, h5⟩
    · exact .inl ⟨rfl, h, h4⟩
    · exact .inr ⟨h4, fun hh => h5 hh.2⟩
  · rw [if_pos (faultless.2 (fun h2 => h h2.1))]; exact ⟨_, rfl, .inr ⟨h, fun hh => h' hh.1⟩⟩

theorem algn_len : ∀ (a b : List ByteArray), (algn a b).length ≤ a.length + b.length
  | [], [] => by simp [algn]
  | [], _ :: b => by have := algn_len [] b; simp [algn] at *; omega
  | _ :: a, [] => by have := algn_len a []; simp [algn] at *; omega
  | x :: a, y :: b => by
    have h1 := algn_len a b
    have h2 := algn_len a (y :: b)
    have h3 := algn_len (x :: a) b
    rw [algn]
    simp only [List.length_cons] at *
    split
    · simp only [List.length_cons]; omega
    · split <;> simp only [List.length_cons] <;> omega
 termination_by a b => a.length + b.length

theorem okText_small {a b : List ByteArray} (ha : OkText a) (hb : OkText b) : (a.length + 1) * (b.length + 1) * 8 ≤ 140737488355328 := by
  have h1 : a.length + 1 ≤ 121 := by have := ha.1; omega
  have h2 : b.length + 1 ≤ 121 := by have := hb.1; omega
  have := Nat.mul_le_mul h1 h2
  omega

def nz : List Int → Nat
  | [] => 0
  | s :: ss => if s = 0 then nz ss else nz ss + 1

theorem nz_le : ∀ l, nz l ≤ l.length
  | [] => by simp [nz]
  | s :: ss => by have := nz_le ss; simp only [nz, List.length_cons]; split <;> omega

theorem nz_append : ∀ l r, nz (l ++ r) = nz l + nz r
  | [], r => by simp [nz]
  | s :: l, r => by simp only [List.cons_append, nz, nz_append l r]; split <;> omega

theorem algn_nz : ∀ a b : List ByteArray, nz (algn a b) + 2 * lcs a b = a.length + b.length
  | [], [] => by simp [algn, nz, lcs]
  | [], _ :: b => by have := algn_nz [] b; simp [algn, nz, lcs] at *; omega
  | _ :: a, [] => by have := algn_nz a []; simp [algn, nz, lcs_nil_r] at *; omega
  | x :: a, y :: b => by
    have h1 := algn_nz a b
    have h2 := algn_nz a (y :: b)
    have h3 := algn_nz (x :: a) b
    rw [algn, lcs_cons]
    simp only [List.length_cons] at *
    split
    · rw [nz, if_pos rfl]; omega
    · split
      · rw [nz, if_neg (by decide)]; omega
      · rw [nz, if_neg (by decide)]; omega
 termination_by a b => a.length + b.length

theorem lcs_comm : ∀ a b : List ByteArray, lcs a b = lcs b a
  | [], b => by rw [lcs_nil_l, lcs_nil_r]
  | _ :: _, [] => by rw [lcs_nil_l, lcs_nil_r]
  | x :: a, y :: b => by
    rw [lcs_cons, lcs_cons, lcs_comm a b, lcs_comm a (y :: b), lcs_comm (x :: a) b]
    by_cases h : x = y
    · subst h; simp
    · rw [if_neg h, if_neg (fun e => h e.symm), Nat.max_comm]
 termination_by a b => a.length + b.length

theorem lcs_self : ∀ a : List ByteArray, lcs a a = a.length
  | [] => by simp [lcs]
  | x :: a => by rw [lcs_cons, if_pos rfl, lcs_self a]; rfl

theorem lcs_full : ∀ a b : List ByteArray, lcs a b = a.length → lcs a b = b.length → a = b
  | [], [], _, _ => rfl
  | [], _ :: _, _, h => by simp [lcs] at h
  | _ :: _, [], h, _ => by simp [lcs] at h
  | x :: a, y :: b, h1, h2 => by
    rw [lcs_cons] at h1 h2
    have l2 := lcs_le a (y :: b)
    have l3 := lcs_le (x :: a) b
    simp only [List.length_cons] at *
    split at h1
    · rename_i he
      subst he
      simp only [if_true] at h2
      rw [lcs_full a b (by omega) (by omega)]
    · rename_i he
      rw [if_neg he] at h2
      omega

theorem distance_eq (a b : List ByteArray) : ∃ v f, diff_Distance a b = some (v, f) ∧ ((f = ⟨0, 0⟩ ∧ OkText a ∧ OkText b ∧ v + 2 * (lcs a b : Int) = a.length + b.length) ∨ (f.Code ≠ 0 ∧ ¬ (OkText a ∧ OkText b))) := by
  obtain ⟨f, h1, h2⟩ := both_eq a b
  unfold diff_Distance
  rw [h1, Option.bind_some]
  rcases h2 with ⟨rfl, ha, hb⟩ | ⟨h2, h3⟩
  · rw [if_neg (by simp), align_eq (okText_small ha hb), Option.bind_some]
    have hl := algn_len a b
    have l1 := ha.1
    have l2 := hb.1
    have main : iter (fun s => diff_Distance.l1 (algn a b) s.1 s.2) (0, 0) = some ((nz (algn a b) : Nat) : Int) := by
      refine iter_eq_of (σ := Int × Int) (fun s => ∃ k : Nat, s.1 = (k : Int) ∧ k ≤ (algn a b).length ∧ s.2 = ((nz ((algn a b).take k) : Nat) : Int)) (fun s => (algn a b).length - s.1.toNat) _ ?_ _ ⟨0, rfl, Nat.zero_le _, by simp [nz]⟩
      rintro ⟨s, t⟩ ⟨k, hs, hk, ht⟩
      simp only at hs ht ⊢
      subst hs; subst ht
      unfold diff_Distance.l1
      rw [ite_dec]
      by_cases hlt : k < (algn a b).length
      · left
        rw [if_pos (by omega), at_nat hlt, Option.bind_some, ite_ndec]
        have hn := nz_le ((algn a b).take k)
        rw [List.length_take] at hn
        have e : nz ((algn a b).take (k + 1)) = nz ((algn a b).take k) + (if (algn a b)[k] = 0 then 0 else 1) := by
          rw [List.take_succ_eq_append_getElem hlt, nz_append]
          simp only [nz]
        unfold diff_Distance.j2
        by_cases h0 : (algn a b)[k] = 0
        · rw [if_pos h0, ck_eq (by omega) (by omega), Option.bind_some]
          rw [if_pos h0] at e
          exact ⟨_, rfl, ⟨k + 1, by simp, hlt, by rw [e]; rfl⟩, by simp only; omega⟩
        · rw [if_neg h0, ck_eq (by omega) (by omega), Option.bind_some, ck_eq (by omega) (by omega), Option.bind_some]
          rw [if_neg h0] at e
          exact ⟨_, rfl, ⟨k + 1, by simp, hlt, by rw [e]; simp⟩, by simp only; omega⟩
      · right
        rw [if_neg (by omega), List.take_of_length_le (by omega)]
    rw [main, Option.bind_some]
    unfold diff_Distance.j1
    have := algn_nz a b
    exact ⟨_, _, rfl, .inl ⟨rfl, ha, hb, by omega⟩⟩
  · rw [if_pos (faultless.2 (fun h => h2 h.1))]
    exact ⟨_, _, rfl, .inr ⟨h2, h3⟩⟩
end Go.Dc
