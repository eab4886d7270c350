/- The order of strings. -/
import Derived.Test.YthknfnjdnclphaaDcPS
import Derived.Test.YthknfnjdnclphaaDcV
import Derived.Lib.IndexAny
set_option linter.unusedSimpArgs false
set_option linter.unusedVariables false
namespace Go.Dc
open Go

def bts (s : ByteArray) : List UInt8 := s.data.toList
theorem bts_inj {a b : ByteArray} (h : bts a = bts b) : a = b := by
  unfold bts at h
  rw [Array.toList_inj] at h
  cases a; cases b
  simp only at h
  rw [h]

theorem bl_irr : ∀ x : List UInt8, Op.bytesLess x x = false
  | [] => rfl
  | a :: x => by simp [Op.bytesLess, bl_irr x, UInt8.lt_irrefl]

theorem bl_tri : ∀ x y : List UInt8, Op.bytesLess x y = true ∨ x = y ∨ Op.bytesLess y x = true
  | [], [] => .inr (.inl rfl)
  | [], _ :: _ => .inl rfl
  | _ :: _, [] => .inr (.inr rfl)
  | a :: x, b :: y => by
    simp only [Op.bytesLess, Bool.or_eq_true, decide_eq_true_eq, Bool.and_eq_true, beq_iff_eq]
    have h0 : a = b ∨ a < b ∨ b < a := by
      by_cases h : a = b
      · exact .inl h
      · exact .inr (UInt8.lt_or_lt_of_ne h)
    rcases h0 with h | h | h
    · subst h
      rcases bl_tri x y with h | h | h
      · exact .inl (.inr ⟨rfl, h⟩)
      · exact .inr (.inl (by rw [h]))
      · exact .inr (.inr (.inr ⟨rfl, h⟩))
    · exact .inl (.inl h)
    · exact .inr (.inr (.inl h))

theorem bl_trans : ∀ {x y z : List UInt8}, Op.bytesLess x y = true → Op.bytesLess y z = true → Op.bytesLess x z = true
  | x, [], z, h1, h2 => by cases x <;> cases h1
  | x, b :: y, [], h1, h2 => by cases h2
  | [], b :: y, c :: z, h1, h2 => rfl
  | a :: x, b :: y, c :: z, h1, h2 => by
    simp only [Op.bytesLess, Bool.or_eq_true, decide_eq_true_eq, Bool.and_eq_true, beq_iff_eq] at h1 h2 ⊢
    rcases h1 with h1 | ⟨rfl, h1⟩
    · rcases h2 with h2 | ⟨rfl, h2⟩
      · exact .inl (UInt8.lt_trans h1 h2)
      · exact .inl h1
    · rcases h2 with h2 | ⟨rfl, h2⟩
      · exact .inl h2
      · exact .inr ⟨rfl, bl_trans h1 h2⟩

theorem cmp_neg : ∀ x y : List UInt8, decide (Lib.compareBytes x y < 0) = Op.bytesLess x y
  | [], [] => rfl
  | [], _ :: _ => rfl
  | _ :: _, [] => rfl
  | a :: x, b :: y => by
    unfold Lib.compareBytes Op.bytesLess
    by_cases h : a < b
    · simp [h]
    · by_cases h2 : b < a
      · have : ¬ a = b := by intro e; subst e; exact h h2
        simp [h, h2, this]
      · have : a = b := UInt8.le_antisymm (UInt8.not_lt.1 h2) (UInt8.not_lt.1 h)
        subst this
        simp only [h, if_false, decide_false, Bool.false_or, beq_self_eq_true, Bool.true_and]
        exact cmp_neg x y

theorem cmp_zero : ∀ x y : List UInt8, (Lib.compareBytes x y = 0) ↔ x = y
  | [], [] => by simp [Lib.compareBytes]
  | [], _ :: _ => by simp [Lib.compareBytes]
  | _ :: _, [] => by simp [Lib.compareBytes]
  | a :: x, b :: y => by
    unfold Lib.compareBytes
    by_cases h : a < b
    · have : ¬ a = b := by intro e; subst e; exact UInt8.lt_irrefl _ h
      simp [h, this]
    · by_cases h2 : b < a
      · have : ¬ a = b := by intro e; subst e; exact h h2
        simp [h, h2, this]
      · have : a = b := UInt8.le_antisymm (UInt8.not_lt.1 h2) (UInt8.not_lt.1 h)
        subst this
        simp only [h, if_false, List.cons.injEq, true_and]
        exact cmp_zero x y

theorem sLt_bts (a b : ByteArray) : sLt a b = Op.bytesLess (bts a) (bts b) := by
  unfold sLt; rw [str_toList, str_toList]; rfl
theorem sLt_irr (a : ByteArray) : sLt a a = false := by rw [sLt_bts]; exact bl_irr _
theorem sLt_tri (a b : ByteArray) : sLt a b = true ∨ a = b ∨ sLt b a = true := by
  rw [sLt_bts, sLt_bts]
  rcases bl_tri (bts a) (bts b) with h | h | h
  · exact .inl h
  · exact .inr (.inl (bts_inj h))
  · exact .inr (.inr h)
theorem sLt_trans {a b c : ByteArray} (h1 : sLt a b = true) (h2 : sLt b c = true) : sLt a c = true := by
  rw [sLt_bts] at *; exact bl_trans h1 h2
theorem sLt_asymm {a b : ByteArray} (h : sLt a b = true) : sLt b a = false := by
  cases h2 : sLt b a
  · rfl
  · have := sLt_trans h h2; rw [sLt_irr] at this; cases this
theorem sLt_ne {a b : ByteArray} (h : sLt a b = true) : a ≠ b := by intro e; subst e; rw [sLt_irr] at h; cases h
theorem cmpB_neg (a b : ByteArray) : decide (cmpB a b < 0) = sLt a b := by rw [sLt_bts]; exact cmp_neg _ _
theorem cmpB_zero (a b : ByteArray) : decide (cmpB a b = 0) = decide (a = b) := decide_eq_decide.2 ⟨fun h => bts_inj ((cmp_zero _ _).1 h), fun h => (cmp_zero _ _).2 (by rw [h])⟩



theorem sLt_not {a b : ByteArray} (h : sLt a b = false) : a = b ∨ sLt b a = true := by
  rcases sLt_tri a b with h1 | h1 | h1
  · rw [h1] at h; cases h
  · exact .inl h1
  · exact .inr h1
theorem sLt_not_trans {a b c : ByteArray} (h1 : sLt a b = false) (h2 : sLt b c = false) : sLt a c = false := by
  rcases sLt_not h1 with rfl | h1
  · exact h2
  rcases sLt_not h2 with rfl | h2
  · exact sLt_asymm h1
  · exact sLt_asymm (sLt_trans h2 h1)

/-- strings in strict order -/
def SAsc (l : List ByteArray) : Prop := l.Pairwise fun x y => sLt x y = true

theorem sasc_uniq : ∀ {l m : List ByteArray}, SAsc l → SAsc m → (∀ z, z ∈ l ↔ z ∈ m) → l = m
  | [], [], _, _, _ => rfl
  | [], y :: m, _, _, h => by have := (h y).2 (by simp); cases this
  | x :: l, [], _, _, h => by have := (h x).1 (by simp); cases this
  | x :: l, y :: m, hl, hm, h => by
    unfold SAsc at hl hm
    rw [List.pairwise_cons] at hl hm
    have e : x = y := by
      rcases List.mem_cons.1 ((h x).1 (by simp)) with e | hx
      · exact e
      · rcases List.mem_cons.1 ((h y).2 (by simp)) with e | hy
        · exact e.symm
        · have h1 := hm.1 x hx
          have h2 := hl.1 y hy
          rw [sLt_asymm h2] at h1; cases h1
    subst e
    rw [sasc_uniq (l := l) (m := m) hl.2 hm.2 (fun z => ?_)]
    constructor
    · intro hz
      rcases List.mem_cons.1 ((h z).1 (by simp [hz])) with rfl | h1
      · have := hl.1 z hz; rw [sLt_irr] at this; cases this
      · exact h1
    · intro hz
      rcases List.mem_cons.1 ((h z).2 (by simp [hz])) with rfl | h1
      · have := hm.1 z hz; rw [sLt_irr] at this; cases this
      · exact h1

end Go.Dc
