/- Files in the order of their paths: the order, the search. -/
import Derived.Test.YtjmigclbilnajaaDoorDcUB
set_option linter.unusedSimpArgs false
set_option linter.unusedVariables false
namespace Go.Dc
open Go

theorem bl_irr : ∀ x : List UInt8, Op.bytesLess x x = false
  | [] => rfl
  | a :: x => by simp [Op.bytesLess, bl_irr x, UInt8.lt_irrefl]

theorem bl_tri : ∀ x y : List UInt8, Op.bytesLess x y = true ∨ x = y ∨ Op.bytesLess y x = true
  | [], [] => .inr (.inl rfl)
  | [], _ :: _ => .inl rfl
  | _ :: _, [] => .inr (.inr rfl)
  | a :: x, b :: y => by
    simp only [Op.bytesLess, Bool.or_eq_true, decide_eq_true_eq, Bool.and_eq_true, beq_iff_eq]
    have h0 : a = b ∨ a < b ∨ b < a := by
      by_cases h : a = b
      · exact .inl h
      · exact .inr (UInt8.lt_or_lt_of_ne h)
    rcases h0 with h | h | h
    · subst h
      rcases bl_tri x y with h | h | h
      · exact .inl (.inr ⟨rfl, h⟩)
      · exact .inr (.inl (by rw [h]))
      · exact .inr (.inr (.inr ⟨rfl, h⟩))
    · exact .inl (.inl h)
    · exact .inr (.inr (.inl h))

theorem bl_trans : ∀ {x y z : List UInt8}, Op.bytesLess x y = true → Op.bytesLess y z = true → Op.bytesLess x z = true
  | x, [], z, h1, h2 => by cases x <;> cases h1
  | x, b :: y, [], h1, h2 => by cases h2
  | [], b :: y, c :: z, h1, h2 => rfl
  | a :: x, b :: y, c :: z, h1, h2 => by
    simp only [Op.bytesLess, Bool.or_eq_true, decide_eq_true_eq, Bool.and_eq_true, beq_iff_eq] at h1 h2 ⊢
    rcases h1 with h1 | ⟨rfl, h1⟩
    · rcases h2 with h2 | ⟨rfl, h2⟩
      · exact .inl (UInt8.lt_trans h1 h2)
      · exact .inl h1
    · rcases h2 with h2 | ⟨rfl, h2⟩
      · exact .inl h2
      · exact .inr ⟨rfl, bl_trans h1 h2⟩

theorem cmp_neg : ∀ x y : List UInt8, decide (Lib.compareBytes x y < 0) = Op.bytesLess x y
  | [], [] => rfl
  | [], _ :: _ => rfl
  | _ :: _, [] => rfl
  | a :: x, b :: y => by
    unfold Lib.compareBytes Op.bytesLess
    by_cases h : a < b
    · simp [h]
    · by_cases h2 : b < a
      · have : ¬ a = b := by intro e; subst e; exact h h2
        simp [h, h2, this]
      · have : a = b := UInt8.le_antisymm (UInt8.not_lt.1 h2) (UInt8.not_lt.1 h)
        subst this
        simp only [h, if_false, decide_false, Bool.false_or, beq_self_eq_true, Bool.true_and]
        exact cmp_neg x y

theorem cmp_zero : ∀ x y : List UInt8, (Lib.compareBytes x y = 0) ↔ x = y
  | [], [] => by simp [Lib.compareBytes]
  | [], _ :: _ => by simp [Lib.compareBytes]
  | _ :: _, [] => by simp [Lib.compareBytes]
  | a :: x, b :: y => by
    unfold Lib.compareBytes
    by_cases h : a < b
    · have : ¬ a = b := by intro e; subst e; exact UInt8.lt_irrefl _ h
      simp [h, this]
    · by_cases h2 : b < a
      · have : ¬ a = b := by intro e; subst e; exact h h2
        simp [h, h2, this]
      · have : a = b := UInt8.le_antisymm (UInt8.not_lt.1 h2) (UInt8.not_lt.1 h)
        subst this
        simp only [h, if_false, List.cons.injEq, true_and]
        exact cmp_zero x y

theorem sLt_bts (a b : ByteArray) : sLt a b = Op.bytesLess (bts a) (bts b) := by
  unfold sLt; rw [str_toList, str_toList]; rfl
theorem sLt_irr (a : ByteArray) : sLt a a = false := by rw [sLt_bts]; exact bl_irr _
theorem sLt_tri (a b : ByteArray) : sLt a b = true ∨ a = b ∨ sLt b a = true := by
  rw [sLt_bts, sLt_bts]
  rcases bl_tri (bts a) (bts b) with h | h | h
  · exact .inl h
  · exact .inr (.inl (bts_inj h))
  · exact .inr (.inr h)
theorem sLt_trans {a b c : ByteArray} (h1 : sLt a b = true) (h2 : sLt b c = true) : sLt a c = true := by
  rw [sLt_bts] at *; exact bl_trans h1 h2
theorem sLt_asymm {a b : ByteArray} (h : sLt a b = true) : sLt b a = false := by
  cases h2 : sLt b a
  · rfl
  · have := sLt_trans h h2; rw [sLt_irr] at this; cases this
theorem sLt_ne {a b : ByteArray} (h : sLt a b = true) : a ≠ b := by intro e; subst e; rw [sLt_irr] at h; cases h
theorem cmpB_neg (a b : ByteArray) : decide (cmpB a b < 0) = sLt a b := by rw [sLt_bts]; exact cmp_neg _ _
theorem cmpB_zero (a b : ByteArray) : decide (cmpB a b = 0) = decide (a = b) := decide_eq_decide.2 ⟨fun h => bts_inj ((cmp_zero _ _).1 h), fun h => (cmp_zero _ _).2 (by rw [h])⟩

/-! ## lists in order -/
def TSrt (l : List File) : Prop := l.Pairwise fun f g => sLt f.Path g.Path = true
def posF (l : List File) (p : ByteArray) : Nat := (l.takeWhile fun f => sLt f.Path p).length
def hasF (l : List File) (p : ByteArray) : Bool := l.any fun f => decide (f.Path = p)

theorem pos_le (l : List File) (p : ByteArray) : posF l p ≤ l.length := by
  unfold posF; exact (List.takeWhile_prefix _).length_le

theorem pos_lt : ∀ {l : List File} (h : TSrt l) (p : ByteArray) (i : Nat) (hi : i < l.length), sLt l[i].Path p = decide (i < posF l p)
  | [], h, p, i, hi => by cases hi
  | f :: l, h, p, i, hi => by
    have h' := List.pairwise_cons.1 h
    unfold posF
    rw [List.takeWhile_cons]
    cases hf : sLt f.Path p
    · simp only [Bool.false_eq_true, if_false, List.length_nil, Nat.not_lt_zero, decide_false]
      cases i with
      | zero => exact hf
      | succ i =>
        simp only [List.getElem_cons_succ]
        have hi' : i < l.length := by simpa using hi
        have := h'.1 l[i] (List.getElem_mem _)
        cases hg : sLt l[i].Path p
        · rfl
        · rw [sLt_trans this hg] at hf; cases hf
    · simp only [if_true, List.length_cons]
      cases i with
      | zero => simp [hf]
      | succ i =>
        simp only [List.getElem_cons_succ, Nat.add_lt_add_iff_right]
        exact pos_lt h'.2 p i (by simpa using hi)

theorem shr1u {b : Int} (h : 0 ≤ b) : shr? .u64 b 1 = some (b / 2) := by
  unfold shr?
  rw [if_neg (by decide)]
  have : (2 : Int) ^ (min (1 : Int).toNat IntKind.u64.bits) = 2 := by decide
  rw [this, Int.fdiv_eq_ediv_of_nonneg _ (by decide)]

theorem ckU {x : Int} (h1 : 0 ≤ x) (h2 : x ≤ 9223372036854775807) : ckK .u64 x = some x := by
  unfold ckK inK
  have : IntKind.u64.wrap x = x := by
    simp [IntKind.wrap, IntKind.bits, IntKind.signed]
    omega
  rw [if_pos (decide_eq_true this)]

theorem finds_f (f : File) (p : ByteArray) : treepatch_Find_s1 f p = some (cmpB f.Path p) := rfl

theorem find_iter {l : List File} (h : TSrt l) (p : ByteArray) (hl : l.length ≤ 1000000) : ∀ (n lo hi : Nat), hi - lo ≤ n → lo ≤ posF l p → posF l p ≤ hi → hi ≤ l.length →
    iter (fun s => treepatch_Find.l1 l p s.1 s.2) ((hi : Int), (lo : Int)) = some ((posF l p : Nat) : Int) := by
  intro n
  induction n with
  | zero =>
    intro lo hi hn h1 h2 h3
    have e : posF l p = lo := by omega
    rw [iter_done (r := ((posF l p : Nat) : Int))]
    show treepatch_Find.l1 l p _ _ = _
    unfold treepatch_Find.l1
    rw [decide_eq_false (by omega), if_neg Bool.false_ne_true, e]
  | succ n ih =>
    intro lo hi hn h1 h2 h3
    by_cases hlt : lo < hi
    · have hm : (((lo : Int) + hi) / 2) = ((lo + hi) / 2 : Nat) := by omega
      have hml : (lo + hi) / 2 < l.length := by omega
      have hstep : treepatch_Find.l1 l p (hi : Int) (lo : Int) = some (if (lo + hi) / 2 < posF l p then Step.next ((hi : Int), (((lo + hi) / 2 + 1 : Nat) : Int)) else Step.next ((((lo + hi) / 2 : Nat) : Int), (lo : Int))) := by
        unfold treepatch_Find.l1
        rw [decide_eq_true (by omega : (lo : Int) < hi), if_pos rfl, ck_eq (by omega) (by omega), Option.bind_some, ckU (by omega) (by omega), Option.bind_some, shr1u (by omega), Option.bind_some, hm, ck_eq (by omega) (by omega), Option.bind_some, at_nat hml, Option.bind_some, finds_f, Option.bind_some, cmpB_neg, pos_lt h p _ hml]
        by_cases hc : (lo + hi) / 2 < posF l p
        · rw [if_pos hc, decide_eq_true hc, if_pos rfl, ck_eq (by omega) (by omega), Option.bind_some]; rfl
        · rw [if_neg hc, decide_eq_false hc, if_neg Bool.false_ne_true]
      by_cases hc : (lo + hi) / 2 < posF l p
      · rw [if_pos hc] at hstep
        rw [iter_next (s' := ((hi : Int), (((lo + hi) / 2 + 1 : Nat) : Int))) hstep]
        exact ih _ _ (by omega) (by omega) h2 h3
      · rw [if_neg hc] at hstep
        rw [iter_next (s' := ((((lo + hi) / 2 : Nat) : Int), (lo : Int))) hstep]
        exact ih _ _ (by omega) h1 (by omega) (by omega)
    · have e : posF l p = lo := by omega
      rw [iter_done (r := ((posF l p : Nat) : Int))]
      show treepatch_Find.l1 l p _ _ = _
      unfold treepatch_Find.l1
      rw [decide_eq_false (by omega), if_neg Bool.false_ne_true, e]

theorem has_at {l : List File} (h : TSrt l) (p : ByteArray) : hasF l p = if hp : posF l p < l.length then decide (l[posF l p].Path = p) else false := by
  rw [Bool.eq_iff_iff]
  constructor
  · intro hh
    unfold hasF at hh
    rw [List.any_eq_true] at hh
    obtain ⟨f, hf, he⟩ := hh
    obtain ⟨i, hi, rfl⟩ := List.getElem_of_mem hf
    have he := of_decide_eq_true he
    have h1 := pos_lt h p i hi
    rw [he, sLt_irr] at h1
    have h1 : ¬ i < posF l p := of_decide_eq_false h1.symm
    have hpl : posF l p < l.length := by omega
    rw [dif_pos hpl]
    refine decide_eq_true ?_
    rcases Nat.lt_or_ge (posF l p) i with h2 | h2
    · have h3 := List.pairwise_iff_getElem.1 h _ _ hpl hi h2
      have h4 := pos_lt h p _ hpl
      rw [he] at h3
      rw [h3] at h4
      simp at h4
    · have : i = posF l p := by omega
      subst this; exact he
  · intro hh
    split at hh
    · rename_i hp
      unfold hasF
      rw [List.any_eq_true]
      exact ⟨_, List.getElem_mem hp, hh⟩
    · cases hh

theorem Find_f {l : List File} (h : TSrt l) (hl : l.length ≤ 1000000) (p : ByteArray) : treepatch_Find l p = some (((posF l p : Nat) : Int), hasF l p) := by
  unfold treepatch_Find
  have := find_iter h p hl l.length 0 l.length (by omega) (Nat.zero_le _) (pos_le l p) (Nat.le_refl _)
  rw [show ((0 : Nat) : Int) = 0 from rfl] at this
  rw [this, Option.bind_some]
  unfold treepatch_Find.j1
  rw [has_at h p]
  by_cases hp : posF l p < l.length
  · rw [dif_pos hp, decide_eq_true (by omega), if_pos rfl, at_nat hp, Option.bind_some, finds_f, Option.bind_some, cmpB_zero]; rfl
  · rw [dif_neg hp, decide_eq_false (by omega), if_neg Bool.false_ne_true]; rfl
end Go.Dc
