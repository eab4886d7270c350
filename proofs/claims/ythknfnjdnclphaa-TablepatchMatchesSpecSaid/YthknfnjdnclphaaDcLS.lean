/- Strings sorted and freed of repetitions. -/
import Derived.Test.YthknfnjdnclphaaDcLO
import Derived.Test.YthknfnjdnclphaaDcRS
import Derived.Test.YthknfnjdnclphaaDcM
set_option linter.unusedSimpArgs false
set_option linter.unusedVariables false
namespace Go.Dc
open Go

theorem sortS_pw (l : List ByteArray) : (sortS l).Pairwise fun x y => sLt y x = false := by
  have h := List.pairwise_mergeSort (le := fun x y => !sLt y x) (l := l)
    (fun a b c h1 h2 => by simp only [Bool.not_eq_true'] at h1 h2 ⊢; exact sLt_not_trans h2 h1)
    (fun a b => by
      cases h1 : sLt b a with
      | false => rfl
      | true => rw [sLt_asymm h1]; rfl)
  exact h.imp (fun {a b} hab => by simpa using hab)
theorem sortS_perm (l : List ByteArray) : (sortS l).Perm l := List.mergeSort_perm _ _

/-! dropping what equals the one before -/
def sdq (p : ByteArray) : List ByteArray → List ByteArray
  | [] => []
  | y :: r => if y = p then sdq p r else y :: sdq y r
def sdd : List ByteArray → List ByteArray
  | [] => []
  | x :: r => x :: sdq x r

theorem sdq_snoc : ∀ (m : List ByteArray) (p y : ByteArray), sdq p (m ++ [y]) = if y = (m.getLast?).getD p then sdq p m else sdq p m ++ [y]
  | [], p, y => by
    by_cases h : y = p <;> simp [sdq, h]
  | x :: m, p, y => by
    rw [List.cons_append, sdq, sdq, sdq_snoc m, sdq_snoc m]
    have hl : ((x :: m).getLast?).getD p = (m.getLast?).getD x := by
      rw [List.getLast?_cons]
      cases m.getLast? <;> rfl
    rw [hl]
    by_cases h : x = p
    · rw [if_pos h, if_pos h, h]
    · rw [if_neg h, if_neg h]
      split <;> rfl

theorem sdd_snoc {m : List ByteArray} {x y : ByteArray} (hx : m.getLast? = some x) : sdd (m ++ [y]) = if y = x then sdd m else sdd m ++ [y] := by
  cases m with
  | nil => cases hx
  | cons z m =>
    rw [List.cons_append, sdd, sdd, sdq_snoc]
    rw [List.getLast?_cons] at hx
    have : (m.getLast?).getD z = x := by
      cases h : m.getLast? with
      | none => rw [h] at hx; cases hx; rfl
      | some w => rw [h] at hx; cases hx; rfl
    rw [this]
    split <;> rfl

theorem slast_at {l : List ByteArray} (h : 0 < l.length) : l.getLast? = some l[l.length - 1] := by
  rw [List.getLast?_eq_getElem?, List.getElem?_eq_getElem (by omega)]

theorem sdd_take {l : List ByteArray} {k : Nat} (h : k < l.length) (h0 : 0 < k) : sdd (l.take (k + 1)) = if l[k] = l[k - 1] then sdd (l.take k) else sdd (l.take k) ++ [l[k]] := by
  rw [List.take_succ_eq_append_getElem h]
  refine sdd_snoc ?_
  have hlen : (l.take k).length = k := by rw [List.length_take]; omega
  rw [slast_at (by omega), List.getElem_take]
  congr 2; omega

theorem sdd_none {l : List ByteArray} : ∀ k, k ≤ l.length → (∀ j (h : j < l.length), 0 < j → j < k → l[j] ≠ l[j - 1]) → sdd (l.take k) = l.take k
  | 0, _, _ => by rw [List.take_zero]; rfl
  | 1, h1, _ => by
    cases l with
    | nil => rfl
    | cons x l => simp [sdd, sdq]
  | k + 2, hk, h => by
    rw [sdd_take (by omega) (by omega), if_neg (h (k + 1) (by omega) (by omega) (by omega)), sdd_none (k + 1) (by omega) (fun j hj h1 h2 => h j hj h1 (by omega))]
    rw [← List.take_succ_eq_append_getElem]

def scG (l : List ByteArray) (k : Nat) (v : ByteArray) : Option (List ByteArray) := if 0 < k ∧ l[k - 1]? = some v then some (sdd l) else Option.none

theorem sc2_f {l : List ByteArray} (hl : l.length ≤ 100000) {k : Nat} (hk : k < l.length) (h0 : 0 < k) (hd : sdd (l.take (k + 1)) = l.take k) :
    ∃ r, iter (fun s => slices_Compact.l2 (k : Int) ((l.length : Int) - k) s.1 s.2.1 s.2.2) (1, (k : Int), l) = some r ∧ ∃ p : Nat, r.1 = p ∧ p ≤ r.2.length ∧ r.2.length = l.length ∧ r.2.take p = sdd l := by
  refine inv_loopE (f := fun s => slices_Compact.l2 (k : Int) ((l.length : Int) - k) s.1 s.2.1 s.2.2) 1 (l.length - k) (by omega)
    (fun j t => t.2.length = l.length ∧ ∃ p : Nat, t.1 = p ∧ p ≤ k + j - 1 ∧ t.2.take p = sdd (l.take (k + j)) ∧ t.2.drop (k + j - 1) = l.drop (k + j - 1)) _ ?_ ?_ ((k : Int), l) ⟨rfl, k, rfl, by omega, hd.symm, rfl⟩
  · rintro j ⟨_, t⟩ hj1 hj ⟨ht, p, hp, hpk, htake, hdrop⟩
    simp only at ht hp htake hdrop
    subst hp
    left
    have hkj : k + j < l.length := by omega
    have g1 : t[k + j]'(by omega) = l[k + j] := by
      have h1 := List.getElem_drop (xs := t) (i := k + j - 1) (j := 1) (h := by rw [List.length_drop]; omega)
      have h2 := List.getElem_drop (xs := l) (i := k + j - 1) (j := 1) (h := by rw [List.length_drop]; omega)
      have e : k + j - 1 + 1 = k + j := by omega
      simp only [hdrop, e] at h1 h2
      rw [← h1, ← h2]
    have g2 : t[k + j - 1]'(by omega) = l[k + j - 1] := by
      have h1 := List.getElem_drop (xs := t) (i := k + j - 1) (j := 0) (h := by rw [List.length_drop]; omega)
      have h2 := List.getElem_drop (xs := l) (i := k + j - 1) (j := 0) (h := by rw [List.length_drop]; omega)
      simp only [hdrop, Nat.add_zero] at h1 h2
      rw [← h1, ← h2]
    have a1 : atA? t (k : Int) ((l.length : Int) - k) (j : Int) = some l[k + j] := by
      unfold atA?
      rw [if_pos (by omega), show ((k : Int) + (j : Int)) = ((k + j : Nat) : Int) by omega, at_nat (by omega), g1]
    have a2 : atA? t (k : Int) ((l.length : Int) - k) ((j : Int) - 1) = some l[k + j - 1] := by
      unfold atA?
      rw [if_pos (by omega), show ((k : Int) + ((j : Int) - 1)) = ((k + j - 1 : Nat) : Int) by omega, at_nat (by omega), g2]
    unfold slices_Compact.l2
    simp only
    rw [ite_dec, if_pos (by omega), a1, Option.bind_some, ck_eq (by omega) (by omega), Option.bind_some, a2, Option.bind_some, ite_ndec]
    have hdd := sdd_take (l := l) (k := k + j) hkj (by omega)
    unfold slices_Compact.j4
    by_cases hc : l[k + j] = l[k + j - 1]
    · rw [if_pos hc, ck_eq (by omega) (by omega), Option.bind_some]
      rw [if_pos hc] at hdd
      refine ⟨_, rfl, ht, p, rfl, by omega, ?_, ?_⟩
      · rw [show k + (j + 1) = k + j + 1 by omega, hdd]; exact htake
      · have e : k + (j + 1) - 1 = (k + j - 1) + 1 := by omega
        rw [e, ← List.drop_drop, ← List.drop_drop, hdrop]
    · rw [if_neg hc]
      rw [if_neg hc] at hdd
      simp only [Option.bind_some]
      rw [at_nat (by omega), Option.bind_some, ck_eq (by omega) (by omega), Option.bind_some, ck_eq (by omega) (by omega), Option.bind_some, Int.toNat_natCast]
      refine ⟨_, rfl, by simpa using ht, p + 1, by omega, by omega, ?_, ?_⟩
      · rw [show k + (j + 1) = k + j + 1 by omega, hdd, ← htake]
        have hpl : p < t.length := by omega
        rw [List.take_succ_eq_append_getElem (by simpa using hpl), List.getElem_set_self, List.take_set_of_le (Nat.le_refl _)]
      · have e : k + (j + 1) - 1 = (k + j - 1) + 1 := by omega
        rw [e, List.drop_set_of_lt (by omega), ← List.drop_drop, ← List.drop_drop, hdrop]
  · rintro ⟨_, t⟩ ⟨ht, p, hp, hpk, htake, hdrop⟩
    simp only at ht hp htake hdrop
    subst hp
    unfold slices_Compact.l2
    simp only
    rw [ite_dec, if_neg (by omega)]
    refine ⟨_, rfl, p, rfl, ?_, ht, ?_⟩
    · simp only; omega
    · have e : k + (l.length - k) = l.length := by omega
      rw [e, List.take_length] at htake
      exact htake

theorem scompact_f {l : List ByteArray} (hl : l.length ≤ 100000) : slices_Compact l = some (sdd l) := by
  unfold slices_Compact
  rw [ite_dec]
  by_cases h2 : l.length < 2
  · rw [if_pos (by omega)]
    congr 1
    match l, h2 with
    | [], _ => rfl
    | [x], _ => rfl
    | _ :: _ :: _, h => simp at h; omega
  rw [if_neg (by omega)]
  have hg : ∀ k (h : k < l.length), scG l k l[k] = if 0 < k ∧ l[k - 1] = l[k] then some (sdd l) else Option.none := by
    intro k h
    unfold scG
    rw [List.getElem?_eq_getElem (by omega)]
    simp only [Option.some.injEq]
  have hi := scn_iter (f := fun s => slices_Compact.l1 l s) (dn := Sum.inl) (e := .inr ()) 1 l (scG l) ?_ ?_ (l.drop 1) 1 rfl (by omega) (Nat.le_refl _) (fun j hj h => by
    have : j = 0 := by omega
    subst this
    unfold scG
    rw [if_neg (by omega)])
  · rw [show ((1 : Nat) : Int) = 1 from rfl] at hi
    rw [hi, Option.bind_some]
    cases hs : scn (scG l) 1 (l.drop 1) with
    | some r =>
      obtain ⟨j, hj, he⟩ := scn_some hs
      unfold scG at he
      split at he
      · cases he; rfl
      · cases he
    | none =>
      show slices_Compact.j1 l = _
      unfold slices_Compact.j1
      have := sdd_none (l := l) l.length (Nat.le_refl _) (fun j hj h0 _ => by
        have := scn_none.1 hs (j - 1) (by rw [List.length_drop]; omega)
        rw [List.getElem_drop] at this
        have e : 1 + (j - 1) = j := by omega
        simp only [e] at this
        rw [hg j hj] at this
        split at this
        · cases this
        · rename_i hn
          exact fun h => hn ⟨h0, h.symm⟩)
      rw [List.take_length] at this
      rw [this]
  · intro k h hk0 hp
    rw [hg k h]
    · unfold slices_Compact.l1
      rw [ite_dec, if_pos (by omega), at_nat h, Option.bind_some, ck_eq (by omega) (by omega), Option.bind_some, show ((k : Int) - 1) = ((k - 1 : Nat) : Int) by omega, at_nat (by omega), Option.bind_some, ite_dec]
      by_cases hc : l[k] = l[k - 1]
      · rw [if_pos hc, if_pos ⟨by omega, hc.symm⟩]
        have hd : sdd (l.take (k + 1)) = l.take k := by
          rw [sdd_take h (by omega), if_pos hc, sdd_none k (by omega)]
          intro j hj h0 hjk
          have := hp j hj hjk
          rw [hg j hj] at this
          split at this
          · cases this
          · rename_i hn
            exact fun h => hn ⟨h0, h.symm⟩
        obtain ⟨r, e, p, hr1, hpl, hlen, htk⟩ := sc2_f hl h (by omega) hd
        have e1 : als? l (k : Int) = some ((l.length : Int) - k) := by
          unfold als?; rw [if_pos (by omega)]
        rw [e1, Option.bind_some, e, Option.bind_some]
        unfold slices_Compact.j3
        have e2 : als? r.2 r.1 = some ((r.2.length : Int) - p) := by
          unfold als?; rw [hr1, if_pos (by omega)]
        rw [e2, Option.bind_some]
        have e3 : clr? r.2 r.1 ((r.2.length : Int) - p) ByteArray.empty = some (r.2.take p ++ List.replicate ((r.2.length : Int) - p).toNat ByteArray.empty) := by
          unfold clr?; rw [hr1, if_pos (by omega), Int.toNat_natCast]
        rw [e3, Option.bind_some, hr1, cut_eq (by omega) (by omega) (by simp; omega), Option.bind_some]
        simp only [Int.toNat_natCast, Int.toNat_zero, List.drop_zero]
        rw [List.take_append_of_le_length (by simp; omega), List.take_take, Nat.min_self, htk]
      · rw [if_neg hc, if_neg (fun h => hc h.2.symm)]
        unfold slices_Compact.j2
        rw [ck_eq (by omega) (by omega), Option.bind_some]; rfl
  · unfold slices_Compact.l1
    rw [ite_dec, if_neg (by omega)]

theorem sdq_spec : ∀ (l : List ByteArray) (p : ByteArray), (∀ y ∈ l, sLt y p = false) → l.Pairwise (fun x y => sLt y x = false) →
    (sdq p l).Pairwise (fun x y => sLt x y = true) ∧ (∀ z ∈ sdq p l, sLt p z = true) ∧ ∀ z, z ∈ sdq p l ↔ z ∈ l ∧ z ≠ p
  | [], p, _, _ => by simp [sdq]
  | y :: r, p, hge, hs => by
    rw [List.pairwise_cons] at hs
    rw [sdq]
    by_cases h : y = p
    · rw [if_pos h]
      obtain ⟨h1, h2, h3⟩ := sdq_spec r p (fun z hz => hge z (by simp [hz])) hs.2
      refine ⟨h1, h2, fun z => ?_⟩
      rw [h3, List.mem_cons]
      constructor
      · rintro ⟨a, b⟩; exact ⟨.inr a, b⟩
      · rintro ⟨rfl | a, b⟩
        · exact absurd h b
        · exact ⟨a, b⟩
    · rw [if_neg h]
      obtain ⟨h1, h2, h3⟩ := sdq_spec r y (fun z hz => hs.1 z hz) hs.2
      have hpy : sLt p y = true := by
        rcases sLt_not (hge y (by simp)) with h4 | h4
        · exact absurd h4 h
        · exact h4
      refine ⟨List.pairwise_cons.2 ⟨h2, h1⟩, ?_, fun z => ?_⟩
      · intro z hz
        rcases List.mem_cons.1 hz with rfl | hz
        · exact hpy
        · exact sLt_trans hpy (h2 z hz)
      · rw [List.mem_cons, h3, List.mem_cons]
        constructor
        · rintro (rfl | ⟨a, b⟩)
          · exact ⟨.inl rfl, h⟩
          · refine ⟨.inr a, fun e => ?_⟩
            have h4 := h2 z ((h3 z).2 ⟨a, b⟩)
            rw [e, sLt_asymm hpy] at h4; cases h4
        · rintro ⟨rfl | a, b⟩
          · exact .inl rfl
          · by_cases e : z = y
            · exact .inl e
            · exact .inr ⟨a, e⟩

theorem sdd_spec {l : List ByteArray} (hs : l.Pairwise (fun x y => sLt y x = false)) : SAsc (sdd l) ∧ ∀ z, z ∈ sdd l ↔ z ∈ l := by
  cases l with
  | nil => simp [sdd, SAsc]
  | cons x r =>
    rw [List.pairwise_cons] at hs
    obtain ⟨h1, h2, h3⟩ := sdq_spec r x hs.1 hs.2
    rw [sdd]
    refine ⟨List.pairwise_cons.2 ⟨h2, h1⟩, fun z => ?_⟩
    rw [List.mem_cons, h3, List.mem_cons]
    constructor
    · rintro (rfl | ⟨a, _⟩)
      · exact .inl rfl
      · exact .inr a
    · rintro (rfl | a)
      · exact .inl rfl
      · by_cases e : z = x
        · exact .inl e
        · exact .inr ⟨a, e⟩

theorem sdq_len : ∀ (l : List ByteArray) (p : ByteArray), (sdq p l).length ≤ l.length
  | [], _ => Nat.le_refl _
  | y :: r, p => by
    rw [sdq]
    split
    · have := sdq_len r p; simp only [List.length_cons]; omega
    · have := sdq_len r y; simp only [List.length_cons]; omega
theorem sdd_len (l : List ByteArray) : (sdd l).length ≤ l.length := by
  cases l with
  | nil => exact Nat.le_refl _
  | cons x r => have := sdq_len r x; simp only [sdd, List.length_cons]; omega

/-- the strings of a list, in order and once each -/
def ksort (l : List ByteArray) : List ByteArray := sdd (sortS l)
theorem ksort_asc (l : List ByteArray) : SAsc (ksort l) := (sdd_spec (sortS_pw l)).1
theorem ksort_mem (l : List ByteArray) (z : ByteArray) : z ∈ ksort l ↔ z ∈ l := by
  unfold ksort
  rw [(sdd_spec (sortS_pw l)).2, (sortS_perm l).mem_iff]
theorem ksort_len (l : List ByteArray) : (ksort l).length ≤ l.length := by
  have := sdd_len (sortS l)
  rw [(sortS_perm l).length_eq] at this
  exact this
end Go.Dc
