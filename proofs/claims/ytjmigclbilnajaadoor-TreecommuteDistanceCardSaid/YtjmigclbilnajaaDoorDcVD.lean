/- The distance of texts, over the texts of the trees. -/
import Derived.Test.YtjmigclbilnajaaDoorDcPA
import Derived.Test.YtjmigclbilnajaaDoorDcQA
set_option linter.unusedSimpArgs false
set_option linter.unusedVariables false
namespace Go.Dc
open Go

theorem second_eq (l : List ByteArray) (i : Int) : ∃ f, lines_Second l i = some f ∧ ((f = ⟨0, 0⟩ ∧ OkText l) ∨ (f.Code ≠ 0 ∧ ¬ OkText l)) := by
  obtain ⟨f, h1, h2⟩ := validate_eq l
  unfold lines_Second
  rw [h1, Option.bind_some]
  rcases h2 with ⟨rfl, h⟩ | ⟨h, h'⟩
  · rw [if_neg (by simp)]; exact ⟨_, rfl, .inl ⟨rfl, h⟩⟩
  · rw [if_pos (faultless.2 (fun h2 => h h2.1))]; exact ⟨_, rfl, .inr ⟨h, h'⟩⟩

theorem both_eq (a b : List ByteArray) : ∃ f, lines_Both a b = some f ∧ ((f = ⟨0, 0⟩ ∧ OkText a ∧ OkText b) ∨ (f.Code ≠ 0 ∧ ¬ (OkText a ∧ OkText b))) := by
  obtain ⟨f, h1, h2⟩ := validate_eq a
  unfold lines_Both
  rw [h1, Option.bind_some]
  rcases h2 with ⟨rfl, h⟩ | ⟨h, h'⟩
  · rw [if_neg (by simp)]
    obtain ⟨f2, h3, h4⟩ := second_eq b (-2)
    rw [h3]
    refine ⟨f2, rfl, ?_⟩
    rcases h4 with ⟨rfl, h4⟩ | ⟨h4, h5⟩
    · exact .inl ⟨rfl, h, h4⟩
    · exact .inr ⟨h4, fun hh => h5 hh.2⟩
  · rw [if_pos (faultless.2 (fun h2 => h h2.1))]; exact ⟨_, rfl, .inr ⟨h, fun hh => h' hh.1⟩⟩

theorem algn_len : ∀ (a b : List ByteArray), (algn a b).length ≤ a.length + b.length
  | [], [] => by simp [algn]
  | [], _ :: b => by have := algn_len [] b; simp [algn] at *; omega
  | _ :: a, [] => by have := algn_len a []; simp [algn] at *; omega
  | x :: a, y :: b => by
    have h1 := algn_len a b
    have h2 := algn_len a (y :: b)
    have h3 := algn_len (x :: a) b
    rw [algn]
    simp only [List.length_cons] at *
    split
    · simp only [List.length_cons]; omega
    · split <;> simp only [List.length_cons] <;> omega
 termination_by a b => a.length + b.length

theorem okText_small {a b : List ByteArray} (ha : OkText a) (hb : OkText b) : (a.length + 1) * (b.length + 1) * 8 ≤ 140737488355328 := by
  have h1 : a.length + 1 ≤ 121 := by have := ha.1; omega
  have h2 : b.length + 1 ≤ 121 := by have := hb.1; omega
  have := Nat.mul_le_mul h1 h2
  omega

def nz : List Int → Nat
  | [] => 0
  | s :: ss => if s = 0 then nz ss else nz ss + 1

theorem nz_le : ∀ l, nz l ≤ l.length
  | [] => by simp [nz]
  | s :: ss => by have := nz_le ss; simp only [nz, List.length_cons]; split <;> omega

theorem nz_append : ∀ l r, nz (l ++ r) = nz l + nz r
  | [], r => by simp [nz]
  | s :: l, r => by simp only [List.cons_append, nz, nz_append l r]; split <;> omega

theorem algn_nz : ∀ a b : List ByteArray, nz (algn a b) + 2 * lcs a b = a.length + b.length
  | [], [] => by simp [algn, nz, lcs]
  | [], _ :: b => by have := algn_nz [] b; simp [algn, nz, lcs] at *; omega
  | _ :: a, [] => by have := algn_nz a []; simp [algn, nz, lcs_nil_r] at *; omega
  | x :: a, y :: b => by
    have h1 := algn_nz a b
    have h2 := algn_nz a (y :: b)
    have h3 := algn_nz (x :: a) b
    rw [algn, lcs_cons]
    simp only [List.length_cons] at *
    split
    · rw [nz, if_pos rfl]; omega
    · split
      · rw [nz, if_neg (by decide)]; omega
      · rw [nz, if_neg (by decide)]; omega
 termination_by a b => a.length + b.length

theorem lcs_comm : ∀ a b : List ByteArray, lcs a b = lcs b a
  | [], b => by rw [lcs_nil_l, lcs_nil_r]
  | _ :: _, [] => by rw [lcs_nil_l, lcs_nil_r]
  | x :: a, y :: b => by
    rw [lcs_cons, lcs_cons, lcs_comm a b, lcs_comm a (y :: b), lcs_comm (x :: a) b]
    by_cases h : x = y
    · subst h; simp
    · rw [if_neg h, if_neg (fun e => h e.symm), Nat.max_comm]
 termination_by a b => a.length + b.length

theorem lcs_self : ∀ a : List ByteArray, lcs a a = a.length
  | [] => by simp [lcs]
  | x :: a => by rw [lcs_cons, if_pos rfl, lcs_self a]; rfl

theorem lcs_full : ∀ a b : List ByteArray, lcs a b = a.length → lcs a b = b.length → a = b
  | [], [], _, _ => rfl
  | [], _ :: _, _, h => by simp [lcs] at h
  | _ :: _, [], h, _ => by simp [lcs] at h
  | x :: a, y :: b, h1, h2 => by
    rw [lcs_cons] at h1 h2
    have l2 := lcs_le a (y :: b)
    have l3 := lcs_le (x :: a) b
    simp only [List.length_cons] at *
    split at h1
    · rename_i he
      subst he
      simp only [if_true] at h2
      rw [lcs_full a b (by omega) (by omega)]
    · rename_i he
      rw [if_neg he] at h2
      omega

theorem distance_eq (a b : List ByteArray) : ∃ v f, diff_Distance a b = some (v, f) ∧ ((f = ⟨0, 0⟩ ∧ OkText a ∧ OkText b ∧ v + 2 * (lcs a b : Int) = a.length + b.length) ∨ (f.Code ≠ 0 ∧ ¬ (OkText a ∧ OkText b))) := by
  obtain ⟨f, h1, h2⟩ := both_eq a b
  unfold diff_Distance
  rw [h1, Option.bind_some]
  rcases h2 with ⟨rfl, ha, hb⟩ | ⟨h2, h3⟩
  · rw [if_neg (by simp), align_eq (okText_small ha hb), Option.bind_some]
    have hl := algn_len a b
    have l1 := ha.1
    have l2 := hb.1
    have main : iter (fun s => diff_Distance.l1 (algn a b) s.1 s.2) (0, 0) = some ((nz (algn a b) : Nat) : Int) := by
      refine iter_eq_of (σ := Int × Int) (fun s => ∃ k : Nat, s.1 = (k : Int) ∧ k ≤ (algn a b).length ∧ s.2 = ((nz ((algn a b).take k) : Nat) : Int)) (fun s => (algn a b).length - s.1.toNat) _ ?_ _ ⟨0, rfl, Nat.zero_le _, by simp [nz]⟩
      rintro ⟨s, t⟩ ⟨k, hs, hk, ht⟩
      simp only at hs ht ⊢
      subst hs; subst ht
      unfold diff_Distance.l1
      rw [ite_dec]
      by_cases hlt : k < (algn a b).length
      · left
        rw [if_pos (by omega), at_nat hlt, Option.bind_some, ite_ndec]
        have hn := nz_le ((algn a b).take k)
        rw [List.length_take] at hn
        have e : nz ((algn a b).take (k + 1)) = nz ((algn a b).take k) + (if (algn a b)[k] = 0 then 0 else 1) := by
          rw [List.take_succ_eq_append_getElem hlt, nz_append]
          simp only [nz]
        unfold diff_Distance.j2
        by_cases h0 : (algn a b)[k] = 0
        · rw [if_pos h0, ck_eq (by omega) (by omega), Option.bind_some]
          rw [if_pos h0] at e
          exact ⟨_, rfl, ⟨k + 1, by simp, hlt, by rw [e]; rfl⟩, by simp only; omega⟩
        · rw [if_neg h0, ck_eq (by omega) (by omega), Option.bind_some, ck_eq (by omega) (by omega), Option.bind_some]
          rw [if_neg h0] at e
          exact ⟨_, rfl, ⟨k + 1, by simp, hlt, by rw [e]; simp⟩, by simp only; omega⟩
      · right
        rw [if_neg (by omega), List.take_of_length_le (by omega)]
    rw [main, Option.bind_some]
    unfold diff_Distance.j1
    have := algn_nz a b
    exact ⟨_, _, rfl, .inl ⟨rfl, ha, hb, by omega⟩⟩
  · rw [if_pos (faultless.2 (fun h => h2 h.1))]
    exact ⟨_, _, rfl, .inr ⟨h2, h3⟩⟩

end Go.Dc
