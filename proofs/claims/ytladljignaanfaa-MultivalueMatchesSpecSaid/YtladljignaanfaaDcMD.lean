/- Merging registers: the program. -/
import Derived.Test.YtladljignaanfaaDcMC
import Derived.Test.YtladljignaanfaaDcR
set_option linter.unusedSimpArgs false
set_option linter.unusedVariables false
namespace Go.Dc
open Go

def supB (v : VV) (x : VV) : Bool := covB x.Vector v.Vector && !decide (x.Vector = v.Vector)
def leftF (a b : List VV) : List VV := a.filter fun v => !b.any (supB v)
def sameX (v : VV) (x : VV) : Bool := decide (x.Vector = v.Vector) && !decide (x.Value = v.Value)
def cfG (a : List VV) (k : Nat) (v : VV) : Option (List VV × Fault) := if a.any (sameX v) then some ([], ⟨19, (k : Int)⟩) else Option.none

theorem clone_f {v : List Int} (h : v.length = 6) : slices_Clone v = some v := by
  unfold slices_Clone
  rw [nilIf_ne (by intro e; rw [e] at h; cases h), app_eq (by simp; omega), Option.bind_some]; rfl

theorem left_f {a b : List VV} (ha : VReg a) (hb : VReg b) : multivalue_left a b = some (leftF a b) := by
  unfold multivalue_left
  have hla := ha.len
  have hlb := hb.len
  obtain ⟨r, e, rfl⟩ := inv_loop (f := fun s => multivalue_left.l1 a b s.1 s.2) a.length (fun k t => t = leftF (a.take k) b) (fun r => r = leftF a b) (by
    rintro k t hk rfl
    unfold multivalue_left.l1
    simp only
    have hv := ha.six _ (List.getElem_mem hk)
    have hlen : (leftF (a.take k) b).length ≤ k := by
      unfold leftF
      refine Nat.le_trans (List.length_filter_le _ _) ?_
      rw [List.length_take]; omega
    refine ⟨_, ?_, rfl⟩
    rw [ite_dec, if_pos (by omega), at_nat hk, Option.bind_some]
    rw [any_loop (f := fun s => multivalue_left.l2 b a[k] s) (fun k => .inl (k : Int)) (.inr ()) b (supB a[k]) ?_ ?_, Option.bind_some]
    · have hstep : leftF (a.take (k + 1)) b = leftF (a.take k) b ++ if b.any (supB a[k]) then [] else [a[k]] := by
        unfold leftF
        rw [List.take_succ_eq_append_getElem hk, List.filter_append, List.filter_cons, List.filter_nil]
        cases b.any (supB a[k]) <;> rfl
      rw [hstep]
      cases h : firstB (supB a[k]) 0 b with
      | some p =>
        have : b.any (supB a[k]) = true := by
          cases h4 : b.any (supB a[k])
          · rw [firstB_none.2 h4] at h; cases h
          · rfl
        rw [this, if_pos rfl, List.append_nil]
        unfold multivalue_left.j3 multivalue_left.j2
        simp only
        rw [ite_ndec, if_pos (by omega), ck_eq (by omega) (by omega), Option.bind_some]; rfl
      | none =>
        rw [firstB_none.1 h, if_neg (by simp)]
        unfold multivalue_left.j4 multivalue_left.j3 multivalue_left.j2
        simp only
        rw [ite_ndec, if_neg (by omega), clone_f hv, Option.bind_some, app_eq (by simp; omega), Option.bind_some, ck_eq (by omega) (by omega), Option.bind_some]; rfl
    · intro j hj
      have hx := hb.six _ (List.getElem_mem hj)
      unfold multivalue_left.l2 supB
      rw [ite_dec, if_pos (by omega), at_nat hj, Option.bind_some, covers_f (by omega) (by omega), Option.bind_some]
      by_cases hc : covB b[j].Vector a[k].Vector = true
      · rw [if_pos hc, sEqual_f _ _ (by omega), Option.bind_some, Option.bind_some, hc, Bool.true_and]
        by_cases hd : b[j].Vector = a[k].Vector
        · rw [if_neg (by simpa using hd), if_neg (by simpa using hd), ck_eq (by omega) (by omega), Option.bind_some]; rfl
        · rw [if_pos (by simpa using hd), if_pos (by simpa using hd)]
      · rw [if_neg hc, Option.bind_some, if_neg Bool.false_ne_true]
        simp only [Bool.not_eq_true] at hc
        rw [hc, Bool.false_and, if_neg Bool.false_ne_true, ck_eq (by omega) (by omega), Option.bind_some]; rfl
    · unfold multivalue_left.l2
      rw [ite_dec, if_neg (by omega)]) (by
    rintro t rfl
    unfold multivalue_left.l1
    simp only
    rw [ite_dec, if_neg (by omega), List.take_length]
    exact ⟨_, rfl, rfl⟩) [] rfl
  rw [e, Option.bind_some]; rfl

/-! dropping what equals the one before -/
def ddq (p : List Int) : List VV → List VV
  | [] => []
  | y :: r => if y.Vector = p then ddq p r else y :: ddq y.Vector r
def dd : List VV → List VV
  | [] => []
  | x :: r => x :: ddq x.Vector r

theorem ddq_snoc : ∀ (m : List VV) (p : List Int) (y : VV), ddq p (m ++ [y]) = if y.Vector = ((m.getLast?).map (·.Vector)).getD p then ddq p m else ddq p m ++ [y]
  | [], p, y => by
    by_cases h : y.Vector = p <;> simp [ddq, h]
  | x :: m, p, y => by
    rw [List.cons_append, ddq, ddq, ddq_snoc m, ddq_snoc m]
    have hl : ((x :: m).getLast?.map (·.Vector)).getD p = ((m.getLast?).map (·.Vector)).getD x.Vector := by
      rw [List.getLast?_cons]
      cases m.getLast? <;> rfl
    rw [hl]
    by_cases h : x.Vector = p
    · rw [if_pos h, if_pos h, h]
    · rw [if_neg h, if_neg h]
      split <;> rfl

theorem dd_snoc {m : List VV} {x y : VV} (hx : m.getLast? = some x) : dd (m ++ [y]) = if y.Vector = x.Vector then dd m else dd m ++ [y] := by
  cases m with
  | nil => cases hx
  | cons z m =>
    rw [List.cons_append, dd, dd, ddq_snoc]
    rw [List.getLast?_cons] at hx
    have : ((m.getLast?).map (·.Vector)).getD z.Vector = x.Vector := by
      cases h : m.getLast? with
      | none => rw [h] at hx; cases hx; rfl
      | some w => rw [h] at hx; cases hx; rfl
    rw [this]
    split <;> rfl

theorem dd_take {l : List VV} {k : Nat} (h : k < l.length) (h0 : 0 < k) : dd (l.take (k + 1)) = if l[k].Vector = l[k - 1].Vector then dd (l.take k) else dd (l.take k) ++ [l[k]] := by
  rw [List.take_succ_eq_append_getElem h]
  refine dd_snoc ?_
  have hlen : (l.take k).length = k := by rw [List.length_take]; omega
  rw [last_at (by omega), List.getElem_take]
  congr 2; omega

theorem dd_none {l : List VV} : ∀ k, k ≤ l.length → (∀ j (h : j < l.length), 0 < j → j < k → l[j].Vector ≠ l[j - 1].Vector) → dd (l.take k) = l.take k
  | 0, _, _ => by rw [List.take_zero]; rfl
  | 1, h1, _ => by
    cases l with
    | nil => rfl
    | cons x l => simp [dd, ddq]
  | k + 2, hk, h => by
    rw [dd_take (by omega) (by omega), if_neg (h (k + 1) (by omega) (by omega) (by omega)), dd_none (k + 1) (by omega) (fun j hj h1 h2 => h j hj h1 (by omega))]
    rw [← List.take_succ_eq_append_getElem]

def cpG (l : List VV) (k : Nat) (v : VV) : Option (List VV) := if 0 < k ∧ (l[k - 1]?).map (·.Vector) = some v.Vector then some (dd l) else Option.none

theorem s2_f (x y : VV) (h : x.Vector.length = 6) : multivalue_Merge_s2 x y = some (decide (x.Vector = y.Vector)) := by
  unfold multivalue_Merge_s2
  rw [sEqual_f _ _ (by omega), Option.bind_some]

/-- the inner loop of the compaction -/
theorem cp2_f {l : List VV} (hl : l.length ≤ 1000) (h6 : ∀ v ∈ l, v.Vector.length = 6) {k : Nat} (hk : k < l.length) (h0 : 0 < k) (hd : dd (l.take (k + 1)) = l.take k) :
    ∃ r, iter (fun s => multivalue_Merge.l2 (k : Int) ((l.length : Int) - k) s.1 s.2.1 s.2.2) (1, (k : Int), l) = some r ∧ ∃ p : Nat, r.1 = p ∧ p ≤ r.2.length ∧ r.2.length = l.length ∧ r.2.take p = dd l := by
  refine inv_loopE (f := fun s => multivalue_Merge.l2 (k : Int) ((l.length : Int) - k) s.1 s.2.1 s.2.2) 1 (l.length - k) (by omega)
    (fun j t => t.2.length = l.length ∧ ∃ p : Nat, t.1 = p ∧ p ≤ k + j - 1 ∧ t.2.take p = dd (l.take (k + j)) ∧ t.2.drop (k + j - 1) = l.drop (k + j - 1)) _ ?_ ?_ ((k : Int), l) ⟨rfl, k, rfl, by omega, hd.symm, rfl⟩
  · rintro j ⟨_, t⟩ hj1 hj ⟨ht, p, hp, hpk, htake, hdrop⟩
    simp only at ht hp htake hdrop
    subst hp
    left
    have hkj : k + j < l.length := by omega
    have g1 : t[k + j]'(by omega) = l[k + j] := by
      have h1 := List.getElem_drop (xs := t) (i := k + j - 1) (j := 1) (h := by rw [List.length_drop]; omega)
      have h2 := List.getElem_drop (xs := l) (i := k + j - 1) (j := 1) (h := by rw [List.length_drop]; omega)
      have e : k + j - 1 + 1 = k + j := by omega
      simp only [hdrop, e] at h1 h2
      rw [← h1, ← h2]
    have g2 : t[k + j - 1]'(by omega) = l[k + j - 1] := by
      have h1 := List.getElem_drop (xs := t) (i := k + j - 1) (j := 0) (h := by rw [List.length_drop]; omega)
      have h2 := List.getElem_drop (xs := l) (i := k + j - 1) (j := 0) (h := by rw [List.length_drop]; omega)
      simp only [hdrop, Nat.add_zero] at h1 h2
      rw [← h1, ← h2]
    have a1 : atA? t (k : Int) ((l.length : Int) - k) (j : Int) = some l[k + j] := by
      unfold atA?
      rw [if_pos (by omega), show ((k : Int) + (j : Int)) = ((k + j : Nat) : Int) by omega, at_nat (by omega), g1]
    have a2 : atA? t (k : Int) ((l.length : Int) - k) ((j : Int) - 1) = some l[k + j - 1] := by
      unfold atA?
      rw [if_pos (by omega), show ((k : Int) + ((j : Int) - 1)) = ((k + j - 1 : Nat) : Int) by omega, at_nat (by omega), g2]
    unfold multivalue_Merge.l2
    simp only
    rw [ite_dec, if_pos (by omega), a1, Option.bind_some, ck_eq (by omega) (by omega), Option.bind_some, a2, Option.bind_some, s2_f _ _ (h6 _ (List.getElem_mem _)), Option.bind_some, ite_ndec]
    have hdd := dd_take (l := l) (k := k + j) hkj (by omega)
    unfold multivalue_Merge.j6
    by_cases hc : l[k + j].Vector = l[k + j - 1].Vector
    · rw [if_pos hc, ck_eq (by omega) (by omega), Option.bind_some]
      rw [if_pos hc] at hdd
      refine ⟨_, rfl, ht, p, rfl, by omega, ?_, ?_⟩
      · rw [show k + (j + 1) = k + j + 1 by omega, hdd]; exact htake
      · have e : k + (j + 1) - 1 = (k + j - 1) + 1 := by omega
        rw [e, ← List.drop_drop, ← List.drop_drop, hdrop]
    · rw [if_neg hc]
      rw [if_neg hc] at hdd
      simp only [Option.bind_some]
      rw [at_nat (by omega), Option.bind_some, ck_eq (by omega) (by omega), Option.bind_some, ck_eq (by omega) (by omega), Option.bind_some, Int.toNat_natCast]
      refine ⟨_, rfl, by simpa using ht, p + 1, by omega, by omega, ?_, ?_⟩
      · rw [show k + (j + 1) = k + j + 1 by omega, hdd, ← htake]
        have hpl : p < t.length := by omega
        rw [List.take_succ_eq_append_getElem (by simpa using hpl), List.getElem_set_self, List.take_set_of_le (Nat.le_refl _)]
      · have e : k + (j + 1) - 1 = (k + j - 1) + 1 := by omega
        rw [e, List.drop_set_of_lt (by omega), ← List.drop_drop, ← List.drop_drop, hdrop]
  · rintro ⟨_, t⟩ ⟨ht, p, hp, hpk, htake, hdrop⟩
    simp only at ht hp htake hdrop
    subst hp
    unfold multivalue_Merge.l2
    simp only
    rw [ite_dec, if_neg (by omega)]
    refine ⟨_, rfl, p, rfl, ?_, ht, ?_⟩
    · simp only; omega
    · have e : k + (l.length - k) = l.length := by omega
      rw [e, List.take_length] at htake
      exact htake

/-- the compaction -/
theorem compact_f {l : List VV} (hl : l.length ≤ 1000) (h6 : ∀ v ∈ l, v.Vector.length = 6) :
    (if decide ((l.length : Int) < 2) = true then multivalue_Merge.j2 l else (iter (fun s => multivalue_Merge.l1 l s) 1).bind fun r1 => (match r1 with | .inl p => multivalue_Merge.j2 p | .inr _ => multivalue_Merge.j3 l)) = multivalue_Merge.j2 (dd l) := by
  rw [ite_dec]
  by_cases h2 : l.length < 2
  · rw [if_pos (by omega)]
    congr 1
    match l, h2 with
    | [], _ => rfl
    | [x], _ => rfl
    | _ :: _ :: _, h => simp at h; omega
  rw [if_neg (by omega)]
  have hg : ∀ k (h : k < l.length), cpG l k l[k] = if 0 < k ∧ l[k - 1].Vector = l[k].Vector then some (dd l) else Option.none := by
    intro k h
    unfold cpG
    rw [List.getElem?_eq_getElem (by omega)]
    simp only [Option.map_some, Option.some.injEq]
  have hi := scn_iter (f := fun s => multivalue_Merge.l1 l s) (dn := Sum.inl) (e := .inr ()) 1 l (cpG l) ?_ ?_ (l.drop 1) 1 rfl (by omega) (Nat.le_refl _) (fun j hj h => by
    have : j = 0 := by omega
    subst this
    unfold cpG
    rw [if_neg (by omega)])
  · rw [show ((1 : Nat) : Int) = 1 from rfl] at hi
    rw [hi, Option.bind_some]
    cases hs : scn (cpG l) 1 (l.drop 1) with
    | some r =>
      obtain ⟨j, hj, he⟩ := scn_some hs
      unfold cpG at he
      split at he
      · cases he; rfl
      · cases he
    | none =>
      show multivalue_Merge.j2 l = _
      have := dd_none (l := l) l.length (Nat.le_refl _) (fun j hj h0 _ => by
        have := scn_none.1 hs (j - 1) (by rw [List.length_drop]; omega)
        rw [List.getElem_drop] at this
        have e : 1 + (j - 1) = j := by omega
        simp only [e] at this
        rw [hg j hj] at this
        split at this
        · cases this
        · rename_i hn
          exact fun h => hn ⟨h0, h.symm⟩)
      rw [List.take_length] at this
      rw [this]
  · intro k h hk0 hp
    rw [hg k h]
    · unfold multivalue_Merge.l1
      rw [ite_dec, if_pos (by omega), at_nat h, Option.bind_some, ck_eq (by omega) (by omega), Option.bind_some, show ((k : Int) - 1) = ((k - 1 : Nat) : Int) by omega, at_nat (by omega), Option.bind_some, s2_f _ _ (h6 _ (List.getElem_mem _)), Option.bind_some, ite_dec]
      by_cases hc : l[k].Vector = l[k - 1].Vector
      · rw [if_pos hc, if_pos ⟨by omega, hc.symm⟩]
        have hd : dd (l.take (k + 1)) = l.take k := by
          rw [dd_take h (by omega), if_pos hc, dd_none k (by omega)]
          intro j hj h0 hjk
          have := hp j hj hjk
          rw [hg j hj] at this
          split at this
          · cases this
          · rename_i hn
            exact fun h => hn ⟨h0, h.symm⟩
        obtain ⟨r, e, p, hr1, hpl, hlen, htk⟩ := cp2_f hl h6 h (by omega) hd
        have e1 : als? l (k : Int) = some ((l.length : Int) - k) := by
          unfold als?; rw [if_pos (by omega)]
        rw [e1, Option.bind_some, e, Option.bind_some]
        unfold multivalue_Merge.j5
        have e2 : als? r.2 r.1 = some ((r.2.length : Int) - p) := by
          unfold als?; rw [hr1, if_pos (by omega)]
        rw [e2, Option.bind_some]
        have e3 : clr? r.2 r.1 ((r.2.length : Int) - p) (⟨0, []⟩ : VV) = some (r.2.take p ++ List.replicate ((r.2.length : Int) - p).toNat ⟨0, []⟩) := by
          unfold clr?; rw [hr1, if_pos (by omega), Int.toNat_natCast]
        rw [e3, Option.bind_some, hr1, cut_eq (by omega) (by omega) (by simp; omega), Option.bind_some]
        simp only [Int.toNat_natCast, Int.toNat_zero, List.drop_zero]
        rw [List.take_append_of_le_length (by simp; omega), List.take_take, Nat.min_self, htk]
      · rw [if_neg hc, if_neg (fun h => hc h.2.symm)]
        unfold multivalue_Merge.j4
        rw [ck_eq (by omega) (by omega), Option.bind_some]; rfl
  · unfold multivalue_Merge.l1
    rw [ite_dec, if_neg (by omega)]
end Go.Dc
