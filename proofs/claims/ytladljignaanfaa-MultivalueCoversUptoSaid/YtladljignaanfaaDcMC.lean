/- Writes to a register, on both sides. -/
import Derived.Test.YtladljignaanfaaDcMB
set_option linter.unusedSimpArgs false
set_option linter.unusedVariables false
namespace Go.Dc
open Go

def cm (l : List VV) (i : Nat) : Int := l.foldl (fun t v => max t (v.Vector.getD i 0)) 0
def vecW (l : List VV) (r : Int) : List Int := (List.range 6).map fun i => cm l i + if (i : Int) = r then 1 else 0
def writeV (l : List VV) (r value : Int) : List VV × Fault :=
  if (vfault l).Code ≠ 0 then ([], vfault l) else if r < 0 ∨ r ≥ 6 then ([], ⟨3, -2⟩) else if outB value then ([], ⟨3, -3⟩)
  else if cm l r.toNat ≥ 1000000000 then ([], ⟨10, -1⟩) else ([⟨value, vecW l r⟩], ⟨0, 0⟩)

theorem cm_succ {l : List VV} {k : Nat} (h : k < l.length) (i : Nat) : cm (l.take (k + 1)) i = max (cm (l.take k) i) (l[k].Vector.getD i 0) := by
  unfold cm
  rw [List.take_succ_eq_append_getElem h, List.foldl_append]; rfl

theorem getD_at {v : List Int} {i : Nat} (h : i < v.length) : v.getD i 0 = v[i] := by
  rw [List.getD_eq_getElem?_getD, List.getElem?_eq_getElem h]; rfl

theorem outB_false {n : Int} : outB n = false ↔ 0 ≤ n ∧ n ≤ 1000000000 := by
  unfold outB
  rw [Bool.or_eq_false_iff, decide_eq_false_iff_not, decide_eq_false_iff_not]
  omega

theorem rng_at {v : List Int} (h : v.any outB = false) {i : Nat} (hi : i < v.length) : 0 ≤ v[i] ∧ v[i] ≤ 1000000000 := by
  rw [List.any_eq_false] at h
  have := h _ (List.getElem_mem hi)
  simp only [Bool.not_eq_true] at this
  exact outB_false.1 this

theorem rng_getD {v : List Int} (h : v.any outB = false) (i : Nat) : 0 ≤ v.getD i 0 ∧ v.getD i 0 ≤ 1000000000 := by
  by_cases hi : i < v.length
  · rw [getD_at hi]; exact rng_at h hi
  · rw [List.getD_eq_getElem?_getD, List.getElem?_eq_none (by omega)]; simp

theorem foldl_max_rng : ∀ (l : List VV) (i : Nat) (m : Int), (∀ v ∈ l, v.Vector.any outB = false) → 0 ≤ m → m ≤ 1000000000 → 0 ≤ l.foldl (fun t v => max t (v.Vector.getD i 0)) m ∧ l.foldl (fun t v => max t (v.Vector.getD i 0)) m ≤ 1000000000
  | [], i, m, _, h0, h1 => ⟨h0, h1⟩
  | v :: l, i, m, h, h0, h1 => by
    have := rng_getD (h v (by simp)) i
    rw [List.foldl_cons]
    exact foldl_max_rng l i _ (fun v hv => h v (by simp [hv])) (by omega) (by omega)

theorem cm_rng {l : List VV} (h : ∀ v ∈ l, v.Vector.any outB = false) (i : Nat) : 0 ≤ cm l i ∧ cm l i ≤ 1000000000 := foldl_max_rng l i 0 h (by omega) (by omega)

theorem foldl_max_le : ∀ (l : List VV) (i : Nat) (m : Int), m ≤ l.foldl (fun t v => max t (v.Vector.getD i 0)) m ∧ ∀ v ∈ l, v.Vector.getD i 0 ≤ l.foldl (fun t v => max t (v.Vector.getD i 0)) m
  | [], i, m => ⟨Int.le_refl _, fun v hv => by cases hv⟩
  | v :: l, i, m => by
    obtain ⟨h1, h2⟩ := foldl_max_le l i (max m (v.Vector.getD i 0))
    rw [List.foldl_cons]
    refine ⟨by omega, fun u hu => ?_⟩
    rcases List.mem_cons.1 hu with rfl | hu
    · omega
    · exact h2 u hu

theorem le_cm {l : List VV} {v : VV} (h : v ∈ l) (i : Nat) : v.Vector.getD i 0 ≤ cm l i := (foldl_max_le l i 0).2 v h

theorem vecW_len (l : List VV) (r : Int) : (vecW l r).length = 6 := by simp [vecW]
theorem vecW_at (l : List VV) (r : Int) {i : Nat} (h : i < (vecW l r).length) : (vecW l r)[i] = cm l i + if (i : Int) = r then 1 else 0 := by
  simp [vecW]

theorem set_getD {s : List Int} {k i : Nat} {x : Int} (hk : k < s.length) : (s.set k x).getD i 0 = if i = k then x else s.getD i 0 := by
  rw [List.getD_eq_getElem?_getD, List.getD_eq_getElem?_getD, List.getElem?_set]
  by_cases h : k = i
  · subst h; rw [if_pos rfl, if_pos hk, if_pos rfl]; rfl
  · rw [if_neg h, if_neg (fun e => h e.symm)]

/-- the maxima, one value in -/
theorem wl2_f (v : VV) (h6 : v.Vector.length = 6) (s : List Int) (hs : s.length = 6) :
    ∃ r, iter (fun s => multivalue_Write.l2 v s.1 s.2) (0, s) = some r ∧ (r.length = 6 ∧ ∀ i, i < 6 → r.getD i 0 = max (s.getD i 0) (v.Vector.getD i 0)) := by
  refine inv_loop (f := fun s => multivalue_Write.l2 v s.1 s.2) 6 (fun k t => t.length = 6 ∧ ∀ i, i < 6 → t.getD i 0 = if i < k then max (s.getD i 0) (v.Vector.getD i 0) else s.getD i 0) _ ?_ ?_ s ⟨hs, fun i _ => by rw [if_neg (by omega)]⟩
  · rintro k t hk ⟨ht, hI⟩
    unfold multivalue_Write.l2
    simp only
    refine ⟨t.set k (max t[k] v.Vector[k]), ?_, by simpa using ht, fun i hi => ?_⟩
    · rw [ite_dec, if_pos (by omega), at_nat (by omega), Option.bind_some, at_nat (by omega), Option.bind_some, Option.bind_some, Option.bind_some, ck_eq (by omega) (by omega), Option.bind_some]
      rw [Int.toNat_natCast]; rfl
    · rw [set_getD (by omega)]
      by_cases h : i = k
      · subst h
        rw [if_pos rfl, if_pos (by omega), getD_at (by omega : i < v.Vector.length), ← getD_at (v := t) (by omega), hI i hi, if_neg (by omega)]
      · rw [if_neg h, hI i hi]
        by_cases h2 : i < k
        · rw [if_pos h2, if_pos (by omega)]
        · rw [if_neg h2, if_neg (by omega)]
  · rintro t ⟨ht, hI⟩
    unfold multivalue_Write.l2
    simp only
    rw [ite_dec, if_neg (by omega)]
    exact ⟨t, rfl, ht, fun i hi => by rw [hI i hi, if_pos hi]⟩

theorem wl1_f (l : List VV) (hl : l.length ≤ 1000) (h6 : ∀ v ∈ l, v.Vector.length = 6) : ∃ r, iter (fun s => multivalue_Write.l1 l s.1 s.2) (0, List.replicate 6 0) = some r ∧ (r.length = 6 ∧ ∀ i, i < 6 → r.getD i 0 = cm l i) := by
  refine inv_loop (f := fun s => multivalue_Write.l1 l s.1 s.2) l.length (fun k t => t.length = 6 ∧ ∀ i, i < 6 → t.getD i 0 = cm (l.take k) i) _ ?_ ?_ _ ⟨by simp, fun i hi => ?_⟩
  · rintro k t hk ⟨ht, hI⟩
    unfold multivalue_Write.l1
    simp only
    obtain ⟨r, e, hr, hrI⟩ := wl2_f l[k] (h6 _ (List.getElem_mem hk)) t ht
    refine ⟨r, ?_, hr, fun i hi => by rw [hrI i hi, hI i hi, cm_succ hk]⟩
    rw [ite_dec, if_pos (by omega), at_nat hk, Option.bind_some, e, Option.bind_some]
    unfold multivalue_Write.j3 multivalue_Write.j2
    rw [ck_eq (by omega) (by omega), Option.bind_some]; rfl
  · rintro t ⟨ht, hI⟩
    unfold multivalue_Write.l1
    simp only
    rw [ite_dec, if_neg (by omega)]
    exact ⟨t, rfl, ht, fun i hi => by rw [hI i hi, List.take_length]⟩
  · rw [List.take_zero]
    rw [List.getD_eq_getElem?_getD, List.getElem?_replicate, if_pos hi]; rfl

theorem fault_cond (f : Fault) (h : f = ⟨0, 0⟩ ∨ f.Code ≠ 0) : (!(decide (f.Code = 0) && decide (f.Index = 0))) = decide (f.Code ≠ 0) := by
  rcases h with h | h
  · subst h; rfl
  · simp [h]

theorem rep_cond (r : Int) : (if decide (r < 0) = true then some true else some (decide (r ≥ 6))) = some (decide (r < 0 ∨ r ≥ 6)) := by
  by_cases h : r < 0 <;> simp [h]

theorem Write_f (l : List VV) (r value : Int) : multivalue_Write l r value = some (writeV l r value) := by
  unfold multivalue_Write writeV
  rw [Validate_f, Option.bind_some, fault_cond _ (vfault_code l), ite_dec]
  by_cases h0 : (vfault l).Code ≠ 0
  · rw [if_pos h0, if_pos h0]
  rw [if_neg h0, if_neg h0, rep_cond, Option.bind_some, ite_dec]
  by_cases h1 : r < 0 ∨ r ≥ 6
  · rw [if_pos h1, if_pos h1]
  rw [if_neg h1, if_neg h1, inRange_f, Option.bind_some, Bool.not_not]
  by_cases h2 : outB value = true
  · rw [if_pos h2, if_pos h2]
  rw [if_neg h2, if_neg h2]
  have hv : VReg l := (vreg_iff l).2 ((vfault_code l).resolve_right h0)
  rw [mk_eq (by omega) (by omega), Option.bind_some]
  obtain ⟨s, e, hs, hI⟩ := wl1_f l (by have := hv.len; omega) hv.six
  rw [show (6 : Int).toNat = 6 from rfl, e, Option.bind_some]
  obtain ⟨k, rfl⟩ := Int.eq_ofNat_of_zero_le (show 0 ≤ r by omega)
  have hk : k < 6 := by omega
  have hsk : s[k] = cm l k := by rw [← getD_at (by omega), hI k hk]
  have hr := cm_rng hv.rng k
  unfold multivalue_Write.j1
  rw [at_nat (by omega), Option.bind_some, hsk, ck_eq (by omega) (by omega), Option.bind_some, Option.bind_some, Option.bind_some, Int.toNat_natCast, at_nat (by simp; omega), Option.bind_some, List.getElem_set_self, ite_dec]
  by_cases h3 : cm l k ≥ 1000000000
  · rw [if_pos (by omega), if_pos h3]
  · rw [if_neg (by omega), if_neg h3]
    have : s.set k (cm l k + 1) = vecW l k := by
      refine List.ext_getElem (by rw [vecW_len]; simpa using hs) fun i hi hi' => ?_
      rw [vecW_len] at hi'
      rw [vecW_at, List.getElem_set]
      by_cases h : k = i
      · subst h; rw [if_pos rfl, if_pos rfl]
      · rw [if_neg h, if_neg (by omega), ← getD_at (by omega), hI i hi']; omega
    rw [this]

theorem rl2_f (l : List VV) (hl : l.length ≤ 1000) (h6 : ∀ v ∈ l, v.Vector.length = 6) (i : Nat) (hi : i < 6) : iter (fun s => changeforgeref2_Written.l2 l (i : Int) s.1 s.2) (0, 0) = some (cm l i) := by
  obtain ⟨r, e, rfl⟩ := inv_loop (f := fun s => changeforgeref2_Written.l2 l (i : Int) s.1 s.2) l.length (fun k t => t = cm (l.take k) i) (fun r => r = cm l i) (by
    rintro k t hk rfl
    have hv := h6 _ (List.getElem_mem hk)
    unfold changeforgeref2_Written.l2 changeforgeref2_Written.j5
    simp only
    refine ⟨_, ?_, (cm_succ hk i).symm⟩
    rw [ite_dec, if_pos (by omega), at_nat hk, Option.bind_some, at_nat (by omega), Option.bind_some, Option.bind_some, at_nat (by omega), Option.bind_some, ck_eq (by omega) (by omega), Option.bind_some, Option.bind_some, ite_dec, getD_at (by omega)]
    by_cases h : l[k].Vector[i] > cm (l.take k) i
    · rw [if_pos h, Int.max_eq_right (by omega)]; rfl
    · rw [if_neg h, Int.max_eq_left (by omega)]; rfl) (by
    rintro t rfl
    unfold changeforgeref2_Written.l2
    simp only
    rw [ite_dec, if_neg (by omega), List.take_length]
    exact ⟨_, rfl, rfl⟩) 0 rfl
  exact e

theorem Written_f (l : List VV) (r value : Int) : changeforgeref2_Written l r value = some (writeV l r value) := by
  unfold changeforgeref2_Written writeV changeforgeref1_At
  rw [ValuesFault_f, Option.bind_some, ite_ndec]
  by_cases h0 : (vfault l).Code = 0
  case neg => rw [if_neg h0, if_pos h0]
  rw [if_pos h0, if_neg (show ¬ (vfault l).Code ≠ 0 from fun h => h h0), rep_cond, Option.bind_some, ite_dec]
  by_cases h1 : r < 0 ∨ r ≥ 6
  · rw [if_pos h1, if_pos h1]; rfl
  rw [if_neg h1, if_neg h1]
  have e1 : (if decide (value < 0) = true then some true else some (decide (value > 1000000000))) = some (outB value) := by
    unfold outB
    by_cases hc : value < 0 <;> simp [hc]
  rw [e1, Option.bind_some]
  by_cases h2 : outB value = true
  · rw [if_pos h2, if_pos h2]; rfl
  rw [if_neg h2, if_neg h2]
  have hv : VReg l := (vreg_iff l).2 ((vfault_code l).resolve_right (by simpa using h0))
  obtain ⟨s, e, rfl⟩ := inv_loop (f := fun s => changeforgeref2_Written.l1 l r s.1 s.2) 6 (fun k t => t = (List.range k).map fun i => cm l i + if (i : Int) = r then 1 else 0) (fun t => t = vecW l r) (by
    rintro k t hk rfl
    unfold changeforgeref2_Written.l1
    simp only
    refine ⟨_, ?_, rfl⟩
    rw [ite_dec, if_pos (by omega), rl2_f l (by have := hv.len; omega) hv.six k hk, Option.bind_some]
    have hr := cm_rng hv.rng k
    have hj : ∀ x : Int, changeforgeref2_Written.j4 (k : Int) ((List.range k).map fun i => cm l i + if (i : Int) = r then 1 else 0) x = some (.next (((k + 1 : Nat) : Int), ((List.range k).map fun i => cm l i + if (i : Int) = r then 1 else 0) ++ [x])) := by
      intro x
      unfold changeforgeref2_Written.j4 changeforgeref2_Written.j2
      rw [app_eq (by simp; omega), Option.bind_some, ck_eq (by omega) (by omega), Option.bind_some]; rfl
    unfold changeforgeref2_Written.j3
    rw [ite_dec, List.range_succ, List.map_append]
    by_cases h : (k : Int) = r
    · rw [if_pos h, ck_eq (by omega) (by omega), Option.bind_some, hj]
      simp [h]
    · rw [if_neg h, hj]
      simp [h]) (by
    rintro t rfl
    unfold changeforgeref2_Written.l1
    simp only
    rw [ite_dec, if_neg (by omega)]
    exact ⟨_, rfl, rfl⟩) [] rfl
  rw [e, Option.bind_some]
  obtain ⟨k, rfl⟩ := Int.eq_ofNat_of_zero_le (show 0 ≤ r by omega)
  have hk : k < 6 := by omega
  unfold changeforgeref2_Written.j1 changeforgeref1_At
  rw [at_nat (by rw [vecW_len]; exact hk), Option.bind_some, vecW_at, if_pos rfl, ite_dec, Int.toNat_natCast]
  by_cases h3 : cm l k ≥ 1000000000
  · rw [if_pos (by omega), if_pos h3]; rfl
  · rw [if_neg (by omega), if_neg h3]

/-! what a write gives -/
theorem writeV_reg {l : List VV} {r value : Int} (h : (writeV l r value).2.Code = 0) :
    VReg l ∧ 0 ≤ r ∧ r < 6 ∧ writeV l r value = ([⟨value, vecW l r⟩], ⟨0, 0⟩) ∧ VReg [⟨value, vecW l r⟩] ∧ ∀ v ∈ l, covB (vecW l r) v.Vector = true ∧ covB v.Vector (vecW l r) = false := by
  unfold writeV at h ⊢
  by_cases h0 : (vfault l).Code ≠ 0
  · rw [if_pos h0] at h; exact absurd h h0
  rw [if_neg h0] at h ⊢
  by_cases h1 : r < 0 ∨ r ≥ 6
  · rw [if_pos h1] at h; cases h
  rw [if_neg h1] at h ⊢
  by_cases h2 : outB value = true
  · rw [if_pos h2] at h; cases h
  rw [if_neg h2] at h ⊢
  by_cases h3 : cm l r.toNat ≥ 1000000000
  · rw [if_pos h3] at h; cases h
  rw [if_neg h3]
  have hv : VReg l := (vreg_iff l).2 ((vfault_code l).resolve_right h0)
  obtain ⟨k, rfl⟩ := Int.eq_ofNat_of_zero_le (show 0 ≤ r by omega)
  have hk : k < 6 := by omega
  rw [Int.toNat_natCast] at h3
  have hkk := vecW_at l (k : Int) (i := k) (by rw [vecW_len]; exact hk)
  rw [if_pos rfl] at hkk
  have hr := cm_rng hv.rng k
  refine ⟨hv, by omega, by omega, rfl, ⟨by simp, ?_, ?_, ?_, ?_, by simp, by simp⟩, fun v hm => ?_⟩
  · intro v hm; simp only [List.mem_singleton] at hm; subst hm; exact vecW_len l _
  · intro v hm; simp only [List.mem_singleton] at hm; subst hm; simpa using h2
  · intro v hm; simp only [List.mem_singleton] at hm; subst hm
    rw [List.any_eq_false]
    intro n hn
    obtain ⟨i, hi, rfl⟩ := List.getElem_of_mem hn
    have hri := cm_rng hv.rng i
    simp only [Bool.not_eq_true]
    rw [vecW_at, outB_false]
    by_cases he : (i : Int) = (k : Int)
    · rw [if_pos he]
      have : i = k := by omega
      subst this
      omega
    · rw [if_neg he]; omega
  · intro v hm; simp only [List.mem_singleton] at hm; subst hm
    unfold zerB
    rw [List.all_eq_false]
    refine ⟨_, List.getElem_mem (n := k) (by rw [vecW_len]; exact hk), ?_⟩
    rw [hkk]; simp; omega
  · have h6 := hv.six v hm
    constructor
    · rw [covB_iff (by rw [vecW_len, h6])]
      intro i hi
      rw [vecW_len] at hi
      rw [vecW_at, ← getD_at (v := v.Vector) (by omega)]
      have := le_cm hm i
      split <;> omega
    · cases hc : covB v.Vector (vecW l (k : Int))
      · rfl
      · have := (covB_iff (by rw [vecW_len, h6])).1 hc k (by omega)
        rw [hkk, ← getD_at (v := v.Vector) (by omega)] at this
        have := le_cm hm k
        omega
end Go.Dc
