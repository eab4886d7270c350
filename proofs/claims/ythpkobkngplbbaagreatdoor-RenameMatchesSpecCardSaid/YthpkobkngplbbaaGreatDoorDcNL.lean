/- The document's Percent, Sketched and faults of texts: what the program's functions come to. -/
import Derived.Test.YthpkobkngplbbaaGreatDoorDcNK
set_option linter.unusedSimpArgs false
set_option linter.unusedVariables false
namespace Go.Dc
open Go

theorem algs_len : ∀ (a b : List ByteArray), (algs a b).length ≤ a.length + b.length
  | [], [] => by simp [algs]
  | [], y :: b => by have := algs_len [] b; rw [algs, List.length_cons, List.length_cons]; omega
  | x :: a, [] => by have := algs_len a []; rw [algs, List.length_cons, List.length_cons]; omega
  | x :: a, y :: b => by
    rw [algs]
    split
    · have := algs_len a b; simp only [List.length_cons]; omega
    · split
      · have := algs_len a (y :: b); simp only [List.length_cons] at *; omega
      · have := algs_len (x :: a) b; simp only [List.length_cons] at *; omega
 termination_by a b => a.length + b.length

def keptF (s : List Step_changeforgeref1) : List ByteArray := (s.filter fun r => decide (r.Kind = 0)).map (·.Text)

theorem algs_kept : ∀ (a b : List ByteArray), (keptF (algs a b)).length = lcs a b
  | [], [] => by simp [algs, lcs, keptF]
  | [], y :: b => by have := algs_kept [] b; rw [lcs_nil_l] at *; rw [algs]; unfold keptF at *; simpa using this
  | x :: a, [] => by have := algs_kept a []; rw [lcs_nil_r] at *; rw [algs]; unfold keptF at *; simpa using this
  | x :: a, y :: b => by
    rw [algs, lcs_cons]
    split
    · have := algs_kept a b; unfold keptF at *; simp only [List.length_map] at *; simp [this]
    · split
      · have := algs_kept a (y :: b); unfold keptF at *; simp only [List.length_map] at *; simp [this]; omega
      · have := algs_kept (x :: a) b; unfold keptF at *; simp only [List.length_map] at *; simp [this]; omega
 termination_by a b => a.length + b.length

theorem Kept_f {a b : List ByteArray} (ha : a.length ≤ 1000) (hb : b.length ≤ 1000) : changeforgeref1_Kept a b = some (keptF (algs a b)) := by
  unfold changeforgeref1_Kept
  have hm : (a.length + 1) * (b.length + 1) ≤ 1001 * 1001 := Nat.mul_le_mul (by omega) (by omega)
  rw [alignR_eq (by omega), Option.bind_some]
  have hl := algs_len a b
  generalize algs a b = s at hl
  have hf : ∀ k, k ≤ s.length → (keptF (s.take k)).length ≤ k := fun k hk => by
    unfold keptF
    rw [List.length_map]
    exact Nat.le_trans (List.length_filter_le _ _) (by rw [List.length_take]; omega)
  obtain ⟨r, e, rfl⟩ := inv_loop (f := fun t => changeforgeref1_Kept.l1 s t.1 t.2) s.length (fun k t => t = keptF (s.take k)) (fun r => r = keptF s) (by
    rintro k t hk rfl
    have h1 := hf k (by omega)
    have hj : ∀ w, changeforgeref1_Kept.j2 (k : Int) w = some (.next (((k + 1 : Nat) : Int), w)) := by
      intro w
      unfold changeforgeref1_Kept.j2
      rw [ck_eq (by omega) (by omega), Option.bind_some]; rfl
    refine ⟨_, ?_, rfl⟩
    unfold changeforgeref1_Kept.l1
    simp only
    rw [ite_dec, if_pos (by omega), at_nat hk, Option.bind_some, ite_dec, Option.bind_some]
    have e : keptF (s.take (k + 1)) = keptF (s.take k) ++ if s[k].Kind = 0 then [s[k].Text] else [] := by
      unfold keptF
      rw [List.take_succ_eq_append_getElem hk, List.filter_append, List.map_append]
      by_cases h : s[k].Kind = 0 <;> simp [h]
    rw [e]
    by_cases h : s[k].Kind = 0
    · rw [if_pos h, if_pos h, app_eq (by rw [List.length_singleton]; omega), Option.bind_some, hj]
    · rw [if_neg h, if_neg h, hj, List.append_nil]) (by
    rintro t rfl
    unfold changeforgeref1_Kept.l1
    simp only
    rw [ite_dec, if_neg (by omega), List.take_length]
    exact ⟨_, rfl, rfl⟩) [] rfl
  rw [e, Option.bind_some]; rfl

theorem Percent_f {a b : List ByteArray} (ha : OkText a) (hb : OkText b) : changeforgeref2_Percent a b = some (simil a b) := by
  have l1 := ha.1
  have l2 := hb.1
  have hk := algs_kept a b
  have hle := (lcs_le a b).1
  unfold changeforgeref2_Percent simil
  rw [ck_eq (by omega) (by omega), Option.bind_some, ite_dec]
  by_cases h0 : a.length + b.length = 0
  · rw [if_pos (by omega), if_pos h0]
  · rw [if_neg (by omega), if_neg h0, Kept_f (by omega) (by omega), Option.bind_some, hk, ck_eq (by omega) (by omega), Option.bind_some, Option.bind_some]
    have e1 : (200 * (lcs a b : Nat) : Int) = ((200 * lcs a b : Nat) : Int) := by omega
    have e2 : (a.length : Int) + (b.length : Int) = ((a.length + b.length : Nat) : Int) := by omega
    rw [e1, e2]
    unfold quo?
    have hq : (((200 * lcs a b : Nat) : Int)).tdiv ((a.length + b.length : Nat) : Int) = ((200 * lcs a b / (a.length + b.length) : Nat) : Int) := by
      rw [Int.tdiv_eq_ediv_of_nonneg (Int.natCast_nonneg _)]; rfl
    have hle : 200 * lcs a b / (a.length + b.length) ≤ 200 * lcs a b := Nat.div_le_self _ _
    rw [if_neg (by omega), hq]
    generalize 200 * lcs a b / (a.length + b.length) = qq at hle ⊢
    rw [ck_eq (by omega) (by omega), Option.bind_some]

/-! digests -/
theorem and1 {y : Int} (h0 : 0 ≤ y) (h1 : y ≤ 9223372036854775807) : andI .i64 y 1 = y % 2 := by
  obtain ⟨n, rfl⟩ := Int.eq_ofNat_of_zero_le h0
  unfold andI
  rw [BitVec.toNat_and]
  have e1 : (BitVec.ofInt IntKind.i64.bits (n : Int)).toNat = n := by
    rw [BitVec.toNat_ofInt]
    show ((n : Int) % ((2 ^ 64 : Nat) : Int)).toNat = n
    omega
  have e2 : (BitVec.ofInt IntKind.i64.bits 1).toNat = 1 := by decide
  rw [e1, e2, Nat.and_one_is_mod, i64_wrap (by omega) (by omega)]
  omega

theorem quo2 {x : Int} (h0 : 0 ≤ x) (h1 : x ≤ 9223372036854775807) : quo? .i64 x 2 = some (x / 2) := by
  unfold quo?
  rw [if_neg (by decide), Int.tdiv_eq_ediv_of_nonneg h0, ck_eq (by omega) (by omega)]

theorem times_iter : ∀ (n : Nat) (o x y : Int), y.toNat = n → Dig o → Dig x → 0 ≤ y → y ≤ 9223372036854775807 →
    iter (fun s : Int × Int × Int => changeforgeref1_times.l1 s.1 s.2.1 s.2.2) (o, x, y) = iter (fun s : Int × Int × Int => digest_mul.l1 s.1 s.2.1 s.2.2) (o, x, y) := by
  intro n
  induction n using Nat.strongRecOn with
  | _ n ih =>
    intro o x y hn ho hx h0 h1
    obtain ⟨p1, p2⟩ := ho
    obtain ⟨q1, q2⟩ := hx
    by_cases hy : y > 0
    · have s1 : ∃ o', Dig o' ∧ changeforgeref1_times.l1 o x y = some (.next (o', (x + x) % 2305843009213693951, y / 2)) ∧ digest_mul.l1 o x y = some (.next (o', (x + x) % 2305843009213693951, y / 2)) := by
        have j1 : ∀ o', changeforgeref1_times.j2 x y o' = some (.next (o', (x + x) % 2305843009213693951, y / 2)) := by
          intro o'
          unfold changeforgeref1_times.j2
          rw [ck_eq (by omega) (by omega), Option.bind_some, rem_nn (by omega) (by decide), Option.bind_some, quo2 h0 h1, Option.bind_some]
        have j2 : ∀ o', digest_mul.j2 x y o' = some (.next (o', (x + x) % 2305843009213693951, y / 2)) := by
          intro o'
          unfold digest_mul.j2
          rw [ck_eq (by omega) (by omega), Option.bind_some, rem_nn (by omega) (by decide), Option.bind_some, shr1, Option.bind_some, Int.two_mul]
        by_cases hc : y % 2 = 1
        · refine ⟨(o + x) % 2305843009213693951, dig_mod, ?_, ?_⟩
          · unfold changeforgeref1_times.l1
            rw [ite_dec, if_pos hy, rem_nn h0 (by decide), Option.bind_some, ite_dec, if_pos hc, ck_eq (by omega) (by omega), Option.bind_some, rem_nn (by omega) (by decide), Option.bind_some, j1]
          · unfold digest_mul.l1
            rw [ite_dec, if_pos hy, ite_dec, and1 h0 h1, if_pos hc, ck_eq (by omega) (by omega), Option.bind_some, rem_nn (by omega) (by decide), Option.bind_some, j2]
        · refine ⟨o, ⟨p1, p2⟩, ?_, ?_⟩
          · unfold changeforgeref1_times.l1
            rw [ite_dec, if_pos hy, rem_nn h0 (by decide), Option.bind_some, ite_dec, if_neg hc, j1]
          · unfold digest_mul.l1
            rw [ite_dec, if_pos hy, ite_dec, and1 h0 h1, if_neg hc, j2]
      obtain ⟨o', hd, e1, e2⟩ := s1
      rw [iter_next (m := fun s : Int × Int × Int => changeforgeref1_times.l1 s.1 s.2.1 s.2.2) e1, iter_next (m := fun s : Int × Int × Int => digest_mul.l1 s.1 s.2.1 s.2.2) e2]
      exact ih (y / 2).toNat (by omega) _ _ _ rfl hd dig_mod (by omega) (by omega)
    · have e1 : changeforgeref1_times.l1 o x y = some (.done o) := by unfold changeforgeref1_times.l1; rw [ite_dec, if_neg hy]
      have e2 : digest_mul.l1 o x y = some (.done o) := by unfold digest_mul.l1; rw [ite_dec, if_neg hy]
      rw [iter_done (m := fun s : Int × Int × Int => changeforgeref1_times.l1 s.1 s.2.1 s.2.2) e1, iter_done (m := fun s : Int × Int × Int => digest_mul.l1 s.1 s.2.1 s.2.2) e2]

theorem times_f {a b : Int} (ha : Dig a) (h0 : 0 ≤ b) (h1 : b ≤ 9223372036854775807) : changeforgeref1_times a b = digest_mul a b := by
  unfold changeforgeref1_times digest_mul
  rw [times_iter b.toNat 0 a b rfl ⟨by decide, by decide⟩ ha h0 h1]; rfl

theorem next_ref {h z f : Int} (hh : Dig h) (hz : 0 ≤ z ∧ z ≤ 2305843009213693951) (hf : 0 ≤ f) : ∃ r, digest_mul h f = some r ∧ Dig r ∧ digest_next ⟨h, z⟩ f = some ((r + z) % 2305843009213693951) := by
  obtain ⟨r, h2, h3, h4⟩ := mul_ok hh hf
  refine ⟨r, h2, ⟨h3, h4⟩, ?_⟩
  unfold digest_next
  simp only
  rw [h2, Option.bind_some, ck_eq (by omega) (by omega), Option.bind_some, rem_nn (by omega) (by decide), Option.bind_some]

theorem of_iter (l : List UInt8) (hl : l.length ≤ 4096) : ∀ (n k : Nat) (h : Int), l.length - k = n → k ≤ l.length → Dig h →
    iter (fun s : Int × Int => changeforgeref1_DigestOf.l1 l s.1 s.2) ((k : Int), h) = iter (fun s : Int × Int => digest_Of.l1 l s.1 s.2) ((k : Int), h)
  | 0, k, h, hn, hk, hd => by
    have e1 : changeforgeref1_DigestOf.l1 l (k : Int) h = some (.done h) := by unfold changeforgeref1_DigestOf.l1; rw [ite_dec, if_neg (by omega)]
    have e2 : digest_Of.l1 l (k : Int) h = some (.done h) := by unfold digest_Of.l1; rw [ite_dec, if_neg (by omega)]
    rw [iter_done (m := fun s : Int × Int => changeforgeref1_DigestOf.l1 l s.1 s.2) e1, iter_done (m := fun s : Int × Int => digest_Of.l1 l s.1 s.2) e2]
  | n + 1, k, h, hn, hk, hd => by
    have hk : k < l.length := by omega
    have hb : (l[k].toNat : Int) < 256 := by have := l[k].toNat_lt; omega
    obtain ⟨r, h1, ⟨h2, h3⟩, h4⟩ := next_ref (z := (l[k].toNat : Int) + 1) (f := 257) hd ⟨by omega, by omega⟩ (by decide)
    have e1 : changeforgeref1_DigestOf.l1 l (k : Int) h = some (.next (((k + 1 : Nat) : Int), (r + ((l[k].toNat : Int) + 1)) % 2305843009213693951)) := by
      unfold changeforgeref1_DigestOf.l1
      rw [ite_dec, if_pos (by omega), at_nat hk, Option.bind_some, ck_eq (by omega) (by omega), Option.bind_some, times_f hd (by decide) (by decide), h1, Option.bind_some, ck_eq (by omega) (by omega), Option.bind_some, ck_eq (by omega) (by omega), Option.bind_some,
        rem_nn (by omega) (by decide), Option.bind_some, ck_eq (by omega) (by omega), Option.bind_some, Int.add_assoc]; rfl
    have e2 : digest_Of.l1 l (k : Int) h = some (.next (((k + 1 : Nat) : Int), (r + ((l[k].toNat : Int) + 1)) % 2305843009213693951)) := by
      unfold digest_Of.l1
      rw [ite_dec, if_pos (by omega), at_nat hk, Option.bind_some, ck_eq (by omega) (by omega), Option.bind_some, ck_eq (by omega) (by omega), Option.bind_some, h4, Option.bind_some, ck_eq (by omega) (by omega), Option.bind_some]; rfl
    rw [iter_next (m := fun s : Int × Int => changeforgeref1_DigestOf.l1 l s.1 s.2) e1, iter_next (m := fun s : Int × Int => digest_Of.l1 l s.1 s.2) e2]
    exact of_iter l hl n (k + 1) _ (by omega) (by omega) dig_mod

theorem DigestOf_f {l : List UInt8} (hl : l.length ≤ 4096) {d : Int} {f : Fault} (h : digest_Of l = some (d, f)) : changeforgeref1_DigestOf l = some d := by
  unfold digest_Of at h
  rw [ite_dec, if_neg (by omega)] at h
  unfold changeforgeref1_DigestOf
  have := of_iter l hl _ 0 1 rfl (Nat.zero_le _) ⟨by decide, by decide⟩
  rw [show ((0 : Nat) : Int) = 0 from rfl] at this
  rw [this]
  generalize iter (fun s : Int × Int => digest_Of.l1 l s.1 s.2) (0, 1) = x at h
  cases x with
  | none => cases h
  | some v => rw [Option.bind_some] at h ⊢; unfold digest_Of.j1 at h; cases h; rfl

theorem Pair_pair {a b : Int} (ha : Dig a) (hb : Dig b) : digest_Pair a b = (digest_pair a b).bind fun y => some (y, ⟨0, 0⟩) := by
  unfold digest_Pair
  have s0 : digest_Pair.l1 a b 0 = some (.next 1) := by
    unfold digest_Pair.l1
    rw [ite_dec, if_pos (by decide), show at? [a, b] 0 = some a from rfl, Option.bind_some, is_eq ha, Option.bind_some, if_neg (by decide), ck_eq (by decide) (by decide), Option.bind_some]; rfl
  have s1 : digest_Pair.l1 a b 1 = some (.next 2) := by
    unfold digest_Pair.l1
    rw [ite_dec, if_pos (by decide), show at? [a, b] 1 = some b from rfl, Option.bind_some, is_eq hb, Option.bind_some, if_neg (by decide), ck_eq (by decide) (by decide), Option.bind_some]; rfl
  have s2 : digest_Pair.l1 a b 2 = some (.done (.inr ())) := by
    unfold digest_Pair.l1
    rw [ite_dec, if_neg (by decide)]
  rw [iter_next s0, iter_next s1, iter_done s2, Option.bind_some]; rfl

theorem DigestPair_f {a b r : Int} {f : Fault} (ha : Dig a) (hb : Dig b) (h : digest_Pair a b = some (r, f)) : changeforgeref1_DigestPair a b = some r := by
  rw [Pair_pair ha hb] at h
  obtain ⟨r1, a1, ⟨a2, a3⟩, a4⟩ := next_ref (z := 7) (f := 31) hb ⟨by decide, by decide⟩ (by decide)
  obtain ⟨r2, b1, ⟨b2, b3⟩, b4⟩ := next_ref (z := (r1 + 7) % 2305843009213693951) (f := 1000003) ha ⟨by omega, by omega⟩ (by decide)
  have e : digest_pair a b = some ((r2 + (r1 + 7) % 2305843009213693951) % 2305843009213693951) := by
    unfold digest_pair
    rw [a4, Option.bind_some, b4, Option.bind_some]
  rw [e, Option.bind_some] at h
  cases h
  unfold changeforgeref1_DigestPair
  rw [times_f ha (by decide) (by decide), b1, Option.bind_some, times_f hb (by decide) (by decide), a1, Option.bind_some, ck_eq (by omega) (by omega), Option.bind_some, ck_eq (by omega) (by omega), Option.bind_some, rem_nn (by omega) (by decide), Option.bind_some]
  congr 1
  omega

theorem lineR {s : ByteArray} (h : OkLine s) {k : Nat} (hk : k < 8) : ∃ d, changeforgeref1_DigestOf s.data.toList = some d ∧ changeforgeref1_DigestPair ((k + 1 : Nat) : Int) d = some (lineN k s) := by
  have hl : s.data.toList.length ≤ 4096 := by
    have h1 := h.1
    rw [Array.length_toList]
    show s.size ≤ 4096
    omega
  obtain ⟨d, h1, h2, h3⟩ := line_ok h
  exact ⟨d, DigestOf_f hl h1, DigestPair_f ⟨by omega, by omega⟩ h2 (h3 k hk)⟩

theorem Sketched_f {t : List ByteArray} (h : OkText t) : changeforgeref2_Sketched t = some (if t = [] then [] else nums t) := by
  have h120 := h.1
  unfold changeforgeref2_Sketched
  by_cases h0 : t = []
  · subst h0
    have e : changeforgeref2_Sketched.l1 [] 1 [] = some (.done []) := by
      unfold changeforgeref2_Sketched.l1
      rw [ite_dec, if_pos (by decide), Option.bind_some, ite_dec, if_neg (by decide)]
    rw [iter_done (m := fun s : Int × List Int => changeforgeref2_Sketched.l1 [] s.1 s.2) e, Option.bind_some, if_pos rfl]; rfl
  have hne : 0 < t.length := by cases t with | nil => exact absurd rfl h0 | cons _ _ => simp
  rw [if_neg h0]
  obtain ⟨r, e, rfl⟩ := inv_loopE (f := fun s => changeforgeref2_Sketched.l1 t s.1 s.2) 1 9 (by decide) (fun k s => s = (List.range (k - 1)).map fun i => textN i t) (fun r => r = nums t) (by
    rintro k s hk1 hk9 rfl
    left
    obtain ⟨m, rfl⟩ : ∃ m, k = m + 1 := ⟨k - 1, by omega⟩
    have hm : m < 8 := by omega
    refine ⟨_, ?_, rfl⟩
    obtain ⟨d, hd1, hd2⟩ := lineR (h.2 _ (List.getElem_mem hne)) hm
    obtain ⟨r, e, rfl⟩ := inv_loopE (f := fun s => changeforgeref2_Sketched.l2 t ((m + 1 : Nat) : Int) s.1 s.2) 1 t.length hne (fun j s => s = textN m (t.take j)) (fun r => r = textN m t) (by
      rintro j s hj1 hj2 rfl
      left
      refine ⟨_, ?_, rfl⟩
      obtain ⟨d, hd1, hd2⟩ := lineR (h.2 _ (List.getElem_mem hj2)) hm
      have hj4 : ∀ x, changeforgeref2_Sketched.j4 (j : Int) x = some (.next (((j + 1 : Nat) : Int), x)) := by
        intro x
        unfold changeforgeref2_Sketched.j4
        rw [ck_eq (by omega) (by omega), Option.bind_some]; rfl
      have hne2 : t.take j ≠ [] := by intro hh; have := congrArg List.length hh; rw [List.length_take, List.length_nil] at this; omega
      unfold changeforgeref2_Sketched.l2
      simp only
      rw [ite_dec, if_pos (by omega), at_nat hj2, Option.bind_some, hd1, Option.bind_some, hd2, Option.bind_some, ite_dec, hj4, hj4, List.take_succ_eq_append_getElem hj2, textN_append m _ _ hne2 (by simp)]
      rw [show textN m [t[j]] = lineN m t[j] from rfl]
      by_cases hc : lineN m t[j] < textN m (t.take j)
      · rw [if_pos hc, Int.min_eq_right (by omega)]
      · rw [if_neg hc, Int.min_eq_left (by omega)]) (by
      rintro s rfl
      unfold changeforgeref2_Sketched.l2
      simp only
      rw [ite_dec, if_neg (by omega), List.take_length]
      exact ⟨_, rfl, rfl⟩) (lineN m t[0]) (by
        rw [List.take_succ_eq_append_getElem hne, List.take_zero]; rfl)
    unfold changeforgeref2_Sketched.l1
    simp only
    rw [ite_dec, if_pos (by omega), Option.bind_some, ite_dec, if_pos (by omega), show at? t 0 = some t[0] from at_nat (k := 0) hne, Option.bind_some, hd1, Option.bind_some, hd2, Option.bind_some]
    rw [show (1 : Int) = ((1 : Nat) : Int) from rfl, e, Option.bind_some]
    unfold changeforgeref2_Sketched.j3
    rw [app_eq (by simp; omega), Option.bind_some]
    unfold changeforgeref2_Sketched.j2
    rw [ck_eq (by omega) (by omega), Option.bind_some]
    rw [show m + 1 + 1 - 1 = m + 1 from rfl, List.range_succ, List.map_append]
    rfl) (by
    rintro s rfl
    unfold changeforgeref2_Sketched.l1
    simp only
    rw [ite_dec, if_neg (by omega), Option.bind_some, if_neg Bool.false_ne_true]
    exact ⟨_, rfl, rfl⟩) [] rfl
  rw [show (1 : Int) = ((1 : Nat) : Int) from rfl, e, Option.bind_some]; rfl

/-! faults -/
def bothF (a b : List ByteArray) : Fault := if (textFault a).Code ≠ 0 then textFault a else if (textFault b).Code = 0 then ⟨0, 0⟩ else ⟨(textFault b).Code, -2⟩

theorem TwoFault_f (a b : List ByteArray) : changeforgeref1_TwoFault a b = some (bothF a b) := by
  unfold changeforgeref1_TwoFault changeforgeref1_At changeforgeref1_TwoFault.j1 bothF
  rw [linesFault_f, Option.bind_some, linesCode_f]
  by_cases h1 : (textFault a).Code = 0
  · have e1 := (textFault_zero a).2 h1
    by_cases h2 : (textFault b).Code = 0
    · simp [h1, h2, e1]
    · simp [h1, h2, e1]
  · simp [h1]

theorem Sketch_x (t : List ByteArray) : rename_Sketch t = some (if (textFault t).Code ≠ 0 then [] else if t = [] then [] else nums t, textFault t) := by
  by_cases h : (textFault t).Code = 0
  · rw [if_neg (fun hh => hh h)]
    obtain ⟨l, f, e, ⟨rfl, _, rfl⟩ | ⟨_, h2⟩⟩ := sketch_eq t
    · rw [e, (textFault_zero t).2 h]
    · exact absurd ((okText_iff t).2 ((textFault_zero t).2 h)) h2
  · unfold rename_Sketch
    rw [validate_f, Option.bind_some, if_pos h, if_pos (by simp [h])]

theorem Similarity_x (a b : List ByteArray) : rename_Similarity a b = some (if (bothF a b).Code ≠ 0 then 0 else simil a b, bothF a b) := by
  by_cases h : (bothF a b).Code = 0
  · rw [if_neg (fun hh => hh h)]
    have hab : OkText a ∧ OkText b ∧ bothF a b = ⟨0, 0⟩ := by
      unfold bothF at h ⊢
      by_cases h1 : (textFault a).Code = 0
      · rw [if_neg (fun hh => hh h1)] at h ⊢
        by_cases h2 : (textFault b).Code = 0
        · rw [if_pos h2]
          exact ⟨(okText_iff a).2 ((textFault_zero a).2 h1), (okText_iff b).2 ((textFault_zero b).2 h2), rfl⟩
        · rw [if_neg h2] at h; exact absurd h h2
      · rw [if_pos h1] at h; exact absurd h h1
    rw [sim_ok hab.1 hab.2.1, hab.2.2]
  · rw [if_pos h]
    unfold rename_Similarity diff_Distance
    rw [both_f, Option.bind_some, show (if (textFault a).Code ≠ 0 then textFault a else if (textFault b).Code = 0 then ⟨0, 0⟩ else ⟨(textFault b).Code, -2⟩) = bothF a b from rfl, if_pos (by simp [h]), Option.bind_some]
    simp only
    rw [if_pos (by simp [h])]
end Go.Dc
