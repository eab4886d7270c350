/- The laws BlameOrigins and RenameSimilarityBounds: their functions answer yes. -/
import Derived.Test.YtnlleniemknjcaaDcPC
namespace Go.Dc
open Go

theorem follows_eq (x : ByteArray) (m : List ByteArray) (hm : m.length ≤ 1000000) (hx : x ∈ m) : changeforgelaw2_follows [x] m = some true := by
  unfold changeforgelaw2_follows
  obtain ⟨r, h1, h2⟩ := iter_rule (m := fun s : Int × Int => changeforgelaw2_follows.l1 [x] m s.1 s.2) (fun s => ∃ k : Nat, s.1 = (k : Int) ∧ k ≤ m.length ∧ ((s.2 = 0 ∧ x ∉ m.take k) ∨ (s.2 = 1 ∧ x ∈ m))) (fun s => m.length - s.1.toNat)
    (fun r => (r = 0 ∧ x ∉ m) ∨ (r = 1 ∧ x ∈ m)) (by
      rintro ⟨s, t⟩ ⟨k, hs, hk, hh⟩
      simp only at hs hh ⊢
      subst hs
      unfold changeforgelaw2_follows.l1
      rw [ite_dec]
      by_cases hlt : k < m.length
      · rw [if_pos (by omega), Option.bind_some, ite_dec]
        rcases hh with ⟨rfl, hh⟩ | ⟨rfl, hh⟩
        · rw [if_pos (by simp), at_nat hlt, Option.bind_some, show at? [x] 0 = some x from rfl, Option.bind_some, ite_dec]
          unfold changeforgelaw2_follows.j2
          by_cases he : m[k] = x
          · rw [if_pos he, ck_eq (by omega) (by omega), Option.bind_some, ck_eq (by omega) (by omega), Option.bind_some]
            exact .inl ⟨_, rfl, ⟨k + 1, by simp, hlt, .inr ⟨rfl, he ▸ List.getElem_mem hlt⟩⟩, by simp only; omega⟩
          · rw [if_neg he, ck_eq (by omega) (by omega), Option.bind_some]
            refine .inl ⟨_, rfl, ⟨k + 1, by simp, hlt, .inl ⟨rfl, ?_⟩⟩, by simp only; omega⟩
            rw [List.take_succ_eq_append_getElem hlt]
            intro h
            rcases List.mem_append.1 h with h | h
            · exact hh h
            · exact he (List.mem_singleton.1 h).symm
        · rw [if_neg (by simp)]
          exact .inr ⟨1, rfl, .inr ⟨rfl, hh⟩⟩
      · rw [if_neg (by omega), Option.bind_some]
        rw [if_neg (by simp)]
        refine .inr ⟨t, rfl, ?_⟩
        rcases hh with ⟨rfl, hh⟩ | ⟨rfl, hh⟩
        · rw [List.take_of_length_le (by omega)] at hh
          exact .inl ⟨rfl, hh⟩
        · exact .inr ⟨rfl, hh⟩) (0, 0) ⟨0, rfl, Nat.zero_le _, .inl ⟨rfl, by simp⟩⟩
  rw [h1, Option.bind_some]
  unfold changeforgelaw2_follows.j1
  rcases h2 with ⟨rfl, h⟩ | ⟨rfl, h⟩
  · exact absurd hx h
  · rfl

theorem origins_eq (vs : List (List ByteArray)) : changeforgelaw2_BlameOrigins vs = some true := by
  obtain ⟨os, f, h1, h2⟩ := annotate_eq vs
  unfold changeforgelaw2_BlameOrigins
  rw [h1, Option.bind_some]
  simp only [ite_ndec]
  rcases h2 with ⟨rfl, rfl, hok⟩ | ⟨h2, h3⟩
  · have h16 := hok.1
    simp only [if_true]
    by_cases h0 : vs.length = 0
    · simp [h0, added_eq]
    · have hlast : vs.length - 1 < vs.length := by omega
      have hne : vs ≠ [] := by intro h; simp [h] at h0
      have hgl : vs.getLast hne = vs[vs.length - 1] := List.getLast_eq_getElem hne
      have hall := annot_stays vs.length vs hne rfl
      rw [hgl] at hall
      have hlen := hall.length
      have h120 := (hok.2 _ (List.getElem_mem hlast)).1
      rw [decide_eq_false (by omega)]
      simp only [Option.bind_some, Bool.false_eq_true, if_false]
      rw [ck_eq (by omega) (by omega), Option.bind_some, show (vs.length : Int) - 1 = ((vs.length - 1 : Nat) : Int) from by omega, at_nat hlast, Option.bind_some, if_pos (by omega)]
      have main : iter (fun s => changeforgelaw2_BlameOrigins.l1 vs (annot vs, ⟨0, 0⟩) vs[vs.length - 1] s) 0 = some (Sum.inr ()) := by
        refine iter_eq_of (fun s => ∃ k : Nat, s = (k : Int) ∧ k ≤ (annot vs).length) (fun s => (annot vs).length - s.toNat) _ ?_ _ ⟨0, rfl, Nat.zero_le _⟩
        rintro s ⟨k, rfl, hk⟩
        unfold changeforgelaw2_BlameOrigins.l1
        simp only [ite_dec]
        by_cases hlt : k < (annot vs).length
        · left
          have hst := hall.get k hlt (by omega)
          rw [if_pos (by omega), at_nat hlt]
          simp only [Option.bind_some]
          have hs1 := hst.1
          have hs2 := hst.2.1
          rw [if_neg (by omega), Option.bind_some, decide_eq_false (by omega)]
          simp only [Bool.false_eq_true, if_false]
          obtain ⟨o, ho⟩ : ∃ o : Nat, (annot vs)[k] = (o : Int) := ⟨((annot vs)[k]).toNat, by omega⟩
          have inner : iter (fun s => changeforgelaw2_BlameOrigins.l2 vs vs[vs.length - 1] (k : Int) s) ((annot vs)[k]) = some (Sum.inr ()) := by
            refine iter_eq_of (fun s => ∃ q : Nat, s = (q : Int) ∧ (annot vs)[k] ≤ q ∧ q ≤ vs.length) (fun s => vs.length - s.toNat) _ ?_ _ ⟨o, ho, by omega, by omega⟩
            rintro s ⟨q, rfl, hq, hq2⟩
            unfold changeforgelaw2_BlameOrigins.l2
            rw [ite_dec]
            by_cases hql : q < vs.length
            · left
              have hkl : k < vs[vs.length - 1].length := by omega
              have hq120 := (hok.2 _ (List.getElem_mem hql)).1
              rw [if_pos (by omega), ck_eq (by omega) (by omega), Option.bind_some, cut_eq (by omega) (by omega) (by omega), Option.bind_some, at_nat hql, Option.bind_some]
              have hcut : ((vs[vs.length - 1]).take ((k : Int) + 1).toNat).drop (k : Int).toNat = [vs[vs.length - 1][k]] := by
                rw [show ((k : Int) + 1).toNat = k + 1 from by omega, Int.toNat_natCast, List.take_succ_eq_append_getElem hkl, List.drop_append_of_le_length (by rw [List.length_take]; omega), List.drop_eq_nil_of_le (by rw [List.length_take]; omega), List.nil_append]
              have hmem : vs[vs.length - 1][k] ∈ vs[q] := hst.2.2 q hq _ (List.getElem?_eq_getElem hql)
              rw [hcut, follows_eq _ _ (by omega) hmem, Option.bind_some]
              simp only [Bool.not_true, Bool.false_eq_true, if_false]
              rw [ck_eq (by omega) (by omega), Option.bind_some]
              exact ⟨_, rfl, ⟨q + 1, by simp, by omega, hql⟩, by omega⟩
            · right
              rw [if_neg (by omega)]
          rw [inner, Option.bind_some]
          simp only
          unfold changeforgelaw2_BlameOrigins.j3 changeforgelaw2_BlameOrigins.j2
          rw [ck_eq (by omega) (by omega), Option.bind_some]
          exact ⟨_, rfl, ⟨k + 1, by simp, hlt⟩, by omega⟩
        · right
          rw [if_neg (by omega)]
      rw [main, Option.bind_some]
      simp only
      unfold changeforgelaw2_BlameOrigins.j1
      rw [added_eq, Option.bind_some]
  · rw [if_neg h2]
    simp [added_eq]

/-! the distance -/
/-- how many steps do not keep -/
def nz : List Int → Nat
  | [] => 0
  | s :: ss => if s = 0 then nz ss else nz ss + 1

theorem nz_le : ∀ l, nz l ≤ l.length
  | [] => by simp [nz]
  | s :: ss => by have := nz_le ss; simp only [nz, List.length_cons]; split <;> omega

theorem nz_append : ∀ l r, nz (l ++ r) = nz l + nz r
  | [], r => by simp [nz]
  | s :: l, r => by simp only [List.cons_append, nz, nz_append l r]; split <;> omega

theorem algn_nz : ∀ a b : List ByteArray, nz (algn a b) + 2 * lcs a b = a.length + b.length
  | [], [] => by simp [algn, nz, lcs]
  | [], _ :: b => by have := algn_nz [] b; simp [algn, nz, lcs] at *; omega
  | _ :: a, [] => by have := algn_nz a []; simp [algn, nz, lcs_nil_r] at *; omega
  | x :: a, y :: b => by
    have h1 := algn_nz a b
    have h2 := algn_nz a (y :: b)
    have h3 := algn_nz (x :: a) b
    rw [algn, lcs_cons]
    simp only [List.length_cons] at *
    split
    · rw [nz, if_pos rfl]; omega
    · split
      · rw [nz, if_neg (by decide)]; omega
      · rw [nz, if_neg (by decide)]; omega
 termination_by a b => a.length + b.length

theorem lcs_comm : ∀ a b : List ByteArray, lcs a b = lcs b a
  | [], b => by rw [lcs_nil_l, lcs_nil_r]
  | _ :: _, [] => by rw [lcs_nil_l, lcs_nil_r]
  | x :: a, y :: b => by
    rw [lcs_cons, lcs_cons, lcs_comm a b, lcs_comm a (y :: b), lcs_comm (x :: a) b]
    by_cases h : x = y
    · subst h; simp
    · rw [if_neg h, if_neg (fun e => h e.symm), Nat.max_comm]
 termination_by a b => a.length + b.length

theorem lcs_self : ∀ a : List ByteArray, lcs a a = a.length
  | [] => by simp [lcs]
  | x :: a => by rw [lcs_cons, if_pos rfl, lcs_self a]; rfl

theorem lcs_full : ∀ a b : List ByteArray, lcs a b = a.length → lcs a b = b.length → a = b
  | [], [], _, _ => rfl
  | [], _ :: _, _, h => by simp [lcs] at h
  | _ :: _, [], h, _ => by simp [lcs] at h
  | x :: a, y :: b, h1, h2 => by
    rw [lcs_cons] at h1 h2
    have l2 := lcs_le a (y :: b)
    have l3 := lcs_le (x :: a) b
    simp only [List.length_cons] at *
    split at h1
    · rename_i he
      subst he
      simp only [if_true] at h2
      rw [lcs_full a b (by omega) (by omega)]
    · rename_i he
      rw [if_neg he] at h2
      omega

theorem distance_eq (a b : List ByteArray) : ∃ v f, diff_Distance a b = some (v, f) ∧ ((f = ⟨0, 0⟩ ∧ OkText a ∧ OkText b ∧ v + 2 * (lcs a b : Int) = a.length + b.length) ∨ (f.Code ≠ 0 ∧ ¬ (OkText a ∧ OkText b))) := by
  obtain ⟨f, h1, h2⟩ := both_eq a b
  unfold diff_Distance
  rw [h1, Option.bind_some]
  rcases h2 with ⟨rfl, ha, hb⟩ | ⟨h2, h3⟩
  · rw [if_neg (by simp), align_eq (okText_small ha hb), Option.bind_some]
    have hl := algn_len a b
    have l1 := ha.1
    have l2 := hb.1
    have main : iter (fun s => diff_Distance.l1 (algn a b) s.1 s.2) (0, 0) = some ((nz (algn a b) : Nat) : Int) := by
      refine iter_eq_of (σ := Int × Int) (fun s => ∃ k : Nat, s.1 = (k : Int) ∧ k ≤ (algn a b).length ∧ s.2 = ((nz ((algn a b).take k) : Nat) : Int)) (fun s => (algn a b).length - s.1.toNat) _ ?_ _ ⟨0, rfl, Nat.zero_le _, by simp [nz]⟩
      rintro ⟨s, t⟩ ⟨k, hs, hk, ht⟩
      simp only at hs ht ⊢
      subst hs; subst ht
      unfold diff_Distance.l1
      rw [ite_dec]
      by_cases hlt : k < (algn a b).length
      · left
        rw [if_pos (by omega), at_nat hlt, Option.bind_some, ite_ndec]
        have hn := nz_le ((algn a b).take k)
        rw [List.length_take] at hn
        have e : nz ((algn a b).take (k + 1)) = nz ((algn a b).take k) + (if (algn a b)[k] = 0 then 0 else 1) := by
          rw [List.take_succ_eq_append_getElem hlt, nz_append]
          simp only [nz]
        unfold diff_Distance.j2
        by_cases h0 : (algn a b)[k] = 0
        · rw [if_pos h0, ck_eq (by omega) (by omega), Option.bind_some]
          rw [if_pos h0] at e
          exact ⟨_, rfl, ⟨k + 1, by simp, hlt, by rw [e]; rfl⟩, by simp only; omega⟩
        · rw [if_neg h0, ck_eq (by omega) (by omega), Option.bind_some, ck_eq (by omega) (by omega), Option.bind_some]
          rw [if_neg h0] at e
          exact ⟨_, rfl, ⟨k + 1, by simp, hlt, by rw [e]; simp⟩, by simp only; omega⟩
      · right
        rw [if_neg (by omega), List.take_of_length_le (by omega)]
    rw [main, Option.bind_some]
    unfold diff_Distance.j1
    have := algn_nz a b
    exact ⟨_, _, rfl, .inl ⟨rfl, ha, hb, by omega⟩⟩
  · rw [if_pos (faultless.2 (fun h => h2 h.1))]
    exact ⟨_, _, rfl, .inr ⟨h2, h3⟩⟩

/-- the similarity, as a number -/
def simil (a b : List ByteArray) : Int := if a.length + b.length = 0 then 100 else ((200 * lcs a b / (a.length + b.length) : Nat) : Int)

theorem similarity_eq (a b : List ByteArray) : ∃ v f, rename_Similarity a b = some (v, f) ∧ ((f = ⟨0, 0⟩ ∧ OkText a ∧ OkText b ∧ v = simil a b) ∨ (f.Code ≠ 0 ∧ ¬ (OkText a ∧ OkText b))) := by
  obtain ⟨d, f, h1, h2⟩ := distance_eq a b
  unfold rename_Similarity
  rw [h1, Option.bind_some]
  simp only
  rcases h2 with ⟨rfl, ha, hb, hd⟩ | ⟨h2, h3⟩
  · have l1 := ha.1
    have l2 := hb.1
    have l3 := (lcs_le a b).1
    rw [if_neg (by simp), ck_eq (by omega) (by omega), Option.bind_some, ite_dec]
    unfold simil
    by_cases h0 : a.length + b.length = 0
    · rw [if_pos (by omega), if_pos h0]
      exact ⟨_, _, rfl, .inl ⟨rfl, ha, hb, rfl⟩⟩
    · rw [if_neg (by omega), if_neg h0, ck_eq (by omega) (by omega), Option.bind_some, ck_eq (by omega) (by omega), Option.bind_some]
      have e1 : 100 * ((a.length : Int) + (b.length : Int) - d) = ((200 * lcs a b : Nat) : Int) := by omega
      have e2 : (a.length : Int) + (b.length : Int) = ((a.length + b.length : Nat) : Int) := by omega
      rw [e1, e2]
      unfold quo?
      have hq : (((200 * lcs a b : Nat) : Int)).tdiv ((a.length + b.length : Nat) : Int) = ((200 * lcs a b / (a.length + b.length) : Nat) : Int) := by
        rw [Int.tdiv_eq_ediv_of_nonneg (Int.natCast_nonneg _)]; rfl
      have hle : 200 * lcs a b / (a.length + b.length) ≤ 200 * lcs a b := Nat.div_le_self _ _
      rw [if_neg (by omega), hq]
      generalize 200 * lcs a b / (a.length + b.length) = qq at hle ⊢
      rw [ck_eq (by omega) (by omega), Option.bind_some]
      exact ⟨_, _, rfl, .inl ⟨rfl, ha, hb, rfl⟩⟩
  · rw [if_pos (faultless.2 (fun h => h2 h.1))]
    exact ⟨_, _, rfl, .inr ⟨h2, h3⟩⟩

theorem simil_comm (a b : List ByteArray) : simil a b = simil b a := by
  unfold simil
  rw [lcs_comm a b, Nat.add_comm a.length b.length]

theorem simil_bounds (a b : List ByteArray) : 0 ≤ simil a b ∧ simil a b ≤ 100 ∧ (simil a b = 100 ↔ a = b) := by
  have l := lcs_le a b
  unfold simil
  by_cases h0 : a.length + b.length = 0
  · rw [if_pos h0]
    refine ⟨by omega, by omega, fun _ => ?_, fun _ => rfl⟩
    rw [List.eq_nil_of_length_eq_zero (show a.length = 0 by omega), List.eq_nil_of_length_eq_zero (show b.length = 0 by omega)]
  · rw [if_neg h0]
    have hle : 200 * lcs a b / (a.length + b.length) ≤ 100 := by
      apply Nat.le_of_lt_succ
      rw [Nat.div_lt_iff_lt_mul (by omega)]
      omega
    refine ⟨Int.natCast_nonneg _, Int.ofNat_le.2 hle, fun h => ?_, fun h => ?_⟩
    · have : 100 ≤ 200 * lcs a b / (a.length + b.length) := Nat.le_of_eq (Int.ofNat.inj h).symm
      rw [Nat.le_div_iff_mul_le (by omega)] at this
      exact lcs_full a b (by omega) (by omega)
    · subst h
      rw [lcs_self]
      have : 200 * a.length / (a.length + a.length) = 100 := by
        rw [show 200 * a.length = 100 * (a.length + a.length) from by omega]
        exact Nat.mul_div_cancel _ (by omega)
      rw [this]
      rfl

theorem half_eq : changeforgelaw2_half = some true := by
  have hx : OkLine (⟨#[120]⟩ : ByteArray) := ⟨by decide, by decide⟩
  have hy : OkLine (⟨#[121]⟩ : ByteArray) := ⟨by decide, by decide⟩
  have hz : OkLine (⟨#[122]⟩ : ByteArray) := ⟨by decide, by decide⟩
  have ok1 : OkText [(⟨#[120]⟩ : ByteArray), (⟨#[121]⟩ : ByteArray)] := by
    refine ⟨by simp, fun s hs => ?_⟩
    simp only [List.mem_cons, List.not_mem_nil, or_false] at hs
    rcases hs with rfl | rfl
    · exact hx
    · exact hy
  have ok2 : OkText [(⟨#[121]⟩ : ByteArray), (⟨#[122]⟩ : ByteArray)] := by
    refine ⟨by simp, fun s hs => ?_⟩
    simp only [List.mem_cons, List.not_mem_nil, or_false] at hs
    rcases hs with rfl | rfl
    · exact hy
    · exact hz
  obtain ⟨v, f, h1, h2⟩ := similarity_eq [(⟨#[120]⟩ : ByteArray), (⟨#[121]⟩ : ByteArray)] [(⟨#[121]⟩ : ByteArray), (⟨#[122]⟩ : ByteArray)]
  unfold changeforgelaw2_half
  rw [h1, Option.bind_some]
  rcases h2 with ⟨rfl, _, _, rfl⟩ | ⟨_, h3⟩
  · have n1 : (⟨#[120]⟩ : ByteArray) ≠ (⟨#[121]⟩ : ByteArray) := by decide
    have n2 : (⟨#[120]⟩ : ByteArray) ≠ (⟨#[122]⟩ : ByteArray) := by decide
    have n3 : (⟨#[121]⟩ : ByteArray) ≠ (⟨#[122]⟩ : ByteArray) := by decide
    simp [simil, lcs, n1, n2, n3]
  · exact absurd ⟨ok1, ok2⟩ h3

/-- RenameSimilarityBounds: the law's function answers yes -/
theorem bounds_eq (a b : List ByteArray) : changeforgelaw2_RenameSimilarityBounds a b = some true := by
  obtain ⟨v, f, h1, h2⟩ := similarity_eq a b
  obtain ⟨v', f', h3, h4⟩ := similarity_eq b a
  unfold changeforgelaw2_RenameSimilarityBounds
  rw [h1, Option.bind_some, h3, Option.bind_some, half_eq]
  simp only [ite_ndec, ite_dec]
  rcases h2 with ⟨rfl, ha, hb, rfl⟩ | ⟨h2, h2'⟩
  · rcases h4 with ⟨rfl, _, _, rfl⟩ | ⟨h4, h4'⟩
    · obtain ⟨s1, s2, s3⟩ := simil_bounds a b
      have l1 := ha.1
      rw [strings_eq a b (by omega), ← simil_comm a b]
      by_cases he : a = b
      · subst he
        simp [s3.2 rfl]
      · have : simil a b ≠ 100 := fun h => he (s3.1 h)
        simp [he, s1, s2, this]
    · simp [h4]
  · simp [h2]

end Go.Dc
