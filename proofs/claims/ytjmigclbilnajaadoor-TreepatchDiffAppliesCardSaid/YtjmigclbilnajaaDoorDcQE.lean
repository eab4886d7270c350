/- The document's Commute: the same answer. -/
import Derived.Test.YtjmigclbilnajaaDoorDcQD
set_option linter.unusedSimpArgs false
namespace Go.Dc
open Go

def gsum : List Hunk → Int
  | [] => 0
  | h :: r => gr h + gsum r
theorem gsum_append : ∀ a b : List Hunk, gsum (a ++ b) = gsum a + gsum b
  | [], b => by simp [gsum]
  | h :: r, b => by rw [List.cons_append, gsum, gsum, gsum_append r b]; omega
theorem gsum_take {l : List Hunk} {k : Nat} (h : k < l.length) : gsum (l.take (k + 1)) = gsum (l.take k) + gr l[k] := by
  rw [List.take_succ_eq_append_getElem h, gsum_append]; simp [gsum]
theorem gsum_small : ∀ (l : List Hunk), (∀ h ∈ l, h.Old.length ≤ 120 ∧ h.New.length ≤ 120) → -(120 * (l.length : Int)) ≤ gsum l ∧ gsum l ≤ 120 * (l.length : Int)
  | [], _ => by simp [gsum]
  | h :: r, hs => by
    obtain ⟨i1, i2⟩ := gsum_small r (fun x hx => hs x (List.mem_cons_of_mem _ hx))
    obtain ⟨a, b⟩ := hs h (by simp)
    obtain ⟨g1, g2⟩ := gr_small a b
    rw [gsum, List.length_cons]; omega

theorem news_f {B : Int} (hB : B ≤ 20000) (p : Patch) (hp : Sm B p.Hunks) {i : Nat} (hi : i < p.Hunks.length) : changeforgeref1_news p (i : Int) = some (p.Hunks[i].At + gsum (p.Hunks.take i), p.Hunks[i].At + gsum (p.Hunks.take i) + p.Hunks[i].New.length) := by
  obtain ⟨hl, hs⟩ := hp
  have hsm : ∀ k (h : k < p.Hunks.length), SmH B p.Hunks[k] := fun k h => hs _ (List.getElem_mem h)
  have hgs : ∀ k, k ≤ p.Hunks.length → -(120 * (k : Int)) ≤ gsum (p.Hunks.take k) ∧ gsum (p.Hunks.take k) ≤ 120 * (k : Int) := by
    intro k hk
    have := gsum_small (p.Hunks.take k) (fun h hh => ⟨(hs h (List.mem_of_mem_take hh)).2.2.1, (hs h (List.mem_of_mem_take hh)).2.2.2⟩)
    rw [List.length_take, Nat.min_eq_left hk] at this
    exact this
  obtain ⟨c1, c2, c3, c4⟩ := hsm i hi
  have key : ∀ (n j : Nat), j + n = i → iter (fun s => changeforgeref1_news.l1 p (i : Int) s.1 s.2) ((j : Int), p.Hunks[i].At + gsum (p.Hunks.take j)) = some (p.Hunks[i].At + gsum (p.Hunks.take i)) := by
    intro n
    induction n with
    | zero =>
      intro j hj
      obtain rfl : j = i := by omega
      refine iter_done ?_
      simp only
      unfold changeforgeref1_news.l1
      rw [ite_dec, if_neg (by omega)]
    | succ n ih =>
      intro j hj
      have hjl : j < p.Hunks.length := by omega
      obtain ⟨b1, b2, b3, b4⟩ := hsm j hjl
      obtain ⟨g1, g2⟩ := gr_small b3 b4
      obtain ⟨s1, s2⟩ := hgs j (by omega)
      have e0 : changeforgeref1_news.l1 p (i : Int) (j : Int) (p.Hunks[i].At + gsum (p.Hunks.take j)) = some (.next (((j + 1 : Nat) : Int), p.Hunks[i].At + gsum (p.Hunks.take (j + 1)))) := by
        unfold changeforgeref1_news.l1
        rw [ite_dec, if_pos (by omega), at_nat hjl, Option.bind_some, rgrowth_f _ b3 b4, Option.bind_some, ck_eq (by omega) (by omega), Option.bind_some, ck_eq (by omega) (by omega), Option.bind_some, gsum_take hjl, Int.add_assoc]
        rfl
      rw [iter_next e0]
      exact ih (j + 1) (by omega)
  have k0 := key i 0 (by omega)
  rw [show gsum (p.Hunks.take 0) = 0 from rfl, Int.add_zero] at k0
  obtain ⟨s1, s2⟩ := hgs i (by omega)
  unfold changeforgeref1_news
  rw [at_nat hi, Option.bind_some, show (0 : Int) = ((0 : Nat) : Int) from rfl, k0, Option.bind_some]
  unfold changeforgeref1_news.j1
  rw [at_nat hi, Option.bind_some, ck_eq (by omega) (by omega), Option.bind_some]

theorem moved_f (h : Hunk) (n : Int) (h1 : -1000000 ≤ h.At + n) (h2 : h.At + n ≤ 1000000) : changeforgeref1_moved h n = some ⟨h.At + n, h.Old, h.New⟩ := by
  unfold changeforgeref1_moved
  rw [ck_eq (by omega) (by omega), Option.bind_some]

theorem meet_swap (a : List Range_commute) (l : List Hunk) : meetB a (l.map rng) = l.any fun h => a.any fun r => tch r (rng h) := by
  unfold meetB
  rw [Bool.eq_iff_iff]
  simp only [List.any_eq_true, List.mem_map]
  constructor
  · rintro ⟨x, hx, y, ⟨h, hh, rfl⟩, ht⟩; exact ⟨h, hh, x, hx, ht⟩
  · rintro ⟨h, hh, x, hx, ht⟩; exact ⟨x, hx, _, ⟨h, hh, rfl⟩, ht⟩

abbrev Cout : Patch × Patch × Bool × Fault := (⟨[]⟩, ⟨[]⟩, false, ⟨0, 0⟩)

theorem rcomm_inner {p q : Patch} (hp : Sm 120 p.Hunks) (hq : Sm 120 q.Hunks) {j : Nat} (hj : j < q.Hunks.length) : ∀ (rest : List Hunk) (k : Nat) (s acc : Int), p.Hunks.drop k = rest → gsum (p.Hunks.take k) = s → -(120 * (k : Int)) ≤ acc → acc ≤ 120 * (k : Int) →
    iter (fun s => changeforgeref1_Commute.l4 p q (j : Int) s.1 s.2) ((k : Int), acc) = some (if ((newR s rest).any fun r => tch r (rng q.Hunks[j])) = true then .inl Cout else .inr (acc + mvBy (newR s rest) (-1) q.Hunks[j])) := by
  obtain ⟨d1, d2, d3, d4⟩ := hq.2 _ (List.getElem_mem hj)
  intro rest
  induction rest with
  | nil =>
    intro k s acc hk _ _ _
    have := drop_end hk
    refine iter_done ?_
    simp only
    unfold changeforgeref1_Commute.l4
    rw [ite_dec, if_neg (by omega), newR, mvBy, Int.add_zero]; rfl
  | cons h r ih =>
    intro k s acc hk hs a1 a2
    obtain ⟨hlt, hh, hr⟩ := drop_at hk
    obtain ⟨b1, b2, b3, b4⟩ := hp.2 h (hh ▸ List.getElem_mem hlt)
    obtain ⟨g1, g2⟩ := gr_small b3 b4
    have hl := hp.1
    have hn := news_f (by omega) p hp hlt
    rw [hh, hs] at hn
    rw [newR, List.any_cons, mvBy]
    have ht : tch ⟨h.At + s, h.At + s + h.New.length, gr h⟩ (rng q.Hunks[j]) = (decide (h.At + s + h.New.length ≥ q.Hunks[j].At) && decide (q.Hunks[j].At + q.Hunks[j].Old.length ≥ h.At + s)) := rfl
    cases hT : tch ⟨h.At + s, h.At + s + h.New.length, gr h⟩ (rng q.Hunks[j]) with
    | true =>
      refine iter_done ?_
      simp only
      unfold changeforgeref1_Commute.l4
      rw [ite_dec, if_pos (by omega), hn, Option.bind_some, at_nat hj, Option.bind_some, Option.bind_some, rend_f _ (by omega) (by omega) (by omega), Option.bind_some, bool_and, Option.bind_some, ← ht, hT]; rfl
    | false =>
      have e0 : changeforgeref1_Commute.l4 p q (j : Int) (k : Int) acc = some (.next (((k + 1 : Nat) : Int), acc + (if h.At + s + h.New.length < q.Hunks[j].At then -1 * gr h else 0))) := by
        unfold changeforgeref1_Commute.l4
        rw [ite_dec, if_pos (by omega), hn, Option.bind_some, at_nat hj, Option.bind_some, Option.bind_some, rend_f _ (by omega) (by omega) (by omega), Option.bind_some, bool_and, Option.bind_some, ← ht, hT, if_neg (by decide), Option.bind_some, ite_dec]
        by_cases hc : h.At + s + h.New.length < q.Hunks[j].At
        · rw [if_pos hc, if_pos hc, at_nat hlt, Option.bind_some, hh, rgrowth_f h b3 b4, Option.bind_some, ck_eq (by omega) (by omega), Option.bind_some]
          unfold changeforgeref1_Commute.j8
          rw [ck_eq (by omega) (by omega), Option.bind_some, show acc - gr h = acc + -1 * gr h by omega]; rfl
        · rw [if_neg hc, if_neg hc]
          unfold changeforgeref1_Commute.j8
          rw [ck_eq (by omega) (by omega), Option.bind_some, Int.add_zero]; rfl
      rw [iter_next e0, ih (k + 1) (s + gr h) _ hr (by rw [gsum_take hlt, hs, hh]) (by split <;> omega) (by split <;> omega), Bool.false_or, Int.add_assoc]

theorem rcomm_f (p q : Patch) : changeforgeref1_Commute p q = some (commF p q) := by
  unfold changeforgeref1_Commute commF
  rw [rpair_f, Option.bind_some, ite_ndec]
  by_cases h0 : (pairF p q).Code ≠ 0
  · rw [if_neg h0, if_pos h0]
  · rw [if_pos (by omega), if_neg h0]
    obtain ⟨hp, hq⟩ := pairF_zero (p := p) (q := q) (by omega)
    have sp := sm_of hp
    have sq := sm_of hq
    have o1 : ∀ (rest : List Hunk) (k : Nat) (out : List Hunk), q.Hunks.drop k = rest → out.length = k →
        iter (fun s => changeforgeref1_Commute.l3 p q s.1 s.2) ((k : Int), out) = some (if (rest.any fun h => (newR 0 p.Hunks).any fun r => tch r (rng h)) = true then .inl Cout else .inr (out ++ rest.map (mv (newR 0 p.Hunks) (-1)))) := by
      intro rest
      induction rest with
      | nil =>
        intro k out hk _
        have := drop_end hk
        refine iter_done ?_
        simp only
        unfold changeforgeref1_Commute.l3
        rw [ite_dec, if_neg (by omega), List.map_nil, List.append_nil]; rfl
      | cons h r ih =>
        intro k out hk h3
        obtain ⟨hlt, hh, hr⟩ := drop_at hk
        obtain ⟨b1, b2, b3, b4⟩ := sq.2 h (hh ▸ List.getElem_mem hlt)
        have hl := sq.1
        have i0 := rcomm_inner sp sq hlt p.Hunks 0 0 0 rfl rfl (by omega) (by omega)
        rw [hh, Int.zero_add] at i0
        rw [List.any_cons]
        cases hT : ((newR 0 p.Hunks).any fun r => tch r (rng h)) with
        | true =>
          rw [hT] at i0
          refine iter_done ?_
          simp only
          unfold changeforgeref1_Commute.l3
          rw [ite_dec, if_pos (by omega), show ((0 : Int), (0 : Int)) = (((0 : Nat) : Int), (0 : Int)) from rfl, i0]; rfl
        | false =>
          rw [hT] at i0
          obtain ⟨m1, m2⟩ := mvBy_small (newR 0 p.Hunks) (-1) h (Or.inr rfl) (smR_new sp).2
          have := (smR_new sp).1
          have e0 : changeforgeref1_Commute.l3 p q (k : Int) out = some (.next (((k + 1 : Nat) : Int), out ++ [mv (newR 0 p.Hunks) (-1) h])) := by
            unfold changeforgeref1_Commute.l3
            rw [ite_dec, if_pos (by omega), show ((0 : Int), (0 : Int)) = (((0 : Nat) : Int), (0 : Int)) from rfl, i0]
            show changeforgeref1_Commute.j7 q (k : Int) out (mvBy (newR 0 p.Hunks) (-1) h) = _
            unfold changeforgeref1_Commute.j7
            rw [at_nat hlt, Option.bind_some, hh, moved_f h _ (by omega) (by omega), Option.bind_some, app_eq (by simp only [List.length_singleton]; omega), Option.bind_some]
            unfold changeforgeref1_Commute.j6
            rw [ck_eq (by omega) (by omega)]; rfl
          rw [iter_next e0, ih (k + 1) _ hr (by simp; omega), Bool.false_or, List.map_cons, List.append_assoc]; rfl
    rw [show (0 : Int) = ((0 : Nat) : Int) from rfl, o1 q.Hunks 0 [] rfl rfl, Option.bind_some, show (((0 : Nat) : Int)) = 0 from rfl, meet_swap]
    cases hm : (q.Hunks.any fun h => (newR 0 p.Hunks).any fun r => tch r (rng h)) with
    | true => rfl
    | false =>
      rw [if_neg (by decide), if_neg (by decide), List.nil_append]
      simp only
      have sq' : Sm 15720 (qOf p q).Hunks := sm_shift sq (smR_new sp) (Or.inr rfl)
      show changeforgeref1_Commute.j1 p (qOf p q).Hunks = _
      have i1 : ∀ (i : Nat) (hi : i < p.Hunks.length) (rest : List Hunk) (k : Nat) (acc : Int), (qOf p q).Hunks.drop k = rest → -(120 * (k : Int)) ≤ acc → acc ≤ 120 * (k : Int) →
          iter (fun s => changeforgeref1_Commute.l2 p (qOf p q).Hunks (i : Int) s.1 s.2) ((k : Int), acc) = some (acc + mvBy (rest.map rng) 1 p.Hunks[i]) := by
        intro i hi rest
        induction rest with
        | nil =>
          intro k acc hk _ _
          have := drop_end hk
          refine iter_done ?_
          simp only
          unfold changeforgeref1_Commute.l2
          rw [ite_dec, if_neg (by omega), List.map_nil, mvBy, Int.add_zero]
        | cons h r ih =>
          intro k acc hk a1 a2
          obtain ⟨hlt, hh, hr⟩ := drop_at hk
          obtain ⟨b1, b2, b3, b4⟩ := sq'.2 h (hh ▸ List.getElem_mem hlt)
          obtain ⟨g1, g2⟩ := gr_small b3 b4
          have hl := sq'.1
          have e0 : changeforgeref1_Commute.l2 p (qOf p q).Hunks (i : Int) (k : Int) acc = some (.next (((k + 1 : Nat) : Int), acc + (if h.At + (h.Old.length : Int) < p.Hunks[i].At then 1 * gr h else 0))) := by
            unfold changeforgeref1_Commute.l2
            rw [ite_dec, if_pos (by omega), at_nat hlt, Option.bind_some, hh, rend_f h (by omega) (by omega) (by omega), Option.bind_some, at_nat hi, Option.bind_some, ite_dec]
            by_cases hc : h.At + h.Old.length < p.Hunks[i].At
            · rw [if_pos hc, if_pos hc, Option.bind_some, rgrowth_f h b3 b4, Option.bind_some, ck_eq (by omega) (by omega), Option.bind_some]
              unfold changeforgeref1_Commute.j5
              rw [ck_eq (by omega) (by omega), Option.bind_some, Int.one_mul]; rfl
            · rw [if_neg hc, if_neg hc]
              unfold changeforgeref1_Commute.j5
              rw [ck_eq (by omega) (by omega), Option.bind_some, Int.add_zero]; rfl
          rw [iter_next e0, ih (k + 1) _ hr (by split <;> omega) (by split <;> omega), List.map_cons, mvBy]
          show some (acc + (if (rng h).High < p.Hunks[i].At then 1 * (rng h).Growth else 0) + mvBy (r.map rng) 1 p.Hunks[i]) = _
          rw [Int.add_assoc]
      have o2 : ∀ (rest : List Hunk) (k : Nat) (out : List Hunk), p.Hunks.drop k = rest → out.length = k →
          iter (fun s => changeforgeref1_Commute.l1 p (qOf p q).Hunks s.1 s.2) ((k : Int), out) = some (out ++ rest.map (mv ((qOf p q).Hunks.map rng) 1)) := by
        intro rest
        induction rest with
        | nil =>
          intro k out hk _
          have := drop_end hk
          refine iter_done ?_
          simp only
          unfold changeforgeref1_Commute.l1
          rw [ite_dec, if_neg (by omega), List.map_nil, List.append_nil]
        | cons h r ih =>
          intro k out hk h3
          obtain ⟨hlt, hh, hr⟩ := drop_at hk
          obtain ⟨b1, b2, b3, b4⟩ := sp.2 h (hh ▸ List.getElem_mem hlt)
          have hl := sp.1
          have i0 := i1 k hlt (qOf p q).Hunks 0 0 rfl (by omega) (by omega)
          rw [hh, Int.zero_add] at i0
          obtain ⟨m1, m2⟩ := mvBy_small ((qOf p q).Hunks.map rng) 1 h (Or.inl rfl) (smR_old sq').2
          have := (smR_old sq').1
          have e0 : changeforgeref1_Commute.l1 p (qOf p q).Hunks (k : Int) out = some (.next (((k + 1 : Nat) : Int), out ++ [mv ((qOf p q).Hunks.map rng) 1 h])) := by
            unfold changeforgeref1_Commute.l1
            rw [ite_dec, if_pos (by omega), show ((0 : Int), (0 : Int)) = (((0 : Nat) : Int), (0 : Int)) from rfl, i0, Option.bind_some]
            unfold changeforgeref1_Commute.j4
            rw [at_nat hlt, Option.bind_some, hh, moved_f h _ (by omega) (by omega), Option.bind_some, app_eq (by simp only [List.length_singleton]; omega), Option.bind_some]
            unfold changeforgeref1_Commute.j3
            rw [ck_eq (by omega) (by omega)]; rfl
          rw [iter_next e0, ih (k + 1) _ hr (by simp; omega), List.map_cons, List.append_assoc]; rfl
      unfold changeforgeref1_Commute.j1
      rw [show (0 : Int) = ((0 : Nat) : Int) from rfl, o2 p.Hunks 0 [] rfl rfl, Option.bind_some, List.nil_append]
      show changeforgeref1_Commute.j2 (qOf p q).Hunks (pOf p q).Hunks = _
      unfold changeforgeref1_Commute.j2
      rw [show ({ Hunks := (qOf p q).Hunks } : Patch) = qOf p q from rfl, show ({ Hunks := (pOf p q).Hunks } : Patch) = pOf p q from rfl]
      simp only [rpatchFault_f, rat_f, Option.bind_some]
      by_cases h1 : (patchFault (qOf p q)).Code = 0
      · by_cases h2 : (patchFault (pOf p q)).Code = 0
        · simp [h1, h2]
        · simp [h1, h2]
      · simp [h1]
end Go.Dc
