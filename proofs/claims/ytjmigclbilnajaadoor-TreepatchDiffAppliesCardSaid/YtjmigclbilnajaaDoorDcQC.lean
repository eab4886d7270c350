/- Moving two patches past one another: the ranges, the shift, and the program's answer; the document's is the same. -/
import Derived.Test.YtjmigclbilnajaaDoorDcQB
import Derived.Test.YtjmigclbilnajaaDoorDcL
set_option linter.unusedSimpArgs false
namespace Go.Dc
open Go

theorem bool_or {p : Prop} [Decidable p] {b : Bool} : (if decide p = true then some true else some b) = some (decide p || b) := by
  by_cases h : p <;> simp [h]
theorem bool_and {p : Prop} [Decidable p] {b : Bool} : (if decide p = true then some b else some false) = some (decide p && b) := by
  by_cases h : p <;> simp [h]

def gr (h : Hunk) : Int := (h.New.length : Int) - h.Old.length
def rng (h : Hunk) : Range_commute := ⟨h.At, h.At + h.Old.length, gr h⟩
def newR : Int → List Hunk → List Range_commute
  | _, [] => []
  | s, h :: r => ⟨h.At + s, h.At + s + h.New.length, gr h⟩ :: newR (s + gr h) r
def tch (a b : Range_commute) : Bool := decide (a.High ≥ b.Low) && decide (b.High ≥ a.Low)
def meetB (a b : List Range_commute) : Bool := a.any fun x => b.any fun y => tch x y
def mvBy : List Range_commute → Int → Hunk → Int
  | [], _, _ => 0
  | r :: l, s, h => (if r.High < h.At then s * r.Growth else 0) + mvBy l s h
def mv (rs : List Range_commute) (s : Int) (h : Hunk) : Hunk := ⟨h.At + mvBy rs s h, h.Old, h.New⟩
def shiftP (p : Patch) (rs : List Range_commute) (s : Int) : Patch := ⟨p.Hunks.map (mv rs s)⟩

/-- a hunk of small numbers -/
def SmH (B : Int) (h : Hunk) : Prop := -B ≤ h.At ∧ h.At ≤ B ∧ h.Old.length ≤ 120 ∧ h.New.length ≤ 120
def Sm (B : Int) (l : List Hunk) : Prop := l.length ≤ 130 ∧ ∀ h ∈ l, SmH B h

theorem sm_of {p : Patch} (h : (patchFault p).Code = 0) : Sm 120 p.Hunks := by
  obtain ⟨h1, h2⟩ := (patchFault_good p).1 h
  refine ⟨h1, fun x hx => ?_⟩
  obtain ⟨a1, a2, a3, a4, _⟩ := good_at h2 (by omega) x hx
  exact ⟨by omega, by omega, textFault_len a3, textFault_len a4⟩

theorem newR_len : ∀ (l : List Hunk) (s : Int), (newR s l).length = l.length
  | [], _ => rfl
  | h :: r, s => by simp [newR, newR_len r]

theorem growth_f (h : Hunk) (h1 : h.Old.length ≤ 120) (h2 : h.New.length ≤ 120) : textpatch_Growth h = some (gr h) := by
  unfold textpatch_Growth; rw [ck_eq (by omega) (by omega)]; rfl
theorem rgrowth_f (h : Hunk) (h1 : h.Old.length ≤ 120) (h2 : h.New.length ≤ 120) : changeforgeref1_Growth h = some (gr h) := by
  unfold changeforgeref1_Growth; rw [ck_eq (by omega) (by omega)]; rfl
theorem rend_f (h : Hunk) (h0 : -1000000 ≤ h.At) (h1 : h.At ≤ 1000000) (h2 : h.Old.length ≤ 1000000) : changeforgeref1_End h = some (h.At + h.Old.length) := by
  unfold changeforgeref1_End; rw [ck_eq (by omega) (by omega)]; rfl
theorem gr_small {h : Hunk} (h1 : h.Old.length ≤ 120) (h2 : h.New.length ≤ 120) : -120 ≤ gr h ∧ gr h ≤ 120 := by unfold gr; omega

theorem newRanges_f {B : Int} (hB : B ≤ 20000) (p : Patch) (hp : Sm B p.Hunks) : commute_newRanges p = some (newR 0 p.Hunks) := by
  obtain ⟨hl, hs⟩ := hp
  have key : ∀ (rest : List Hunk) (k : Nat) (s : Int) (out : List Range_commute), p.Hunks.drop k = rest → -(120 * (k : Int)) ≤ s → s ≤ 120 * k → out.length = k → iter (fun s => commute_newRanges.l1 p s.1 s.2.1 s.2.2) ((k : Int), s, out) = some (out ++ newR s rest) := by
    intro rest
    induction rest with
    | nil =>
      intro k s out hk _ _ _
      have := drop_end hk
      refine iter_done ?_
      simp only
      unfold commute_newRanges.l1
      rw [ite_dec, if_neg (by omega), newR, List.append_nil]
    | cons h r ih =>
      intro k s out hk h1 h2 h3
      obtain ⟨hlt, hh, hr⟩ := drop_at hk
      obtain ⟨b1, b2, b3, b4⟩ := hs h (hh ▸ List.getElem_mem hlt)
      obtain ⟨g1, g2⟩ := gr_small b3 b4
      have e0 : commute_newRanges.l1 p (k : Int) s out = some (.next (((k + 1 : Nat) : Int), s + gr h, out ++ [⟨h.At + s, h.At + s + h.New.length, gr h⟩])) := by
        unfold commute_newRanges.l1
        rw [ite_dec, if_pos (by omega), at_nat hlt, Option.bind_some, hh, ck_eq (by omega) (by omega), Option.bind_some, ck_eq (by omega) (by omega), Option.bind_some, growth_f h b3 b4, Option.bind_some,
          app_eq (by simp only [List.length_singleton]; omega), Option.bind_some, Option.bind_some, ck_eq (by omega) (by omega), Option.bind_some, ck_eq (by omega) (by omega), Option.bind_some]
        rfl
      rw [iter_next e0, ih (k + 1) _ _ hr (by omega) (by omega) (by simp; omega), newR, List.append_assoc]
      rfl
  unfold commute_newRanges
  rw [show (0 : Int) = ((0 : Nat) : Int) from rfl, key p.Hunks 0 ((0 : Nat) : Int) [] rfl (by omega) (by omega) rfl, Option.bind_some]
  rfl

theorem oldRanges_f {B : Int} (hB : B ≤ 20000) (p : Patch) (hp : Sm B p.Hunks) : commute_OldRanges p = some (p.Hunks.map rng) := by
  obtain ⟨hl, hs⟩ := hp
  have key : ∀ (rest : List Hunk) (k : Nat) (out : List Range_commute), p.Hunks.drop k = rest → out.length = k → iter (fun s => commute_OldRanges.l1 p s.1 s.2) ((k : Int), out) = some (out ++ rest.map rng) := by
    intro rest
    induction rest with
    | nil =>
      intro k out hk _
      have := drop_end hk
      refine iter_done ?_
      simp only
      unfold commute_OldRanges.l1
      rw [ite_dec, if_neg (by omega), List.map_nil, List.append_nil]
    | cons h r ih =>
      intro k out hk h3
      obtain ⟨hlt, hh, hr⟩ := drop_at hk
      obtain ⟨b1, b2, b3, b4⟩ := hs h (hh ▸ List.getElem_mem hlt)
      have e0 : commute_OldRanges.l1 p (k : Int) out = some (.next (((k + 1 : Nat) : Int), out ++ [rng h])) := by
        unfold commute_OldRanges.l1
        rw [ite_dec, if_pos (by omega), at_nat hlt, Option.bind_some, hh, end_f h (by omega) (by omega) (by omega), Option.bind_some, growth_f h b3 b4, Option.bind_some,
          app_eq (by simp only [List.length_singleton]; omega), Option.bind_some, ck_eq (by omega) (by omega), Option.bind_some]
        rfl
      rw [iter_next e0, ih (k + 1) _ hr (by simp; omega), List.map_cons, List.append_assoc]
      rfl
  unfold commute_OldRanges
  rw [show (0 : Int) = ((0 : Nat) : Int) from rfl, key p.Hunks 0 [] rfl rfl, Option.bind_some]
  rfl

theorem touch_f (a b : Range_commute) : commute_Touch a b = some (tch a b) := by
  unfold commute_Touch tch
  rw [bool_and, Option.bind_some]

theorem meet_f (a b : List Range_commute) (ha : a.length ≤ 1000) (hb : b.length ≤ 1000) : commute_meet a b = some (meetB a b) := by
  have inner : ∀ (x : Range_commute) (rest : List Range_commute) (k : Nat), b.drop k = rest → iter (fun s => commute_meet.l2 b x s) (k : Int) = some (if (rest.any fun y => tch x y) = true then .inl true else .inr ()) := by
    intro x rest
    induction rest with
    | nil =>
      intro k hk
      have := drop_end hk
      refine iter_done ?_
      unfold commute_meet.l2
      rw [ite_dec, if_neg (by omega)]; rfl
    | cons y r ih =>
      intro k hk
      obtain ⟨hlt, hh, hr⟩ := drop_at hk
      rw [List.any_cons]
      cases ht : tch x y with
      | true =>
        refine iter_done ?_
        unfold commute_meet.l2
        rw [ite_dec, if_pos (by omega), at_nat hlt, Option.bind_some, hh, touch_f, Option.bind_some, ht]; rfl
      | false =>
        have e0 : commute_meet.l2 b x (k : Int) = some (.next ((k + 1 : Nat) : Int)) := by
          unfold commute_meet.l2
          rw [ite_dec, if_pos (by omega), at_nat hlt, Option.bind_some, hh, touch_f, Option.bind_some, ht, ck_eq (by omega) (by omega), Option.bind_some]; rfl
        rw [iter_next e0, ih (k + 1) hr]; rfl
  have outer : ∀ (rest : List Range_commute) (k : Nat), a.drop k = rest → iter (fun s => commute_meet.l1 a b s) (k : Int) = some (if (meetB rest b) = true then .inl true else .inr ()) := by
    intro rest
    induction rest with
    | nil =>
      intro k hk
      have := drop_end hk
      refine iter_done ?_
      unfold commute_meet.l1
      rw [ite_dec, if_neg (by omega)]; rfl
    | cons x r ih =>
      intro k hk
      obtain ⟨hlt, hh, hr⟩ := drop_at hk
      have hm : meetB (x :: r) b = ((b.any fun y => tch x y) || meetB r b) := rfl
      rw [hm]
      have i0 := inner x b 0 rfl
      cases ht : (b.any fun y => tch x y) with
      | true =>
        rw [ht] at i0
        refine iter_done ?_
        unfold commute_meet.l1
        rw [ite_dec, if_pos (by omega), at_nat hlt, Option.bind_some, hh, show (0 : Int) = ((0 : Nat) : Int) from rfl, i0]; rfl
      | false =>
        rw [ht] at i0
        have e0 : commute_meet.l1 a b (k : Int) = some (.next ((k + 1 : Nat) : Int)) := by
          unfold commute_meet.l1
          rw [ite_dec, if_pos (by omega), at_nat hlt, Option.bind_some, hh, show (0 : Int) = ((0 : Nat) : Int) from rfl, i0]
          show commute_meet.j3 (k : Int) = _
          unfold commute_meet.j3 commute_meet.j2
          rw [ck_eq (by omega) (by omega)]; rfl
        rw [iter_next e0, ih (k + 1) hr]; rfl
  unfold commute_meet
  rw [show (0 : Int) = ((0 : Nat) : Int) from rfl, outer a 0 rfl, Option.bind_some]
  cases meetB a b <;> rfl

theorem clone_f (l : List ByteArray) (h : l.length ≤ 1000000) : slices_Clone l = some l := by
  unfold slices_Clone
  have e : ((app? 16 ([] : List ByteArray) l).bind fun y1 => some y1) = some l := by
    rw [app_eq (by simp only [List.length_nil]; omega)]; rfl
  rw [e, nilIf_same (fun h => by rw [h])]

theorem copy_f {B : Int} (p : Patch) (hp : Sm B p.Hunks) : textpatch_Copy p = some p := by
  obtain ⟨hl, hs⟩ := hp
  have key : ∀ (rest : List Hunk) (k : Nat) (out : List Hunk), p.Hunks.drop k = rest → out.length = k → iter (fun s => textpatch_Copy.l1 p s.1 s.2) ((k : Int), out) = some (out ++ rest) := by
    intro rest
    induction rest with
    | nil =>
      intro k out hk _
      have := drop_end hk
      refine iter_done ?_
      simp only
      unfold textpatch_Copy.l1
      rw [ite_dec, if_neg (by omega), List.append_nil]
    | cons h r ih =>
      intro k out hk h3
      obtain ⟨hlt, hh, hr⟩ := drop_at hk
      obtain ⟨b1, b2, b3, b4⟩ := hs h (hh ▸ List.getElem_mem hlt)
      have e0 : textpatch_Copy.l1 p (k : Int) out = some (.next (((k + 1 : Nat) : Int), out ++ [h])) := by
        unfold textpatch_Copy.l1
        rw [ite_dec, if_pos (by omega), at_nat hlt, Option.bind_some, hh, clone_f _ (by omega), Option.bind_some, clone_f _ (by omega), Option.bind_some,
          app_eq (by simp only [List.length_singleton]; omega), Option.bind_some, ck_eq (by omega) (by omega), Option.bind_some]
        rfl
      rw [iter_next e0, ih (k + 1) _ hr (by simp; omega), List.append_assoc]
      rfl
  unfold textpatch_Copy
  rw [show (0 : Int) = ((0 : Nat) : Int) from rfl, key p.Hunks 0 [] rfl rfl, Option.bind_some]
  rfl

/-- a range that moves little -/
def SmR (l : List Range_commute) : Prop := l.length ≤ 130 ∧ ∀ r ∈ l, -120 ≤ r.Growth ∧ r.Growth ≤ 120

theorem smR_old {B : Int} {l : List Hunk} (h : Sm B l) : SmR (l.map rng) := by
  refine ⟨by simp; exact h.1, fun r hr => ?_⟩
  obtain ⟨x, hx, rfl⟩ := List.mem_map.1 hr
  obtain ⟨_, _, a, b⟩ := h.2 x hx
  exact gr_small a b
theorem smR_new {B : Int} {l : List Hunk} (h : Sm B l) : SmR (newR 0 l) := by
  refine ⟨by rw [newR_len]; exact h.1, ?_⟩
  have : ∀ (l : List Hunk) (s : Int), (∀ x ∈ l, SmH B x) → ∀ r ∈ newR s l, -120 ≤ r.Growth ∧ r.Growth ≤ 120 := by
    intro l
    induction l with
    | nil => intro s _ r hr; cases hr
    | cons x l ih =>
      intro s hx r hr
      rw [newR] at hr
      rcases List.mem_cons.1 hr with rfl | hr
      · obtain ⟨_, _, a, b⟩ := hx x (by simp)
        exact gr_small a b
      · exact ih _ (fun y hy => hx y (List.mem_cons_of_mem _ hy)) r hr
  exact this l 0 h.2

theorem mvBy_small : ∀ (l : List Range_commute) (s : Int) (h : Hunk), (s = 1 ∨ s = -1) → (∀ r ∈ l, -120 ≤ r.Growth ∧ r.Growth ≤ 120) → -(120 * (l.length : Int)) ≤ mvBy l s h ∧ mvBy l s h ≤ 120 * (l.length : Int)
  | [], s, h, _, _ => by simp [mvBy]
  | r :: l, s, h, hs, hr => by
    obtain ⟨i1, i2⟩ := mvBy_small l s h hs (fun x hx => hr x (List.mem_cons_of_mem _ hx))
    obtain ⟨r1, r2⟩ := hr r (by simp)
    rw [mvBy, List.length_cons]
    split
    · rcases hs with rfl | rfl <;> omega
    · omega

theorem at_mid {α : Type} {pre post : List α} {x : α} {k : Nat} (h : pre.length = k) : at? (pre ++ x :: post) (k : Int) = some x := by
  rw [at_nat (by simp; omega)]
  subst h
  simp
theorem set_mid {α : Type} {pre post : List α} {x y : α} {k : Nat} (h : pre.length = k) : (pre ++ x :: post).set k y = pre ++ y :: post := by
  subst h
  simp

theorem shift_f {B : Int} (hB : B ≤ 20000) (p : Patch) (hp : Sm B p.Hunks) (l : List Range_commute) (hl : SmR l) (s : Int) (hs : s = 1 ∨ s = -1) : commute_shift p l s = some (shiftP p l s) := by
  obtain ⟨hr1, hr2⟩ := hl
  have inner : ∀ (h : Hunk) (hh : SmH B h) (pre post : List Hunk) (i : Nat), pre.length = i → ∀ (rest : List Range_commute) (k : Nat) (v : Int), l.drop k = rest → -30000 - 120 * (k : Int) ≤ v → v ≤ 30000 + 120 * (k : Int) →
      iter (fun t => commute_shift.l2 l s (i : Int) h t.1 t.2) ((k : Int), pre ++ ⟨v, h.Old, h.New⟩ :: post) = some (pre ++ ⟨v + mvBy rest s h, h.Old, h.New⟩ :: post) := by
    intro h hh pre post i hi rest
    induction rest with
    | nil =>
      intro k v hk _ _
      have := drop_end hk
      refine iter_done ?_
      simp only
      unfold commute_shift.l2
      rw [ite_dec, if_neg (by omega), mvBy, Int.add_zero]
    | cons r rs ih =>
      intro k v hk h1 h2
      obtain ⟨hlt, hq, hr⟩ := drop_at hk
      obtain ⟨g1, g2⟩ := hr2 r (hq ▸ List.getElem_mem hlt)
      rw [mvBy]
      by_cases hc : r.High < h.At
      · have e0 : commute_shift.l2 l s (i : Int) h (k : Int) (pre ++ ⟨v, h.Old, h.New⟩ :: post) = some (.next (((k + 1 : Nat) : Int), pre ++ ⟨v + s * r.Growth, h.Old, h.New⟩ :: post)) := by
          unfold commute_shift.l2
          rw [ite_dec, if_pos (by omega), at_nat hlt, Option.bind_some, hq, ite_dec, if_pos hc, at_mid hi, Option.bind_some, ck_eq (by rcases hs with rfl | rfl <;> omega) (by rcases hs with rfl | rfl <;> omega), Option.bind_some,
            ck_eq (by rcases hs with rfl | rfl <;> (simp only; omega)) (by rcases hs with rfl | rfl <;> (simp only; omega)), Option.bind_some, Option.bind_some, Option.bind_some, Int.toNat_natCast, set_mid hi]
          unfold commute_shift.j4
          rw [ck_eq (by omega) (by omega)]; rfl
        rw [iter_next e0, if_pos hc, ih (k + 1) _ hr (by rcases hs with rfl | rfl <;> omega) (by rcases hs with rfl | rfl <;> omega), Int.add_assoc]
      · have e0 : commute_shift.l2 l s (i : Int) h (k : Int) (pre ++ ⟨v, h.Old, h.New⟩ :: post) = some (.next (((k + 1 : Nat) : Int), pre ++ ⟨v, h.Old, h.New⟩ :: post)) := by
          unfold commute_shift.l2
          rw [ite_dec, if_pos (by omega), at_nat hlt, Option.bind_some, hq, ite_dec, if_neg hc]
          unfold commute_shift.j4
          rw [ck_eq (by omega) (by omega)]; rfl
        rw [iter_next e0, if_neg hc, ih (k + 1) _ hr (by omega) (by omega), Int.zero_add]
  have outer : ∀ (rest : List Hunk) (k : Nat) (pre : List Hunk), p.Hunks.drop k = rest → pre.length = k → iter (fun t => commute_shift.l1 p l s t.1 t.2) ((k : Int), pre ++ rest) = some (pre ++ rest.map (mv l s)) := by
    intro rest
    induction rest with
    | nil =>
      intro k pre hk _
      have := drop_end hk
      refine iter_done ?_
      simp only
      unfold commute_shift.l1
      rw [ite_dec, if_neg (by omega)]; rfl
    | cons h r ih =>
      intro k pre hk h3
      obtain ⟨hlt, hh, hr⟩ := drop_at hk
      have hsm := hp.2 h (hh ▸ List.getElem_mem hlt)
      have i0 := inner h hsm pre r k h3 l 0 h.At rfl (by have := hsm.1; omega) (by have := hsm.2.1; omega)
      have hk130 : k < 130 := by have := hp.1; omega
      have e0 : commute_shift.l1 p l s (k : Int) (pre ++ h :: r) = some (.next (((k + 1 : Nat) : Int), (pre ++ [mv l s h]) ++ r)) := by
        unfold commute_shift.l1
        rw [ite_dec, if_pos (by omega), at_nat hlt, Option.bind_some, hh, show (0 : Int) = ((0 : Nat) : Int) from rfl, show (pre ++ h :: r) = pre ++ (⟨h.At, h.Old, h.New⟩ : Hunk) :: r from rfl, i0, Option.bind_some]
        unfold commute_shift.j3 commute_shift.j2
        rw [ck_eq (by omega) (by omega), Option.bind_some, List.append_assoc]; rfl
      rw [iter_next e0, ih (k + 1) _ hr (by simp; omega), List.append_assoc]
      rfl
  unfold commute_shift
  rw [copy_f p hp, Option.bind_some, show (0 : Int) = ((0 : Nat) : Int) from rfl]
  have := outer p.Hunks 0 [] rfl rfl
  rw [List.nil_append] at this
  rw [this]
  rfl
end Go.Dc
