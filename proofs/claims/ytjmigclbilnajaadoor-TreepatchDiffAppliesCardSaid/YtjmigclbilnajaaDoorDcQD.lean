/- commute.Commute, and the document's: the same answer. -/
import Derived.Test.YtjmigclbilnajaaDoorDcQC
set_option linter.unusedSimpArgs false
namespace Go.Dc
open Go

def pairF (p q : Patch) : Fault := if (patchFault p).Code ≠ 0 then patchFault p else if (patchFault q).Code ≠ 0 then ⟨(patchFault q).Code, -2⟩ else ⟨0, 0⟩
def qOf (p q : Patch) : Patch := shiftP q (newR 0 p.Hunks) (-1)
def pOf (p q : Patch) : Patch := shiftP p ((qOf p q).Hunks.map rng) 1
def commF (p q : Patch) : Patch × Patch × Bool × Fault :=
  if (pairF p q).Code ≠ 0 then (⟨[]⟩, ⟨[]⟩, false, pairF p q) else
  if meetB (newR 0 p.Hunks) (q.Hunks.map rng) = true then (⟨[]⟩, ⟨[]⟩, false, ⟨0, 0⟩) else
  if (patchFault (qOf p q)).Code ≠ 0 ∨ (patchFault (pOf p q)).Code ≠ 0 then (⟨[]⟩, ⟨[]⟩, false, ⟨10, -1⟩) else (qOf p q, pOf p q, true, ⟨0, 0⟩)

theorem pairF_ok (p q : Patch) : pairF p q = ⟨0, 0⟩ ∨ (pairF p q).Code ≠ 0 := by
  unfold pairF
  split
  · right; assumption
  · split
    · right; assumption
    · left; rfl
theorem pairF_zero {p q : Patch} (h : (pairF p q).Code = 0) : (patchFault p).Code = 0 ∧ (patchFault q).Code = 0 := by
  unfold pairF at h
  split at h
  · exact absurd h ‹_›
  · split at h
    · exact absurd h ‹_›
    · exact ⟨by omega, by omega⟩
theorem fless {f : Fault} (h : f = ⟨0, 0⟩ ∨ f.Code ≠ 0) : (!(decide (f.Code = 0) && decide (f.Index = 0))) = decide (f.Code ≠ 0) := by
  rcases h with h | h
  · rw [h]; rfl
  · simp [h]

theorem psecond_f (q : Patch) (i : Int) : textpatch_Second q i = some (if (patchFault q).Code ≠ 0 then ⟨(patchFault q).Code, i⟩ else ⟨0, 0⟩) := by
  unfold textpatch_Second
  rw [pvalidate_f, Option.bind_some, fless (patchFault_ok q), ite_dec]
  split <;> rfl
theorem made_f (p : Patch) : textpatch_Made p = some (if (patchFault p).Code ≠ 0 then (⟨[]⟩, ⟨10, -1⟩) else (p, ⟨0, 0⟩)) := by
  unfold textpatch_Made
  rw [pvalidate_f, Option.bind_some, fless (patchFault_ok p), ite_dec]
  split <;> rfl
theorem pboth_f (p q : Patch) : commute_both p q = some (pairF p q) := by
  unfold commute_both pairF
  rw [pvalidate_f, Option.bind_some, fless (patchFault_ok p), ite_dec]
  split
  · rfl
  · rw [psecond_f, Option.bind_some]

theorem sm_shift {B : Int} {q : Patch} (hq : Sm B q.Hunks) {l : List Range_commute} (hl : SmR l) {s : Int} (hs : s = 1 ∨ s = -1) : Sm (B + 15600) (shiftP q l s).Hunks := by
  refine ⟨by simp [shiftP]; exact hq.1, fun h hh => ?_⟩
  obtain ⟨x, hx, rfl⟩ := List.mem_map.1 hh
  obtain ⟨b1, b2, b3, b4⟩ := hq.2 x hx
  obtain ⟨m1, m2⟩ := mvBy_small l s x hs hl.2
  have := hl.1
  exact ⟨by simp only [mv]; omega, by simp only [mv]; omega, b3, b4⟩

theorem comm_f (p q : Patch) : commute_Commute p q = some (commF p q) := by
  unfold commute_Commute commF
  rw [pboth_f, Option.bind_some, fless (pairF_ok p q), ite_dec]
  by_cases h0 : (pairF p q).Code ≠ 0
  · rw [if_pos h0, if_pos h0]
  · rw [if_neg h0, if_neg h0]
    obtain ⟨hp, hq⟩ := pairF_zero (p := p) (q := q) (by omega)
    have sp := sm_of hp
    have sq := sm_of hq
    rw [newRanges_f (by omega) p sp, Option.bind_some, oldRanges_f (by omega) q sq, Option.bind_some, meet_f _ _ (by rw [newR_len]; have := sp.1; omega) (by rw [List.length_map]; have := sq.1; omega), Option.bind_some]
    cases hm : meetB (newR 0 p.Hunks) (q.Hunks.map rng) with
    | true => rfl
    | false =>
      rw [if_neg (by decide), if_neg (by decide), shift_f (by omega) q sq _ (smR_new sp) _ (Or.inr rfl), Option.bind_some, made_f, Option.bind_some]
      show _ = some (if (patchFault (qOf p q)).Code ≠ 0 ∨ (patchFault (pOf p q)).Code ≠ 0 then _ else _)
      by_cases h1 : (patchFault (qOf p q)).Code ≠ 0
      · have h1' : (patchFault (shiftP q (newR 0 p.Hunks) (-1))).Code ≠ 0 := h1
        rw [if_pos h1', if_pos (Or.inl h1)]; rfl
      · have h1' : ¬ (patchFault (shiftP q (newR 0 p.Hunks) (-1))).Code ≠ 0 := h1
        have sq' := sm_of (p := qOf p q) (by omega)
        rw [if_neg h1']
        simp only [decide_true, Bool.and_self, Bool.not_true, Bool.false_eq_true, if_false]
        rw [show shiftP q (newR 0 p.Hunks) (-1) = qOf p q from rfl, oldRanges_f (by omega) _ sq', Option.bind_some, shift_f (by omega) p sp _ (smR_old sq') _ (Or.inl rfl), Option.bind_some, made_f, Option.bind_some]
        unfold commute_Commute.j1
        by_cases h2 : (patchFault (pOf p q)).Code ≠ 0
        · have h2' : (patchFault (shiftP p ((qOf p q).Hunks.map rng) 1)).Code ≠ 0 := h2
          rw [if_pos h2', if_pos (Or.inr h2)]; rfl
        · have h2' : ¬ (patchFault (shiftP p ((qOf p q).Hunks.map rng) 1)).Code ≠ 0 := h2
          rw [if_neg h2', if_neg (by simp), if_neg (fun hh => hh.elim h1 h2)]; rfl

theorem commF_ok (p q : Patch) : (commF p q).2.2.2 = ⟨0, 0⟩ ∨ (commF p q).2.2.2.Code ≠ 0 := by
  unfold commF
  split
  · right; assumption
  · split
    · left; rfl
    · split
      · right; show (10 : Int) ≠ 0; decide
      · left; rfl

/-! ## the document's check of a patch -/
theorem rat_f (c i : Int) : changeforgeref1_At c i = some ⟨c, i⟩ := rfl

theorem rpatchFault_f (p : Patch) : changeforgeref1_PatchFault p = some (patchFault p) := by
  unfold changeforgeref1_PatchFault patchFault
  rw [ite_dec]
  by_cases h130 : p.Hunks.length > 130
  · rw [if_pos (by omega), if_pos h130]; rfl
  · rw [if_neg (by omega), if_neg h130]
    have key : ∀ (rest : List Hunk) (k : Nat) (e : Int), p.Hunks.drop k = rest → ((k = 0 ∧ e = -1) ∨ (0 < k ∧ ∃ (h : k - 1 < p.Hunks.length), e = p.Hunks[k - 1].At + p.Hunks[k - 1].Old.length ∧ 0 ≤ p.Hunks[k - 1].At ∧ e ≤ 120)) →
        iter (fun s => changeforgeref1_PatchFault.l1 p s) (k : Int) = some (orL (pscan k e rest)) := by
      intro rest
      induction rest with
      | nil =>
        intro k e hk _
        have := drop_end hk
        refine iter_done ?_
        unfold changeforgeref1_PatchFault.l1
        rw [ite_dec, if_neg (by omega)]; rfl
      | cons h r ih =>
        intro k e hk he
        obtain ⟨hlt, hh, hr⟩ := drop_at hk
        rw [pscan]
        -- one round
        have e0 : changeforgeref1_PatchFault.l1 p (k : Int) = if hcode h e = 0 then some (.next ((k + 1 : Nat) : Int)) else some (.done (.inl ⟨hcode h e, (k : Int)⟩)) := by
          unfold changeforgeref1_PatchFault.l1
          rw [ite_dec, if_pos (by omega), at_nat hlt, Option.bind_some, hh]
          simp only [rat_f, linesCode_f, Option.bind_some]
          unfold hcode
          rw [bool_or, Option.bind_some]
          by_cases c1 : h.At < 0 ∨ h.At > 120
          · have : (decide (h.At < 0) || decide (h.At > 120)) = true := by simp; omega
            rw [if_pos this, if_pos c1, if_neg (by decide)]
          · have : (decide (h.At < 0) || decide (h.At > 120)) = false := by simp; omega
            rw [this, if_neg (by decide), if_neg c1]
            simp only [ite_ndec]
            by_cases c2 : (textFault h.Old).Code = 0
            · rw [if_pos c2]
              by_cases c3 : (textFault h.New).Code = 0
              · rw [if_pos c3]
                have l1 := textFault_len c2
                have l2 := textFault_len c3
                simp only [c2, c3, ne_eq, not_true, if_false]
                rw [ck_eq (by omega) (by omega), Option.bind_some]
                have hprev : (if decide (((k : Nat) : Int) > 0) = true then (ckK .i64 ((k : Int) - 1)).bind fun z2 => (at? p.Hunks z2).bind fun y8 => (changeforgeref1_End y8).bind fun y9 => some (decide (h.At ≤ y9)) else some false) = some (decide (h.At ≤ e)) := by
                  rcases he with ⟨k0, e0⟩ | ⟨kp, hk1, e1, e2, e3⟩
                  · rw [ite_dec, if_neg (by omega), e0, decide_eq_false (by omega)]
                  · rw [ite_dec, if_pos (by omega), ck_eq (by omega) (by omega), Option.bind_some, show (k : Int) - 1 = ((k - 1 : Nat) : Int) by omega, at_nat hk1, Option.bind_some, rend_f _ (by omega) (by omega) (by omega), Option.bind_some, e1]
                rw [hprev, Option.bind_some, bool_or, Option.bind_some]
                by_cases c4 : h.Old.length + h.New.length = 0 ∨ h.At ≤ e
                · have : (decide ((h.Old.length : Int) + (h.New.length : Int) = 0) || decide (h.At ≤ e)) = true := by simp; omega
                  rw [if_pos this, if_pos c4, if_neg (by decide)]
                · have : (decide ((h.Old.length : Int) + (h.New.length : Int) = 0) || decide (h.At ≤ e)) = false := by simp; omega
                  rw [this, if_neg (by decide), if_neg c4, rend_f h (by omega) (by omega) (by omega), Option.bind_some, ite_dec]
                  by_cases c5 : h.At + h.Old.length > 120
                  · rw [if_pos c5, if_pos c5, if_neg (by decide)]
                  · rw [if_neg c5, if_neg c5, if_pos rfl, ck_eq (by omega) (by omega), Option.bind_some]; rfl
              · rw [if_neg c3]
                simp only [c2, ne_eq, not_true, if_false, c3, not_false_iff, if_true]
            · rw [if_neg c2]
              simp only [c2, ne_eq, not_false_iff, if_true, if_false]
        by_cases hc : hcode h e = 0
        · rw [if_pos hc] at e0 ⊢
          obtain ⟨z1, z2, z3, z4, z5, z6⟩ := hcode_zero hc
          rw [iter_next e0]
          refine ih (k + 1) _ hr (Or.inr ⟨by omega, by simpa using hlt, ?_⟩)
          simp only [Nat.add_sub_cancel, hh]
          exact ⟨trivial, z1, z6⟩
        · rw [if_neg hc] at e0 ⊢
          exact iter_done e0
    rw [show (0 : Int) = ((0 : Nat) : Int) from rfl, key p.Hunks 0 (-1) rfl (Or.inl ⟨rfl, rfl⟩), Option.bind_some]
    cases pscan ((0 : Nat) : Int) (-1) p.Hunks <;> rfl

theorem rpair_f (p q : Patch) : changeforgeref1_Pair p q = some (pairF p q) := by
  unfold changeforgeref1_Pair pairF changeforgeref1_Pair.j1
  simp only [rpatchFault_f, rat_f, Option.bind_some]
  rcases patchFault_ok p with h | h
  · rw [h]
    by_cases h2 : (patchFault q).Code = 0
    · simp [h2]
    · simp [h2]
  · simp [h]
end Go.Dc
