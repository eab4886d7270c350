/- The document's Apply at texts: as in XDcQO. -/
import Derived.Test.YtjmigclbilnajaaDoorDcUB
set_option linter.unusedSimpArgs false
set_option linter.unusedVariables false
namespace Go.Dc
open Go

theorem requal_f (a b : List ByteArray) (hb : a.length ≤ 1000000) : changeforgeref1_Equal a b = some (decide (a = b)) := by
  unfold changeforgeref1_Equal
  rw [ite_ndec]
  by_cases hl : a.length = b.length
  · rw [if_pos (by omega)]
    have key : ∀ (ra rb : List ByteArray) (k : Nat), a.drop k = ra → b.drop k = rb → ra.length = rb.length → iter (fun s => changeforgeref1_Equal.l1 a b s) (k : Int) = some (if ra = rb then .inr () else .inl false) := by
      intro ra
      induction ra with
      | nil =>
        intro rb k hka hkb hll
        have := drop_end hka
        obtain rfl : rb = [] := List.eq_nil_of_length_eq_zero (by simpa using hll.symm)
        refine iter_done ?_
        unfold changeforgeref1_Equal.l1
        rw [ite_dec, if_neg (by omega)]; rfl
      | cons x ra ih =>
        intro rb k hka hkb hll
        cases rb with
        | nil => simp at hll
        | cons y rb =>
          obtain ⟨h1, h2, h3⟩ := drop_at hka
          obtain ⟨h4, h5, h6⟩ := drop_at hkb
          by_cases hxy : x = y
          · have e0 : changeforgeref1_Equal.l1 a b (k : Int) = some (.next ((k + 1 : Nat) : Int)) := by
              unfold changeforgeref1_Equal.l1
              rw [ite_dec, if_pos (by omega), at_nat h1, Option.bind_some, h2, at_nat h4, Option.bind_some, h5, ite_ndec, if_pos hxy, ck_eq (by omega) (by omega)]; rfl
            rw [iter_next e0, ih rb (k + 1) h3 h6 (by simpa using hll)]
            subst hxy
            simp
          · rw [if_neg (by simp [hxy])]
            refine iter_done ?_
            unfold changeforgeref1_Equal.l1
            rw [ite_dec, if_pos (by omega), at_nat h1, Option.bind_some, h2, at_nat h4, Option.bind_some, h5, ite_ndec, if_neg hxy]
    rw [show (0 : Int) = ((0 : Nat) : Int) from rfl, key a b 0 rfl rfl hl, Option.bind_some]
    by_cases h : a = b
    · rw [if_pos h, decide_eq_true h]; rfl
    · rw [if_neg h, decide_eq_false h]
  · rw [if_neg (by omega), decide_eq_false (fun h => hl (by rw [h]))]

theorem has_f (text part : List ByteArray) (i : Int) (h1 : text.length ≤ 1000000) (h2 : part.length ≤ 1000000) (hi : i ≤ 1000000) : changeforgeref1_has text i part = some (decide (0 ≤ i ∧ occ text part i.toNat)) := by
  unfold changeforgeref1_has
  rw [ite_dec]
  by_cases h0 : i < 0
  · rw [if_pos h0, Option.bind_some, if_pos rfl, decide_eq_false (by omega)]
  · rw [if_neg h0, ck_eq (by omega) (by omega), Option.bind_some, Option.bind_some, ite_dec]
    by_cases h3 : i + (part.length : Int) > text.length
    · rw [if_pos h3, decide_eq_false (fun h => by have := occ_len h.2; omega)]
    · rw [if_neg h3, Option.bind_some, cut_eq (by omega) (by omega) (by omega), Option.bind_some, requal_f _ _ (by simp; omega), Option.bind_some, List.drop_take, show (i + (part.length : Int)).toNat - i.toNat = part.length by omega]
      congr 1
      rw [decide_eq_decide]
      exact ⟨fun h => ⟨by omega, by omega, h⟩, fun h => h.2.2⟩

theorem rawS_len : ∀ (l : List Hunk) (t : List ByteArray) (b : Nat), (∀ h ∈ l, h.New.length ≤ 120) → (rawS l t b).length ≤ t.length + (t.length + 120) * l.length
  | [], t, b, _ => by rw [rawS, List.length_drop]; simp
  | h :: r, t, b, hn => by
    have := rawS_len r t (h.At.toNat + h.Old.length) (fun x hx => hn x (List.mem_cons_of_mem _ hx))
    have h1 := hn h (by simp)
    rw [rawS, List.length_append, List.length_append, List.length_take, List.length_drop, List.length_cons, Nat.mul_succ]
    omega

theorem srt_low {e e' : Int} {l : List Hunk} (h : Srt e l) (he : e' ≤ e) : Srt e' l := by
  cases l with
  | nil => trivial
  | cons x l => exact ⟨by have := h.1; omega, h.2⟩
theorem srt_all : ∀ (l : List Hunk) (e : Int), Srt e l → ∀ h ∈ l, e < h.At
  | [], _, _, h, hh => by cases hh
  | x :: l, e, hs, h, hh => by
    rcases List.mem_cons.1 hh with rfl | hh
    · exact hs.1
    · have := srt_all l _ hs.2 h hh; have := hs.1; omega

theorem rapply_f (p : Patch) (text : List ByteArray) : changeforgeref1_Apply p text = some (applyF p text) := by
  unfold changeforgeref1_Apply applyF
  rw [rpatchFault_f, Option.bind_some, ite_ndec]
  by_cases hp : (patchFault p).Code ≠ 0
  · rw [if_neg hp, if_pos hp]
  · rw [if_pos (by omega), if_neg hp, linesCode_f, Option.bind_some, ite_ndec]
    by_cases ht : (textFault text).Code ≠ 0
    · rw [if_neg ht, if_pos ht]; rfl
    · rw [if_pos (by omega), if_neg ht]
      obtain ⟨hn, hg⟩ := (patchFault_good p).1 (by omega)
      have hl := textFault_len (l := text) (by omega)
      have key : ∀ (rest : List Hunk) (k : Nat), p.Hunks.drop k = rest → (∀ h ∈ rest, 0 ≤ h.At ∧ h.At ≤ 120 ∧ h.Old.length ≤ 120) → iter (fun s => changeforgeref1_Apply.l2 p text s) (k : Int) = some (orL ((oscan text k rest).map fun f => (([] : List ByteArray), f))) := by
        intro rest
        induction rest with
        | nil =>
          intro k hk _
          have := drop_end hk
          refine iter_done ?_
          unfold changeforgeref1_Apply.l2
          rw [ite_dec, if_neg (by omega)]; rfl
        | cons h r ih =>
          intro k hk hall
          obtain ⟨hlt, hh, hr⟩ := drop_at hk
          obtain ⟨h0, h1, h2⟩ := hall h (by simp)
          rw [oscan]
          have eo : changeforgeref1_has text h.At h.Old = some (decide (occ text h.Old h.At.toNat)) := by
            rw [has_f _ _ _ (by omega) (by omega) (by omega)]; simp [h0]
          by_cases hc : occ text h.Old h.At.toNat
          · have e0 : changeforgeref1_Apply.l2 p text (k : Int) = some (.next ((k + 1 : Nat) : Int)) := by
              unfold changeforgeref1_Apply.l2
              rw [ite_dec, if_pos (by omega), at_nat hlt, Option.bind_some, Option.bind_some, hh, eo, Option.bind_some, decide_eq_true hc, if_neg (by decide), ck_eq (by omega) (by omega), Option.bind_some]; rfl
            rw [if_pos hc, iter_next e0]
            exact ih (k + 1) hr (fun q hq => hall q (List.mem_cons_of_mem _ hq))
          · rw [if_neg hc]
            refine iter_done ?_
            unfold changeforgeref1_Apply.l2
            rw [ite_dec, if_pos (by omega), at_nat hlt, Option.bind_some, Option.bind_some, hh, eo, Option.bind_some, decide_eq_false hc, if_pos (by decide)]; rfl
      rw [show (0 : Int) = ((0 : Nat) : Int) from rfl, key p.Hunks 0 rfl (fun h hm => by
        obtain ⟨z1, z3, z2, _⟩ := good_at hg (by omega) h hm
        exact ⟨z1, by omega, textFault_len z2⟩), Option.bind_some, show (((0 : Nat) : Int)) = 0 from rfl]
      cases ho : oscan text 0 p.Hunks with
      | some f => rfl
      | none =>
        have hf := (oscan_fits text p.Hunks 0).1 ho
        have hs := srt_of _ _ hg
        simp only [Option.map_none, orL]
        unfold changeforgeref1_Apply.j1
        rw [app_eq (by simp only [List.length_nil]; omega), Option.bind_some, List.nil_append, ck_eq (by omega) (by omega), Option.bind_some]
        have back : ∀ (k : Nat), k ≤ p.Hunks.length → iter (fun s => changeforgeref1_Apply.l1 p s.1 s.2) ((k : Int) - 1, rawS (p.Hunks.drop k) text 0) = some (rawS p.Hunks text 0) := by
          intro k
          induction k with
          | zero =>
            intro _
            refine iter_done ?_
            simp only
            unfold changeforgeref1_Apply.l1
            rw [ite_dec, if_neg (by omega)]; rfl
          | succ k ih =>
            intro hk
            have hlt : k < p.Hunks.length := by omega
            have hm := List.getElem_mem hlt
            obtain ⟨z1, z3, z2, z4, _⟩ := good_at hg (by omega) _ hm
            have lo := textFault_len z2
            have ln := textFault_len z4
            have hol := occ_len (hf _ hm)
            have hd := List.drop_eq_getElem_cons hlt
            have habove : ∀ x ∈ p.Hunks.drop (k + 1), p.Hunks[k].At + (p.Hunks[k].Old.length : Int) < x.At := by
              have : ∀ (l : List Hunk) (e : Int) (k : Nat) (h : k < l.length), Srt e l → ∀ x ∈ l.drop (k + 1), l[k].At + (l[k].Old.length : Int) < x.At := by
                intro l
                induction l with
                | nil => intro e k h; simp at h
                | cons y l ih =>
                  intro e k h hs x hx
                  cases k with
                  | zero => exact srt_all l _ hs.2 x hx
                  | succ k => exact ih _ k (by simpa using h) hs.2 x hx
              exact this p.Hunks (-1) k hlt hs
            have hcut := rawS_cut (p.Hunks.drop (k + 1)) text 0 (p.Hunks[k].At.toNat + p.Hunks[k].Old.length) (fun x hx => by have := habove x hx; omega)
            rw [Nat.zero_add, List.drop_zero] at hcut
            have hV : (rawS (p.Hunks.drop (k + 1)) text 0).length ≤ 120 + (120 + 120) * 130 := by
              have := rawS_len (p.Hunks.drop (k + 1)) text 0 (fun x hx => by
                obtain ⟨_, _, _, b, _⟩ := good_at hg (by omega) x (List.mem_of_mem_drop hx)
                exact textFault_len b)
              have h2 : (text.length + 120) * (p.Hunks.drop (k + 1)).length ≤ (120 + 120) * 130 := Nat.mul_le_mul (by omega) (by rw [List.length_drop]; omega)
              omega
            have htl : (text.take (p.Hunks[k].At.toNat + p.Hunks[k].Old.length)).length = p.Hunks[k].At.toNat + p.Hunks[k].Old.length := by simp; omega
            have e1 : (rawS (p.Hunks.drop (k + 1)) text 0).take p.Hunks[k].At.toNat = text.take p.Hunks[k].At.toNat := by
              rw [hcut, List.take_append_of_le_length (by omega), List.take_take]; congr 1; omega
            have e2 : (rawS (p.Hunks.drop (k + 1)) text 0).drop (p.Hunks[k].At.toNat + p.Hunks[k].Old.length) = rawS (p.Hunks.drop (k + 1)) text (p.Hunks[k].At.toNat + p.Hunks[k].Old.length) := by
              have := congrArg (List.drop (p.Hunks[k].At.toNat + p.Hunks[k].Old.length)) hcut
              rw [this]
              have h4 := List.drop_left (l₁ := text.take (p.Hunks[k].At.toNat + p.Hunks[k].Old.length)) (l₂ := rawS (p.Hunks.drop (k + 1)) text (p.Hunks[k].At.toNat + p.Hunks[k].Old.length))
              rw [htl] at h4
              exact h4
            have hlenV : p.Hunks[k].At.toNat + p.Hunks[k].Old.length ≤ (rawS (p.Hunks.drop (k + 1)) text 0).length := by
              rw [hcut, List.length_append, htl]; omega
            have e0 : changeforgeref1_Apply.l1 p (k : Int) (rawS (p.Hunks.drop (k + 1)) text 0) = some (.next ((k : Int) - 1, rawS (p.Hunks.drop k) text 0)) := by
              unfold changeforgeref1_Apply.l1
              rw [ite_dec, if_pos (by omega), at_nat hlt, Option.bind_some, rend_f _ (by omega) (by omega) (by omega), Option.bind_some, cut_eq (by omega) (by omega) (by omega), Option.bind_some, Int.toNat_natCast, List.take_length,
                show (p.Hunks[k].At + (p.Hunks[k].Old.length : Int)).toNat = p.Hunks[k].At.toNat + p.Hunks[k].Old.length by omega, e2]
              have hr : (rawS (p.Hunks.drop (k + 1)) text (p.Hunks[k].At.toNat + p.Hunks[k].Old.length)).length ≤ 120 + (120 + 120) * 130 := by rw [← e2, List.length_drop]; omega
              rw [app_eq (by simp only [List.length_nil]; omega), Option.bind_some, List.nil_append, cut_eq (by omega) (by omega) (by omega), Option.bind_some, e1, show ((0 : Int)).toNat = 0 from rfl, List.drop_zero,
                app_eq (by rw [List.length_take]; omega), Option.bind_some, app_eq (by rw [List.length_append, List.length_take]; omega), Option.bind_some, ck_eq (by omega) (by omega), Option.bind_some, hd, rawS, List.drop_zero, Nat.sub_zero, List.append_assoc]
            rw [show ((k + 1 : Nat) : Int) - 1 = (k : Int) by omega, iter_next (m := fun s : Int × List ByteArray => changeforgeref1_Apply.l1 p s.1 s.2) (s := ((k : Int), rawS (p.Hunks.drop (k + 1)) text 0)) e0]
            exact ih (by omega)
        have b0 := back p.Hunks.length (Nat.le_refl _)
        rw [List.drop_length, rawS, List.drop_zero] at b0
        rw [b0, Option.bind_some]
        unfold changeforgeref1_Apply.j2
        rw [ite_dec]
        by_cases h120 : (rawS p.Hunks text 0).length > 120
        · rw [if_pos (by omega), if_pos h120]; rfl
        · rw [if_neg (by omega), if_neg h120]
end Go.Dc
