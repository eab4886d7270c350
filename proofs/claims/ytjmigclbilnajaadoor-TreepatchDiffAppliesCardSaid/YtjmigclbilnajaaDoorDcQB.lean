/- Patches of texts: their faults and what applying them comes to. -/
import Derived.Test.YtjmigclbilnajaaDoorDcQA
set_option linter.unusedSimpArgs false
namespace Go.Dc
open Go

theorem end_f (h : Hunk) (h0 : -1000000 ≤ h.At) (h1 : h.At ≤ 1000000) (h2 : h.Old.length ≤ 1000000) : textpatch_End h = some (h.At + h.Old.length) := by
  unfold textpatch_End
  rw [ck_eq (by omega) (by omega)]; rfl

/-- the code of a hunk behind an end -/
def hcode (h : Hunk) (e : Int) : Int :=
  if h.At < 0 ∨ h.At > 120 then 3 else if (textFault h.Old).Code ≠ 0 then (textFault h.Old).Code else if (textFault h.New).Code ≠ 0 then (textFault h.New).Code else
  if h.Old.length + h.New.length = 0 ∨ h.At ≤ e then 5 else if h.At + h.Old.length > 120 then 3 else 0

theorem textFault_len {l : List ByteArray} (h : (textFault l).Code = 0) : l.length ≤ 120 := ((okText_iff l).2 ((textFault_zero l).2 h)).1

theorem hunk_f (h : Hunk) (e : Int) : textpatch_hunk h e = some (hcode h e) := by
  unfold textpatch_hunk hcode
  by_cases ha : h.At < 0 ∨ h.At > 120
  · rw [if_pos ha]
    have : (if decide (h.At < 0) = true then some true else some (decide (h.At > 120))) = some true := by
      rw [ite_dec]
      by_cases h0 : h.At < 0
      · rw [if_pos h0]
      · rw [if_neg h0, decide_eq_true (by omega)]
    rw [this, Option.bind_some, if_pos rfl]
  · rw [if_neg ha]
    have : (if decide (h.At < 0) = true then some true else some (decide (h.At > 120))) = some false := by
      rw [ite_dec, if_neg (by omega), decide_eq_false (by omega)]
    rw [this, Option.bind_some, if_neg (by decide)]
    have l0 : textpatch_hunk.l1 h 0 = if (textFault h.Old).Code ≠ 0 then some (.done (.inl (textFault h.Old).Code)) else some (.next 1) := by
      unfold textpatch_hunk.l1
      rw [ite_dec, if_pos (by decide), show at? ([h.Old, h.New] : List (List ByteArray)) 0 = some h.Old from rfl, Option.bind_some, validate_f, Option.bind_some]
      rcases textFault_ok h.Old with h1 | h1
      · rw [h1, if_neg (by decide), if_neg (by decide), ck_eq (by omega) (by omega)]; rfl
      · rw [if_pos h1, if_pos (faultless.2 fun h2 => h1 h2.1)]
    have l1 : textpatch_hunk.l1 h 1 = if (textFault h.New).Code ≠ 0 then some (.done (.inl (textFault h.New).Code)) else some (.next 2) := by
      unfold textpatch_hunk.l1
      rw [ite_dec, if_pos (by decide), show at? ([h.Old, h.New] : List (List ByteArray)) 1 = some h.New from rfl, Option.bind_some, validate_f, Option.bind_some]
      rcases textFault_ok h.New with h1 | h1
      · rw [h1, if_neg (by decide), if_neg (by decide), ck_eq (by omega) (by omega)]; rfl
      · rw [if_pos h1, if_pos (faultless.2 fun h2 => h1 h2.1)]
    have l2 : textpatch_hunk.l1 h 2 = some (.done (.inr ())) := by
      unfold textpatch_hunk.l1
      rw [ite_dec, if_neg (by decide)]
    by_cases ho : (textFault h.Old).Code ≠ 0
    · rw [if_pos ho] at l0 ⊢
      rw [iter_done l0, Option.bind_some]
    · rw [if_neg ho] at l0 ⊢
      by_cases hw : (textFault h.New).Code ≠ 0
      · rw [if_pos hw] at l1 ⊢
        rw [iter_next l0, iter_done l1, Option.bind_some]
      · rw [if_neg hw] at l1 ⊢
        rw [iter_next l0, iter_next l1, iter_done l2, Option.bind_some]
        have s1 := textFault_len (l := h.Old) (by omega)
        have s2 := textFault_len (l := h.New) (by omega)
        simp only
        unfold textpatch_hunk.j1
        rw [ck_eq (by omega) (by omega), Option.bind_some]
        by_cases hm : h.Old.length + h.New.length = 0 ∨ h.At ≤ e
        · rw [if_pos hm]
          have : (if decide ((h.Old.length : Int) + (h.New.length : Int) = 0) = true then some true else some (decide (h.At ≤ e))) = some true := by
            rw [ite_dec]
            by_cases h0 : (h.Old.length : Int) + (h.New.length : Int) = 0
            · rw [if_pos h0]
            · rw [if_neg h0, decide_eq_true (by omega)]
          rw [this, Option.bind_some, if_pos rfl]
        · rw [if_neg hm]
          have : (if decide ((h.Old.length : Int) + (h.New.length : Int) = 0) = true then some true else some (decide (h.At ≤ e))) = some false := by
            rw [ite_dec, if_neg (by omega), decide_eq_false (by omega)]
          rw [this, Option.bind_some, if_neg (by decide), end_f h (by omega) (by omega) (by omega), Option.bind_some, ite_dec]
          split <;> rfl

theorem hcode_zero {h : Hunk} {e : Int} (hc : hcode h e = 0) : 0 ≤ h.At ∧ (textFault h.Old).Code = 0 ∧ (textFault h.New).Code = 0 ∧ 0 < h.Old.length + h.New.length ∧ e < h.At ∧ h.At + h.Old.length ≤ 120 := by
  unfold hcode at hc
  split at hc
  · cases hc
  · split at hc
    · rename_i h1 h2; exact absurd hc h2
    · split at hc
      · rename_i h1 h2 h3; exact absurd hc h3
      · split at hc
        · cases hc
        · split at hc
          · cases hc
          · omega

/-- the first hunk with a fault -/
def pscan : Int → Int → List Hunk → Option Fault
  | _, _, [] => Option.none
  | i, e, h :: r => if hcode h e = 0 then pscan (i + 1) (h.At + h.Old.length) r else some ⟨hcode h e, i⟩

def patchFault (p : Patch) : Fault := if p.Hunks.length > 130 then ⟨2, -1⟩ else (pscan 0 (-1) p.Hunks).getD ⟨0, 0⟩

theorem pscan_code : ∀ (l : List Hunk) (i e : Int) (f : Fault), pscan i e l = some f → f.Code ≠ 0
  | [], _, _, _, h => by cases h
  | x :: r, i, e, f, h => by
    rw [pscan] at h
    split at h
    · exact pscan_code r _ _ f h
    · rename_i h0; cases h; exact h0

theorem patchFault_ok (p : Patch) : patchFault p = ⟨0, 0⟩ ∨ (patchFault p).Code ≠ 0 := by
  unfold patchFault
  split
  · right; show (2 : Int) ≠ 0; decide
  · cases h : pscan 0 (-1) p.Hunks with
    | none => left; rfl
    | some f => right; exact pscan_code _ _ _ f h
theorem patchFault_zero (p : Patch) : patchFault p = ⟨0, 0⟩ ↔ (patchFault p).Code = 0 := by
  rcases patchFault_ok p with h | h
  · rw [h]; exact ⟨fun _ => rfl, fun _ => rfl⟩
  · exact ⟨fun h2 => by rw [h2], fun h2 => absurd h2 h⟩

theorem pvalidate_f (p : Patch) : textpatch_Validate p = some (patchFault p) := by
  unfold textpatch_Validate patchFault
  rw [ite_dec]
  by_cases h130 : p.Hunks.length > 130
  · rw [if_pos (by omega), if_pos h130]
  · rw [if_neg (by omega), if_neg h130]
    have key : ∀ (rest : List Hunk) (k : Nat) (e : Int), p.Hunks.drop k = rest → iter (fun s => textpatch_Validate.l1 p s.1 s.2) ((k : Int), e) = some (orL (pscan k e rest)) := by
      intro rest
      induction rest with
      | nil =>
        intro k e hk
        have := drop_end hk
        refine iter_done ?_
        unfold textpatch_Validate.l1
        rw [ite_dec, if_neg (by omega)]; rfl
      | cons h r ih =>
        intro k e hk
        obtain ⟨hlt, hh, hr⟩ := drop_at hk
        rw [pscan]
        by_cases hc : hcode h e = 0
        · obtain ⟨z1, z2, z3, z4, z5, z6⟩ := hcode_zero hc
          have e0 : textpatch_Validate.l1 p (k : Int) e = some (.next (((k + 1 : Nat) : Int), h.At + h.Old.length)) := by
            unfold textpatch_Validate.l1
            rw [ite_dec, if_pos (by omega), at_nat hlt, Option.bind_some, hh, hunk_f, Option.bind_some, hc, ite_ndec, if_pos rfl, end_f h (by omega) (by omega) (by omega), Option.bind_some, ck_eq (by omega) (by omega), Option.bind_some]; rfl
          rw [if_pos hc, iter_next e0]; exact ih (k + 1) _ hr
        · rw [if_neg hc]
          refine iter_done ?_
          unfold textpatch_Validate.l1
          rw [ite_dec, if_pos (by omega), at_nat hlt, Option.bind_some, hh, hunk_f, Option.bind_some, ite_ndec, if_neg hc]; rfl
    rw [show (0 : Int) = ((0 : Nat) : Int) from rfl, key p.Hunks 0 _ rfl, Option.bind_some]
    cases pscan ((0 : Nat) : Int) (-1) p.Hunks <;> rfl

/-- hunks in order, behind an end -/
def Good : Int → List Hunk → Prop
  | _, [] => True
  | e, h :: r => hcode h e = 0 ∧ Good (h.At + h.Old.length) r

theorem pscan_good : ∀ (l : List Hunk) (i e : Int), pscan i e l = Option.none ↔ Good e l
  | [], _, _ => by simp [pscan, Good]
  | h :: r, i, e => by
    rw [pscan, Good]
    by_cases hc : hcode h e = 0
    · rw [if_pos hc, pscan_good r]; simp [hc]
    · rw [if_neg hc]; simp [hc]

theorem patchFault_good (p : Patch) : (patchFault p).Code = 0 ↔ p.Hunks.length ≤ 130 ∧ Good (-1) p.Hunks := by
  rw [← patchFault_zero, ← pscan_good p.Hunks 0 (-1)]
  unfold patchFault
  by_cases h : p.Hunks.length > 130
  · rw [if_pos h]; constructor
    · intro h2; cases h2
    · intro h2; omega
  · rw [if_neg h]
    cases hs : pscan 0 (-1) p.Hunks with
    | none => simp; omega
    | some f =>
      have := pscan_code _ _ _ f hs
      constructor
      · intro h2; simp at h2; rw [h2] at this; exact absurd rfl this
      · intro h2; cases h2.2

/-! ## lines that occur -/
def occ (text part : List ByteArray) (k : Nat) : Prop := k ≤ text.length ∧ (text.drop k).take part.length = part
instance (text part : List ByteArray) (k : Nat) : Decidable (occ text part k) := by unfold occ; infer_instance

theorem occ_len {text part : List ByteArray} {k : Nat} (h : occ text part k) : k + part.length ≤ text.length := by
  have h1 := congrArg List.length h.2
  simp at h1
  have := h.1
  omega

theorem sequal_f (a b : List ByteArray) (hb : a.length ≤ 1000000) : slices_Equal a b = some (decide (a = b)) := by
  unfold slices_Equal
  rw [ite_ndec]
  by_cases hl : a.length = b.length
  · rw [if_pos (by omega)]
    have key : ∀ (rest : List ByteArray) (k : Nat), a.drop k = rest → a.take k = b.take k → iter (fun s => slices_Equal.l1 a b s) (k : Int) = some (if a = b then .inr () else .inl false) := by
      intro rest
      induction rest with
      | nil =>
        intro k hk ht
        have := drop_end hk
        rw [List.take_of_length_le (by omega), List.take_of_length_le (by omega)] at ht
        rw [if_pos ht]
        refine iter_done ?_
        unfold slices_Equal.l1
        rw [ite_dec, if_neg (by omega)]
      | cons x r ih =>
        intro k hk ht
        obtain ⟨hlt, hx, hr⟩ := drop_at hk
        have hlt2 : k < b.length := by omega
        by_cases he : x = b[k]
        · have e0 : slices_Equal.l1 a b (k : Int) = some (.next ((k + 1 : Nat) : Int)) := by
            unfold slices_Equal.l1
            rw [ite_dec, if_pos (by omega), at_nat hlt, Option.bind_some, hx, at_nat hlt2, Option.bind_some, ite_ndec, if_pos he, ck_eq (by omega) (by omega), Option.bind_some]; rfl
          rw [iter_next e0]
          exact ih (k + 1) hr (by rw [List.take_succ_eq_append_getElem hlt, List.take_succ_eq_append_getElem hlt2, ht, hx, he])
        · rw [if_neg (fun e => he (by rw [← hx]; simp only [e]))]
          refine iter_done ?_
          unfold slices_Equal.l1
          rw [ite_dec, if_pos (by omega), at_nat hlt, Option.bind_some, hx, at_nat hlt2, Option.bind_some, ite_ndec, if_neg he]
    rw [show (0 : Int) = ((0 : Nat) : Int) from rfl, key a 0 rfl rfl, Option.bind_some]
    by_cases h : a = b
    · rw [if_pos h, decide_eq_true h]; rfl
    · rw [if_neg h, decide_eq_false h]
  · rw [if_neg (by omega), decide_eq_false (fun e => hl (by rw [e]))]

theorem occurs_f (text part : List ByteArray) (i : Int) (h1 : text.length ≤ 1000000) (h2 : part.length ≤ 1000000) : lines_Occurs text part i = some (decide (0 ≤ i ∧ occ text part i.toNat)) := by
  unfold lines_Occurs
  by_cases hi : 0 ≤ i ∧ i ≤ text.length
  · have e1 : (if decide (i ≥ 0) = true then some (decide (i ≤ (text.length : Int))) else some false) = some true := by
      rw [ite_dec, if_pos hi.1, decide_eq_true hi.2]
    rw [e1, Option.bind_some, if_pos rfl, ck_eq (by omega) (by omega), Option.bind_some, Option.bind_some, ite_dec]
    by_cases hp : (part.length : Int) ≤ text.length - i
    · rw [if_pos hp, ck_eq (by omega) (by omega), Option.bind_some, cut_eq (by omega) (by omega) (by omega), Option.bind_some, sequal_f _ _ (by simp; omega), Option.bind_some, Option.bind_some]
      congr 1
      have : (text.take (i + (part.length : Int)).toNat).drop i.toNat = (text.drop i.toNat).take part.length := by
        rw [List.take_drop]
        congr 2
        omega
      rw [this]
      rw [decide_eq_decide]
      unfold occ
      constructor
      · intro h; exact ⟨by omega, by omega, h⟩
      · intro h; exact h.2.2
    · rw [if_neg hp, Option.bind_some]
      congr 1
      rw [eq_comm, decide_eq_false_iff_not]
      rintro ⟨_, h⟩
      have := occ_len h
      omega
  · have e1 : (if decide (i ≥ 0) = true then some (decide (i ≤ (text.length : Int))) else some false) = some false := by
      rw [ite_dec]
      by_cases h0 : i ≥ 0
      · rw [if_pos h0, decide_eq_false (by omega)]
      · rw [if_neg h0]
    rw [e1]
    simp only [Option.bind_some, Bool.false_eq_true, if_false]
    congr 1
    rw [eq_comm, decide_eq_false_iff_not]
    rintro ⟨h0, h⟩
    exact hi ⟨h0, by have := h.1; omega⟩

/-! ## applying -/
def rawS : List Hunk → List ByteArray → Nat → List ByteArray
  | [], text, low => text.drop low
  | h :: r, text, low => (text.drop low).take (h.At.toNat - low) ++ (h.New ++ rawS r text (h.At.toNat + h.Old.length))

/-- every hunk's old lines occur -/
def Fits (text : List ByteArray) (l : List Hunk) : Prop := ∀ h ∈ l, occ text h.Old h.At.toNat

theorem raw_f (text : List ByteArray) (ht : text.length ≤ 120) (hs : List Hunk) (hn : hs.length ≤ 130) : ∀ (rest : List Hunk) (k low : Nat) (out : List ByteArray) (e : Int), hs.drop k = rest → Good e rest → Fits text rest → (low : Int) ≤ e + 1 → low ≤ text.length → out.length ≤ k * 240 → k ≤ 130 →
    ∃ fin : Nat, fin ≤ text.length ∧ ∃ o, iter (fun s => textpatch_Raw.l1 hs text s.1 s.2.1 s.2.2) ((k : Int), out, (low : Int)) = some (o, (fin : Int)) ∧ o ++ text.drop fin = out ++ rawS rest text low ∧ o.length ≤ 131 * 240 := by
  intro rest
  induction rest with
  | nil =>
    intro k low out e hk _ _ _ hlow hout hk130
    have := drop_end hk
    refine ⟨low, hlow, out, iter_done ?_, rfl, ?_⟩
    · unfold textpatch_Raw.l1
      rw [ite_dec, if_neg (by omega)]
    · have : k * 240 ≤ 130 * 240 := Nat.mul_le_mul_right _ hk130
      omega
  | cons h r ih =>
    intro k low out e hk hg hf hle hlow hout hk130
    obtain ⟨hlt, hh, hr⟩ := drop_at hk
    obtain ⟨hc, hg'⟩ := hg
    obtain ⟨z1, z2, z3, z4, z5, z6⟩ := hcode_zero hc
    have ho := occ_len (hf h (by simp))
    have l2 := textFault_len z3
    have hka : k < 130 := by omega
    have hlo : low ≤ h.At.toNat := by omega
    have e0 : textpatch_Raw.l1 hs text (k : Int) out (low : Int) = some (.next (((k + 1 : Nat) : Int), out ++ (text.drop low).take (h.At.toNat - low) ++ h.New, ((h.At.toNat + h.Old.length : Nat) : Int))) := by
      unfold textpatch_Raw.l1
      have hcut : (text.take h.At.toNat).drop (low : Int).toNat = (text.drop low).take (h.At.toNat - low) := by
        rw [Int.toNat_natCast, List.drop_take]
      rw [ite_dec, if_pos (by omega), at_nat hlt, Option.bind_some, hh, cut_eq (by omega) (by omega) (by omega), Option.bind_some, hcut,
        app_eq (by simp; omega), Option.bind_some, app_eq (by simp; omega), Option.bind_some, end_f h (by omega) (by omega) (by omega), Option.bind_some, ck_eq (by omega) (by omega), Option.bind_some,
        show h.At + (h.Old.length : Int) = ((h.At.toNat + h.Old.length : Nat) : Int) by omega]
      rfl
    rw [iter_next e0]
    obtain ⟨fin, f1, o, f2, f3, f4⟩ := ih (k + 1) (h.At.toNat + h.Old.length) (out ++ (text.drop low).take (h.At.toNat - low) ++ h.New) (h.At + h.Old.length) hr hg' (fun q hq => hf q (List.mem_cons_of_mem _ hq)) (by omega) (by omega) (by simp; omega) (by omega)
    refine ⟨fin, f1, o, f2, ?_, f4⟩
    rw [f3, rawS]
    simp only [List.append_assoc]

theorem Raw_f {text : List ByteArray} (ht : text.length ≤ 120) {hs : List Hunk} (hn : hs.length ≤ 130) (hg : Good (-1) hs) (hf : Fits text hs) : textpatch_Raw hs text 0 (text.length : Int) = some (rawS hs text 0) := by
  obtain ⟨fin, f1, o, f2, f3, f4⟩ := raw_f text ht hs hn hs 0 0 [] (-1) rfl hg hf (by omega) (Nat.zero_le _) (by simp) (by omega)
  unfold textpatch_Raw
  rw [show ((0 : Nat) : Int) = 0 from rfl] at f2
  rw [f2, Option.bind_some]
  unfold textpatch_Raw.j1
  rw [cut_eq (by omega) (by omega) (by omega), Option.bind_some, Int.toNat_natCast, Int.toNat_natCast, List.take_length, app_eq (by simp; omega), Option.bind_some, f3]
  rfl

/-- the first hunk whose old lines do not occur -/
def oscan (text : List ByteArray) : Int → List Hunk → Option Fault
  | _, [] => Option.none
  | i, h :: r => if occ text h.Old h.At.toNat then oscan text (i + 1) r else some ⟨19, i⟩

theorem oscan_fits (text : List ByteArray) : ∀ (l : List Hunk) (i : Int), oscan text i l = Option.none ↔ Fits text l
  | [], _ => by simp [oscan, Fits]
  | h :: r, i => by
    rw [oscan]
    by_cases hc : occ text h.Old h.At.toNat
    · rw [if_pos hc, oscan_fits text r]; simp [Fits, hc]
    · rw [if_neg hc]; simp [Fits, hc]

theorem oscan_code (text : List ByteArray) : ∀ (l : List Hunk) (i : Int) (f : Fault), oscan text i l = some f → f.Code = 19
  | [], _, _, h => by cases h
  | x :: r, i, f, h => by
    rw [oscan] at h
    split at h
    · exact oscan_code text r _ f h
    · cases h; rfl

def applyF (p : Patch) (text : List ByteArray) : List ByteArray × Fault :=
  if (patchFault p).Code ≠ 0 then ([], patchFault p) else if (textFault text).Code ≠ 0 then ([], ⟨(textFault text).Code, -2⟩) else
  match oscan text 0 p.Hunks with
  | some f => ([], f)
  | Option.none => if (rawS p.Hunks text 0).length > 120 then ([], ⟨10, -1⟩) else (rawS p.Hunks text 0, ⟨0, 0⟩)

theorem good_at : ∀ {l : List Hunk} {e : Int}, Good e l → -1 ≤ e → ∀ h ∈ l, 0 ≤ h.At ∧ h.At + h.Old.length ≤ 120 ∧ (textFault h.Old).Code = 0 ∧ (textFault h.New).Code = 0 ∧ 0 < h.Old.length + h.New.length
  | x :: r, e, hg, he, h, hm => by
    obtain ⟨hc, hg'⟩ := hg
    obtain ⟨z1, z2, z3, z4, z5, z6⟩ := hcode_zero hc
    rcases List.mem_cons.1 hm with rfl | hm
    · exact ⟨z1, z6, z2, z3, z4⟩
    · exact good_at hg' (by omega) h hm

theorem apply_f (p : Patch) (text : List ByteArray) : textpatch_Apply p text = some (applyF p text) := by
  unfold textpatch_Apply applyF
  rw [pvalidate_f, Option.bind_some]
  rcases patchFault_ok p with hp | hp
  · rw [hp]
    simp only [ne_eq, not_true, if_false]
    rw [if_neg (by simp), second_f, Option.bind_some]
    rcases textFault_ok text with ht | ht
    · rw [ht]
      simp only [ne_eq, not_true, if_false, if_true]
      rw [if_neg (by simp)]
      obtain ⟨hn, hg⟩ := (patchFault_good p).1 ((patchFault_zero p).1 hp)
      have hl := textFault_len ((textFault_zero text).1 ht)
      have key : ∀ (rest : List Hunk) (k : Nat), p.Hunks.drop k = rest → (∀ h ∈ rest, 0 ≤ h.At ∧ h.Old.length ≤ 120) → iter (fun s => textpatch_Apply.l1 p text s) (k : Int) = some (orL ((oscan text k rest).map fun f => (([] : List ByteArray), f))) := by
        intro rest
        induction rest with
        | nil =>
          intro k hk _
          have := drop_end hk
          refine iter_done ?_
          unfold textpatch_Apply.l1
          rw [ite_dec, if_neg (by omega)]; rfl
        | cons h r ih =>
          intro k hk hall
          obtain ⟨hlt, hh, hr⟩ := drop_at hk
          obtain ⟨h0, h1⟩ := hall h (by simp)
          rw [oscan]
          have eo : lines_Occurs text h.Old h.At = some (decide (occ text h.Old h.At.toNat)) := by
            rw [occurs_f _ _ _ (by omega) (by omega)]; simp [h0]
          by_cases hc : occ text h.Old h.At.toNat
          · have e0 : textpatch_Apply.l1 p text (k : Int) = some (.next ((k + 1 : Nat) : Int)) := by
              unfold textpatch_Apply.l1
              rw [ite_dec, if_pos (by omega), at_nat hlt, Option.bind_some, hh, eo, Option.bind_some, decide_eq_true hc, if_neg (by decide), ck_eq (by omega) (by omega), Option.bind_some]; rfl
            rw [if_pos hc, iter_next e0]
            exact ih (k + 1) hr (fun q hq => hall q (List.mem_cons_of_mem _ hq))
          · rw [if_neg hc]
            refine iter_done ?_
            unfold textpatch_Apply.l1
            rw [ite_dec, if_pos (by omega), at_nat hlt, Option.bind_some, hh, eo, Option.bind_some, decide_eq_false hc, if_pos (by decide)]; rfl
      rw [show (0 : Int) = ((0 : Nat) : Int) from rfl, key p.Hunks 0 rfl (fun h hm => by
        obtain ⟨z1, _, z2, _⟩ := good_at hg (by omega) h hm
        exact ⟨z1, textFault_len z2⟩), Option.bind_some, show (((0 : Nat) : Int)) = 0 from rfl]
      cases ho : oscan text 0 p.Hunks with
      | some f => rfl
      | none =>
        have hf := (oscan_fits text p.Hunks 0).1 ho
        simp only [Option.map_none, orL]
        unfold textpatch_Apply.j1
        rw [Raw_f hl hn hg hf, Option.bind_some, ite_dec]
        by_cases h120 : (rawS p.Hunks text 0).length > 120
        · rw [if_pos (by omega), if_pos h120]
        · rw [if_neg (by omega), if_neg h120]
    · simp only [ne_eq, ht, not_false_iff, if_true, if_false]
      rw [if_pos (by simp)]
  · simp only [ne_eq, hp, not_false_iff, if_true]
    rw [if_pos (by simp [hp])]

theorem applyF_ok {p : Patch} {text : List ByteArray} (h : (applyF p text).2.Code = 0) : p.Hunks.length ≤ 130 ∧ Good (-1) p.Hunks ∧ OkText text ∧ Fits text p.Hunks ∧ (rawS p.Hunks text 0).length ≤ 120 ∧ applyF p text = (rawS p.Hunks text 0, ⟨0, 0⟩) := by
  unfold applyF at h ⊢
  by_cases hp : (patchFault p).Code ≠ 0
  · rw [if_pos hp] at h; exact absurd h hp
  · rw [if_neg hp] at h ⊢
    by_cases ht : (textFault text).Code ≠ 0
    · rw [if_pos ht] at h; exact absurd h ht
    · rw [if_neg ht] at h ⊢
      cases ho : oscan text 0 p.Hunks with
      | some f =>
        rw [ho] at h
        have := oscan_code text _ _ _ ho
        simp only at h
        rw [this] at h; cases h
      | none =>
        rw [ho] at h
        simp only at h ⊢
        by_cases h120 : (rawS p.Hunks text 0).length > 120
        · rw [if_pos h120] at h; cases h
        · rw [if_neg h120]
          obtain ⟨a1, a2⟩ := (patchFault_good p).1 (by omega)
          exact ⟨a1, a2, (okText_iff _).2 ((textFault_zero _).2 (by omega)), (oscan_fits _ _ _).1 ho, by omega, rfl⟩
end Go.Dc
