/- Joined by sub.py from texts of mine: XDcQB XDcQC XDcQD XDcUH XDcUI XDcUB XDcUC:edF,noC XDcUJ XDcVE XDcUM XDcUO:pos_eq,erase_rel,pos_erase,ins_erase XDcUP XDcUQ -/
import Derived.Test.YthpkobkngplbbaaDoorDcNB
set_option linter.unusedSimpArgs false
set_option linter.unusedVariables false
set_option maxRecDepth 4000
namespace Go.Dc
open Go

theorem end_f (h : Hunk) (h0 : -1000000 ≤ h.At) (h1 : h.At ≤ 1000000) (h2 : h.Old.length ≤ 1000000) : textpatch_End h = some (h.At + h.Old.length) := by
  unfold textpatch_End
  rw [ck_eq (by omega) (by omega)]; rfl

/-- the code of a hunk behind an end -/
def hcode (h : Hunk) (e : Int) : Int :=
  if h.At < 0 ∨ h.At > 120 then 3 else if (textFault h.Old).Code ≠ 0 then (textFault h.Old).Code else if (textFault h.New).Code ≠ 0 then (textFault h.New).Code else
  if h.Old.length + h.New.length = 0 ∨ h.At ≤ e then 5 else if h.At + h.Old.length > 120 then 3 else 0

theorem textFault_len {l : List ByteArray} (h : (textFault l).Code = 0) : l.length ≤ 120 := ((okText_iff l).2 ((textFault_zero l).2 h)).1

theorem hunk_f (h : Hunk) (e : Int) : textpatch_hunk h e = some (hcode h e) := by
  unfold textpatch_hunk hcode
  by_cases ha : h.At < 0 ∨ h.At > 120
  · rw [if_pos ha]
    have : (if decide (h.At < 0) = true then some true else some (decide (h.At > 120))) = some true := by
      rw [ite_dec]
      by_cases h0 : h.At < 0
      · rw [if_pos h0]
      · rw [if_neg h0, decide_eq_true (by omega)]
    rw [this, Option.bind_some, if_pos rfl]
  · rw [if_neg ha]
    have : (if decide (h.At < 0) = true then some true else some (decide (h.At > 120))) = some false := by
      rw [ite_dec, if_neg (by omega), decide_eq_false (by omega)]
    rw [this, Option.bind_some, if_neg (by decide)]
    have l0 : textpatch_hunk.l1 h 0 = if (textFault h.Old).Code ≠ 0 then some (.done (.inl (textFault h.Old).Code)) else some (.next 1) := by
      unfold textpatch_hunk.l1
      rw [ite_dec, if_pos (by decide), show at? ([h.Old, h.New] : List (List ByteArray)) 0 = some h.Old from rfl, Option.bind_some, validate_f, Option.bind_some]
      rcases textFault_ok h.Old with h1 | h1
      · rw [h1, if_neg (by decide), if_neg (by decide), ck_eq (by omega) (by omega)]; rfl
      · rw [if_pos h1, if_pos (faultless.2 fun h2 => h1 h2.1)]
    have l1 : textpatch_hunk.l1 h 1 = if (textFault h.New).Code ≠ 0 then some (.done (.inl (textFault h.New).Code)) else some (.next 2) := by
      unfold textpatch_hunk.l1
      rw [ite_dec, if_pos (by decide), show at? ([h.Old, h.New] : List (List ByteArray)) 1 = some h.New from rfl, Option.bind_some, validate_f, Option.bind_some]
      rcases textFault_ok h.New with h1 | h1
      · rw [h1, if_neg (by decide), if_neg (by decide), ck_eq (by omega) (by omega)]; rfl
      · rw [if_pos h1, if_pos (faultless.2 fun h2 => h1 h2.1)]
    have l2 : textpatch_hunk.l1 h 2 = some (.done (.inr ())) := by
      unfold textpatch_hunk.l1
      rw [ite_dec, if_neg (by decide)]
    by_cases ho : (textFault h.Old).Code ≠ 0
    · rw [if_pos ho] at l0 ⊢
      rw [iter_done l0, Option.bind_some]
    · rw [if_neg ho] at l0 ⊢
      by_cases hw : (textFault h.New).Code ≠ 0
      · rw [if_pos hw] at l1 ⊢
        rw [iter_next l0, iter_done l1, Option.bind_some]
      · rw [if_neg hw] at l1 ⊢
        rw [iter_next l0, iter_next l1, iter_done l2, Option.bind_some]
        have s1 := textFault_len (l := h.Old) (by omega)
        have s2 := textFault_len (l := h.New) (by omega)
        simp only
        unfold textpatch_hunk.j1
        rw [ck_eq (by omega) (by omega), Option.bind_some]
        by_cases hm : h.Old.length + h.New.length = 0 ∨ h.At ≤ e
        · rw [if_pos hm]
          have : (if decide ((h.Old.length : Int) + (h.New.length : Int) = 0) = true then some true else some (decide (h.At ≤ e))) = some true := by
            rw [ite_dec]
            by_cases h0 : (h.Old.length : Int) + (h.New.length : Int) = 0
            · rw [if_pos h0]
            · rw [if_neg h0, decide_eq_true (by omega)]
          rw [this, Option.bind_some, if_pos rfl]
        · rw [if_neg hm]
          have : (if decide ((h.Old.length : Int) + (h.New.length : Int) = 0) = true then some true else some (decide (h.At ≤ e))) = some false := by
            rw [ite_dec, if_neg (by omega), decide_eq_false (by omega)]
          rw [this, Option.bind_some, if_neg (by decide), end_f h (by omega) (by omega) (by omega), Option.bind_some, ite_dec]
          split <;> rfl

theorem hcode_zero {h : Hunk} {e : Int} (hc : hcode h e = 0) : 0 ≤ h.At ∧ (textFault h.Old).Code = 0 ∧ (textFault h.New).Code = 0 ∧ 0 < h.Old.length + h.New.length ∧ e < h.At ∧ h.At + h.Old.length ≤ 120 := by
  unfold hcode at hc
  split at hc
  · cases hc
  · split at hc
    · rename_i h1 h2; exact absurd hc h2
    · split at hc
      · rename_i h1 h2 h3; exact absurd hc h3
      · split at hc
        · cases hc
        · split at hc
          · cases hc
          · omega

/-- the first hunk with a fault -/
def pscan : Int → Int → List Hunk → Option Fault
  | _, _, [] => Option.none
  | i, e, h :: r => if hcode h e = 0 then pscan (i + 1) (h.At + h.Old.length) r else some ⟨hcode h e, i⟩

def patchFault (p : Patch) : Fault := if p.Hunks.length > 130 then ⟨2, -1⟩ else (pscan 0 (-1) p.Hunks).getD ⟨0, 0⟩

theorem pscan_code : ∀ (l : List Hunk) (i e : Int) (f : Fault), pscan i e l = some f → f.Code ≠ 0
  | [], _, _, _, h => by cases h
  | x :: r, i, e, f, h => by
    rw [pscan] at h
    split at h
    · exact pscan_code r _ _ f h
    · rename_i h0; cases h; exact h0

theorem patchFault_ok (p : Patch) : patchFault p = ⟨0, 0⟩ ∨ (patchFault p).Code ≠ 0 := by
  unfold patchFault
  split
  · right; show (2 : Int) ≠ 0; decide
  · cases h : pscan 0 (-1) p.Hunks with
    | none => left; rfl
    | some f => right; exact pscan_code _ _ _ f h
theorem patchFault_zero (p : Patch) : patchFault p = ⟨0, 0⟩ ↔ (patchFault p).Code = 0 := by
  rcases patchFault_ok p with h | h
  · rw [h]; exact ⟨fun _ => rfl, fun _ => rfl⟩
  · exact ⟨fun h2 => by rw [h2], fun h2 => absurd h2 h⟩

theorem pvalidate_f (p : Patch) : textpatch_Validate p = some (patchFault p) := by
  unfold textpatch_Validate patchFault
  rw [ite_dec]
  by_cases h130 : p.Hunks.length > 130
  · rw [if_pos (by omega), if_pos h130]
  · rw [if_neg (by omega), if_neg h130]
    have key : ∀ (rest : List Hunk) (k : Nat) (e : Int), p.Hunks.drop k = rest → iter (fun s => textpatch_Validate.l1 p s.1 s.2) ((k : Int), e) = some (orL (pscan k e rest)) := by
      intro rest
      induction rest with
      | nil =>
        intro k e hk
        have := drop_end hk
        refine iter_done ?_
        unfold textpatch_Validate.l1
        rw [ite_dec, if_neg (by omega)]; rfl
      | cons h r ih =>
        intro k e hk
        obtain ⟨hlt, hh, hr⟩ := drop_at hk
        rw [pscan]
        by_cases hc : hcode h e = 0
        · obtain ⟨z1, z2, z3, z4, z5, z6⟩ := hcode_zero hc
          have e0 : textpatch_Validate.l1 p (k : Int) e = some (.next (((k + 1 : Nat) : Int), h.At + h.Old.length)) := by
            unfold textpatch_Validate.l1
            rw [ite_dec, if_pos (by omega), at_nat hlt, Option.bind_some, hh, hunk_f, Option.bind_some, hc, ite_ndec, if_pos rfl, end_f h (by omega) (by omega) (by omega), Option.bind_some, ck_eq (by omega) (by omega), Option.bind_some]; rfl
          rw [if_pos hc, iter_next e0]; exact ih (k + 1) _ hr
        · rw [if_neg hc]
          refine iter_done ?_
          unfold textpatch_Validate.l1
          rw [ite_dec, if_pos (by omega), at_nat hlt, Option.bind_some, hh, hunk_f, Option.bind_some, ite_ndec, if_neg hc]; rfl
    rw [show (0 : Int) = ((0 : Nat) : Int) from rfl, key p.Hunks 0 _ rfl, Option.bind_some]
    cases pscan ((0 : Nat) : Int) (-1) p.Hunks <;> rfl

/-- hunks in order, behind an end -/
def Good : Int → List Hunk → Prop
  | _, [] => True
  | e, h :: r => hcode h e = 0 ∧ Good (h.At + h.Old.length) r

theorem pscan_good : ∀ (l : List Hunk) (i e : Int), pscan i e l = Option.none ↔ Good e l
  | [], _, _ => by simp [pscan, Good]
  | h :: r, i, e => by
    rw [pscan, Good]
    by_cases hc : hcode h e = 0
    · rw [if_pos hc, pscan_good r]; simp [hc]
    · rw [if_neg hc]; simp [hc]

theorem patchFault_good (p : Patch) : (patchFault p).Code = 0 ↔ p.Hunks.length ≤ 130 ∧ Good (-1) p.Hunks := by
  rw [← patchFault_zero, ← pscan_good p.Hunks 0 (-1)]
  unfold patchFault
  by_cases h : p.Hunks.length > 130
  · rw [if_pos h]; constructor
    · intro h2; cases h2
    · intro h2; omega
  · rw [if_neg h]
    cases hs : pscan 0 (-1) p.Hunks with
    | none => simp; omega
    | some f =>
      have := pscan_code _ _ _ f hs
      constructor
      · intro h2; simp at h2; rw [h2] at this; exact absurd rfl this
      · intro h2; cases h2.2

def occ (text part : List ByteArray) (k : Nat) : Prop := k ≤ text.length ∧ (text.drop k).take part.length = part
instance (text part : List ByteArray) (k : Nat) : Decidable (occ text part k) := by unfold occ; infer_instance

theorem occ_len {text part : List ByteArray} {k : Nat} (h : occ text part k) : k + part.length ≤ text.length := by
  have h1 := congrArg List.length h.2
  simp at h1
  have := h.1
  omega

theorem sequal_f (a b : List ByteArray) (hb : a.length ≤ 1000000) : slices_Equal a b = some (decide (a = b)) := by
  unfold slices_Equal
  rw [ite_ndec]
  by_cases hl : a.length = b.length
  · rw [if_pos (by omega)]
    have key : ∀ (rest : List ByteArray) (k : Nat), a.drop k = rest → a.take k = b.take k → iter (fun s => slices_Equal.l1 a b s) (k : Int) = some (if a = b then .inr () else .inl false) := by
      intro rest
      induction rest with
      | nil =>
        intro k hk ht
        have := drop_end hk
        rw [List.take_of_length_le (by omega), List.take_of_length_le (by omega)] at ht
        rw [if_pos ht]
        refine iter_done ?_
        unfold slices_Equal.l1
        rw [ite_dec, if_neg (by omega)]
      | cons x r ih =>
        intro k hk ht
        obtain ⟨hlt, hx, hr⟩ := drop_at hk
        have hlt2 : k < b.length := by omega
        by_cases he : x = b[k]
        · have e0 : slices_Equal.l1 a b (k : Int) = some (.next ((k + 1 : Nat) : Int)) := by
            unfold slices_Equal.l1
            rw [ite_dec, if_pos (by omega), at_nat hlt, Option.bind_some, hx, at_nat hlt2, Option.bind_some, ite_ndec, if_pos he, ck_eq (by omega) (by omega), Option.bind_some]; rfl
          rw [iter_next e0]
          exact ih (k + 1) hr (by rw [List.take_succ_eq_append_getElem hlt, List.take_succ_eq_append_getElem hlt2, ht, hx, he])
        · rw [if_neg (fun e => he (by rw [← hx]; simp only [e]))]
          refine iter_done ?_
          unfold slices_Equal.l1
          rw [ite_dec, if_pos (by omega), at_nat hlt, Option.bind_some, hx, at_nat hlt2, Option.bind_some, ite_ndec, if_neg he]
    rw [show (0 : Int) = ((0 : Nat) : Int) from rfl, key a 0 rfl rfl, Option.bind_some]
    by_cases h : a = b
    · rw [if_pos h, decide_eq_true h]; rfl
    · rw [if_neg h, decide_eq_false h]
  · rw [if_neg (by omega), decide_eq_false (fun e => hl (by rw [e]))]

theorem occurs_f (text part : List ByteArray) (i : Int) (h1 : text.length ≤ 1000000) (h2 : part.length ≤ 1000000) : lines_Occurs text part i = some (decide (0 ≤ i ∧ occ text part i.toNat)) := by
  unfold lines_Occurs
  by_cases hi : 0 ≤ i ∧ i ≤ text.length
  · have e1 : (if decide (i ≥ 0) = true then some (decide (i ≤ (text.length : Int))) else some false) = some true := by
      rw [ite_dec, if_pos hi.1, decide_eq_true hi.2]
    rw [e1, Option.bind_some, if_pos rfl, ck_eq (by omega) (by omega), Option.bind_some, Option.bind_some, ite_dec]
    by_cases hp : (part.length : Int) ≤ text.length - i
    · rw [if_pos hp, ck_eq (by omega) (by omega), Option.bind_some, cut_eq (by omega) (by omega) (by omega), Option.bind_some, sequal_f _ _ (by simp; omega), Option.bind_some, Option.bind_some]
      congr 1
      have : (text.take (i + (part.length : Int)).toNat).drop i.toNat = (text.drop i.toNat).take part.length := by
        rw [List.take_drop]
        congr 2
        omega
      rw [this]
      rw [decide_eq_decide]
      unfold occ
      constructor
      · intro h; exact ⟨by omega, by omega, h⟩
      · intro h; exact h.2.2
    · rw [if_neg hp, Option.bind_some]
      congr 1
      rw [eq_comm, decide_eq_false_iff_not]
      rintro ⟨_, h⟩
      have := occ_len h
      omega
  · have e1 : (if decide (i ≥ 0) = true then some (decide (i ≤ (text.length : Int))) else some false) = some false := by
      rw [ite_dec]
      by_cases h0 : i ≥ 0
      · rw [if_pos h0, decide_eq_false (by omega)]
      · rw [if_neg h0]
    rw [e1]
    simp only [Option.bind_some, Bool.false_eq_true, if_false]
    congr 1
    rw [eq_comm, decide_eq_false_iff_not]
    rintro ⟨h0, h⟩
    exact hi ⟨h0, by have := h.1; omega⟩

def rawS : List Hunk → List ByteArray → Nat → List ByteArray
  | [], text, low => text.drop low
  | h :: r, text, low => (text.drop low).take (h.At.toNat - low) ++ (h.New ++ rawS r text (h.At.toNat + h.Old.length))

/-- every hunk's old lines occur -/
def Fits (text : List ByteArray) (l : List Hunk) : Prop := ∀ h ∈ l, occ text h.Old h.At.toNat

theorem raw_f (text : List ByteArray) (ht : text.length ≤ 120) (hs : List Hunk) (hn : hs.length ≤ 130) : ∀ (rest : List Hunk) (k low : Nat) (out : List ByteArray) (e : Int), hs.drop k = rest → Good e rest → Fits text rest → (low : Int) ≤ e + 1 → low ≤ text.length → out.length ≤ k * 240 → k ≤ 130 →
    ∃ fin : Nat, fin ≤ text.length ∧ ∃ o, iter (fun s => textpatch_Raw.l1 hs text s.1 s.2.1 s.2.2) ((k : Int), out, (low : Int)) = some (o, (fin : Int)) ∧ o ++ text.drop fin = out ++ rawS rest text low ∧ o.length ≤ 131 * 240 := by
  intro rest
  induction rest with
  | nil =>
    intro k low out e hk _ _ _ hlow hout hk130
    have := drop_end hk
    refine ⟨low, hlow, out, iter_done ?_, rfl, ?_⟩
    · unfold textpatch_Raw.l1
      rw [ite_dec, if_neg (by omega)]
    · have : k * 240 ≤ 130 * 240 := Nat.mul_le_mul_right _ hk130
      omega
  | cons h r ih =>
    intro k low out e hk hg hf hle hlow hout hk130
    obtain ⟨hlt, hh, hr⟩ := drop_at hk
    obtain ⟨hc, hg'⟩ := hg
    obtain ⟨z1, z2, z3, z4, z5, z6⟩ := hcode_zero hc
    have ho := occ_len (hf h (by simp))
    have l2 := textFault_len z3
    have hka : k < 130 := by omega
    have hlo : low ≤ h.At.toNat := by omega
    have e0 : textpatch_Raw.l1 hs text (k : Int) out (low : Int) = some (.next (((k + 1 : Nat) : Int), out ++ (text.drop low).take (h.At.toNat - low) ++ h.New, ((h.At.toNat + h.Old.length : Nat) : Int))) := by
      unfold textpatch_Raw.l1
      have hcut : (text.take h.At.toNat).drop (low : Int).toNat = (text.drop low).take (h.At.toNat - low) := by
        rw [Int.toNat_natCast, List.drop_take]
      rw [ite_dec, if_pos (by omega), at_nat hlt, Option.bind_some, hh, cut_eq (by omega) (by omega) (by omega), Option.bind_some, hcut,
        app_eq (by simp; omega), Option.bind_some, app_eq (by simp; omega), Option.bind_some, end_f h (by omega) (by omega) (by omega), Option.bind_some, ck_eq (by omega) (by omega), Option.bind_some,
        show h.At + (h.Old.length : Int) = ((h.At.toNat + h.Old.length : Nat) : Int) by omega]
      rfl
    rw [iter_next e0]
    obtain ⟨fin, f1, o, f2, f3, f4⟩ := ih (k + 1) (h.At.toNat + h.Old.length) (out ++ (text.drop low).take (h.At.toNat - low) ++ h.New) (h.At + h.Old.length) hr hg' (fun q hq => hf q (List.mem_cons_of_mem _ hq)) (by omega) (by omega) (by simp; omega) (by omega)
    refine ⟨fin, f1, o, f2, ?_, f4⟩
    rw [f3, rawS]
    simp only [List.append_assoc]

theorem Raw_f {text : List ByteArray} (ht : text.length ≤ 120) {hs : List Hunk} (hn : hs.length ≤ 130) (hg : Good (-1) hs) (hf : Fits text hs) : textpatch_Raw hs text 0 (text.length : Int) = some (rawS hs text 0) := by
  obtain ⟨fin, f1, o, f2, f3, f4⟩ := raw_f text ht hs hn hs 0 0 [] (-1) rfl hg hf (by omega) (Nat.zero_le _) (by simp) (by omega)
  unfold textpatch_Raw
  rw [show ((0 : Nat) : Int) = 0 from rfl] at f2
  rw [f2, Option.bind_some]
  unfold textpatch_Raw.j1
  rw [cut_eq (by omega) (by omega) (by omega), Option.bind_some, Int.toNat_natCast, Int.toNat_natCast, List.take_length, app_eq (by simp; omega), Option.bind_some, f3]
  rfl

/-- the first hunk whose old lines do not occur -/
def oscan (text : List ByteArray) : Int → List Hunk → Option Fault
  | _, [] => Option.none
  | i, h :: r => if occ text h.Old h.At.toNat then oscan text (i + 1) r else some ⟨19, i⟩

theorem oscan_fits (text : List ByteArray) : ∀ (l : List Hunk) (i : Int), oscan text i l = Option.none ↔ Fits text l
  | [], _ => by simp [oscan, Fits]
  | h :: r, i => by
    rw [oscan]
    by_cases hc : occ text h.Old h.At.toNat
    · rw [if_pos hc, oscan_fits text r]; simp [Fits, hc]
    · rw [if_neg hc]; simp [Fits, hc]

theorem oscan_code (text : List ByteArray) : ∀ (l : List Hunk) (i : Int) (f : Fault), oscan text i l = some f → f.Code = 19
  | [], _, _, h => by cases h
  | x :: r, i, f, h => by
    rw [oscan] at h
    split at h
    · exact oscan_code text r _ f h
    · cases h; rfl

def applyF (p : Patch) (text : List ByteArray) : List ByteArray × Fault :=
  if (patchFault p).Code ≠ 0 then ([], patchFault p) else if (textFault text).Code ≠ 0 then ([], ⟨(textFault text).Code, -2⟩) else
  match oscan text 0 p.Hunks with
  | some f => ([], f)
  | Option.none => if (rawS p.Hunks text 0).length > 120 then ([], ⟨10, -1⟩) else (rawS p.Hunks text 0, ⟨0, 0⟩)

theorem good_at : ∀ {l : List Hunk} {e : Int}, Good e l → -1 ≤ e → ∀ h ∈ l, 0 ≤ h.At ∧ h.At + h.Old.length ≤ 120 ∧ (textFault h.Old).Code = 0 ∧ (textFault h.New).Code = 0 ∧ 0 < h.Old.length + h.New.length
  | x :: r, e, hg, he, h, hm => by
    obtain ⟨hc, hg'⟩ := hg
    obtain ⟨z1, z2, z3, z4, z5, z6⟩ := hcode_zero hc
    rcases List.mem_cons.1 hm with rfl | hm
    · exact ⟨z1, z6, z2, z3, z4⟩
    · exact good_at hg' (by omega) h hm

theorem apply_f (p : Patch) (text : List ByteArray) : textpatch_Apply p text = some (applyF p text) := by
  unfold textpatch_Apply applyF
  rw [pvalidate_f, Option.bind_some]
  rcases patchFault_ok p with hp | hp
  · rw [hp]
    simp only [ne_eq, not_true, if_false]
    rw [if_neg (by simp), second_f, Option.bind_some]
    rcases textFault_ok text with ht | ht
    · rw [ht]
      simp only [ne_eq, not_true, if_false, if_true]
      rw [if_neg (by simp)]
      obtain ⟨hn, hg⟩ := (patchFault_good p).1 ((patchFault_zero p).1 hp)
      have hl := textFault_len ((textFault_zero text).1 ht)
      have key : ∀ (rest : List Hunk) (k : Nat), p.Hunks.drop k = rest → (∀ h ∈ rest, 0 ≤ h.At ∧ h.Old.length ≤ 120) → iter (fun s => textpatch_Apply.l1 p text s) (k : Int) = some (orL ((oscan text k rest).map fun f => (([] : List ByteArray), f))) := by
        intro rest
        induction rest with
        | nil =>
          intro k hk _
          have := drop_end hk
          refine iter_done ?_
          unfold textpatch_Apply.l1
          rw [ite_dec, if_neg (by omega)]; rfl
        | cons h r ih =>
          intro k hk hall
          obtain ⟨hlt, hh, hr⟩ := drop_at hk
          obtain ⟨h0, h1⟩ := hall h (by simp)
          rw [oscan]
          have eo : lines_Occurs text h.Old h.At = some (decide (occ text h.Old h.At.toNat)) := by
            rw [occurs_f _ _ _ (by omega) (by omega)]; simp [h0]
          by_cases hc : occ text h.Old h.At.toNat
          · have e0 : textpatch_Apply.l1 p text (k : Int) = some (.next ((k + 1 : Nat) : Int)) := by
              unfold textpatch_Apply.l1
              rw [ite_dec, if_pos (by omega), at_nat hlt, Option.bind_some, hh, eo, Option.bind_some, decide_eq_true hc, if_neg (by decide), ck_eq (by omega) (by omega), Option.bind_some]; rfl
            rw [if_pos hc, iter_next e0]
            exact ih (k + 1) hr (fun q hq => hall q (List.mem_cons_of_mem _ hq))
          · rw [if_neg hc]
            refine iter_done ?_
            unfold textpatch_Apply.l1
            rw [ite_dec, if_pos (by omega), at_nat hlt, Option.bind_some, hh, eo, Option.bind_some, decide_eq_false hc, if_pos (by decide)]; rfl
      rw [show (0 : Int) = ((0 : Nat) : Int) from rfl, key p.Hunks 0 rfl (fun h hm => by
        obtain ⟨z1, _, z2, _⟩ := good_at hg (by omega) h hm
        exact ⟨z1, textFault_len z2⟩), Option.bind_some, show (((0 : Nat) : Int)) = 0 from rfl]
      cases ho : oscan text 0 p.Hunks with
      | some f => rfl
      | none =>
        have hf := (oscan_fits text p.Hunks 0).1 ho
        simp only [Option.map_none, orL]
        unfold textpatch_Apply.j1
        rw [Raw_f hl hn hg hf, Option.bind_some, ite_dec]
        by_cases h120 : (rawS p.Hunks text 0).length > 120
        · rw [if_pos (by omega), if_pos h120]
        · rw [if_neg (by omega), if_neg h120]
    · simp only [ne_eq, ht, not_false_iff, if_true, if_false]
      rw [if_pos (by simp)]
  · simp only [ne_eq, hp, not_false_iff, if_true]
    rw [if_pos (by simp [hp])]

theorem applyF_ok {p : Patch} {text : List ByteArray} (h : (applyF p text).2.Code = 0) : p.Hunks.length ≤ 130 ∧ Good (-1) p.Hunks ∧ OkText text ∧ Fits text p.Hunks ∧ (rawS p.Hunks text 0).length ≤ 120 ∧ applyF p text = (rawS p.Hunks text 0, ⟨0, 0⟩) := by
  unfold applyF at h ⊢
  by_cases hp : (patchFault p).Code ≠ 0
  · rw [if_pos hp] at h; exact absurd h hp
  · rw [if_neg hp] at h ⊢
    by_cases ht : (textFault text).Code ≠ 0
    · rw [if_pos ht] at h; exact absurd h ht
    · rw [if_neg ht] at h ⊢
      cases ho : oscan text 0 p.Hunks with
      | some f =>
        rw [ho] at h
        have := oscan_code text _ _ _ ho
        simp only at h
        rw [this] at h; cases h
      | none =>
        rw [ho] at h
        simp only at h ⊢
        by_cases h120 : (rawS p.Hunks text 0).length > 120
        · rw [if_pos h120] at h; cases h
        · rw [if_neg h120]
          obtain ⟨a1, a2⟩ := (patchFault_good p).1 (by omega)
          exact ⟨a1, a2, (okText_iff _).2 ((textFault_zero _).2 (by omega)), (oscan_fits _ _ _).1 ho, by omega, rfl⟩
def gr (h : Hunk) : Int := (h.New.length : Int) - h.Old.length
def rng (h : Hunk) : Range_commute := ⟨h.At, h.At + h.Old.length, gr h⟩
def newR : Int → List Hunk → List Range_commute
  | _, [] => []
  | s, h :: r => ⟨h.At + s, h.At + s + h.New.length, gr h⟩ :: newR (s + gr h) r
def tch (a b : Range_commute) : Bool := decide (a.High ≥ b.Low) && decide (b.High ≥ a.Low)
/-- a hunk of small numbers -/
def SmH (B : Int) (h : Hunk) : Prop := -B ≤ h.At ∧ h.At ≤ B ∧ h.Old.length ≤ 120 ∧ h.New.length ≤ 120
def Sm (B : Int) (l : List Hunk) : Prop := l.length ≤ 130 ∧ ∀ h ∈ l, SmH B h

theorem growth_f (h : Hunk) (h1 : h.Old.length ≤ 120) (h2 : h.New.length ≤ 120) : textpatch_Growth h = some (gr h) := by
  unfold textpatch_Growth; rw [ck_eq (by omega) (by omega)]; rfl
theorem oldRanges_f {B : Int} (hB : B ≤ 20000) (p : Patch) (hp : Sm B p.Hunks) : commute_OldRanges p = some (p.Hunks.map rng) := by
  obtain ⟨hl, hs⟩ := hp
  have key : ∀ (rest : List Hunk) (k : Nat) (out : List Range_commute), p.Hunks.drop k = rest → out.length = k → iter (fun s => commute_OldRanges.l1 p s.1 s.2) ((k : Int), out) = some (out ++ rest.map rng) := by
    intro rest
    induction rest with
    | nil =>
      intro k out hk _
      have := drop_end hk
      refine iter_done ?_
      simp only
      unfold commute_OldRanges.l1
      rw [ite_dec, if_neg (by omega), List.map_nil, List.append_nil]
    | cons h r ih =>
      intro k out hk h3
      obtain ⟨hlt, hh, hr⟩ := drop_at hk
      obtain ⟨b1, b2, b3, b4⟩ := hs h (hh ▸ List.getElem_mem hlt)
      have e0 : commute_OldRanges.l1 p (k : Int) out = some (.next (((k + 1 : Nat) : Int), out ++ [rng h])) := by
        unfold commute_OldRanges.l1
        rw [ite_dec, if_pos (by omega), at_nat hlt, Option.bind_some, hh, end_f h (by omega) (by omega) (by omega), Option.bind_some, growth_f h b3 b4, Option.bind_some,
          app_eq (by simp only [List.length_singleton]; omega), Option.bind_some, ck_eq (by omega) (by omega), Option.bind_some]
        rfl
      rw [iter_next e0, ih (k + 1) _ hr (by simp; omega), List.map_cons, List.append_assoc]
      rfl
  unfold commute_OldRanges
  rw [show (0 : Int) = ((0 : Nat) : Int) from rfl, key p.Hunks 0 [] rfl rfl, Option.bind_some]
  rfl

theorem clone_f (l : List ByteArray) (h : l.length ≤ 1000000) : slices_Clone l = some l := by
  unfold slices_Clone
  have e : ((app? 16 ([] : List ByteArray) l).bind fun y1 => some y1) = some l := by
    rw [app_eq (by simp only [List.length_nil]; omega)]; rfl
  rw [e, nilIf_same (fun h => by rw [h])]

theorem fless {f : Fault} (h : f = ⟨0, 0⟩ ∨ f.Code ≠ 0) : (!(decide (f.Code = 0) && decide (f.Index = 0))) = decide (f.Code ≠ 0) := by
  rcases h with h | h
  · rw [h]; rfl
  · simp [h]

/-- a piece: whose it is, how far behind the last one it begins, what it takes and what it gives -/
structure Pc where
  k : Bool
  g : Int
  o : List ByteArray
  n : List ByteArray
/-- the hunks of one side, where the other side's pieces count as given (u) or as taken -/
def sel (t u : Bool) : Int → List Pc → List Hunk
  | _, [] => []
  | e, c :: r => if c.k = t then ⟨e + c.g, c.o, c.n⟩ :: sel t u (e + c.g + c.o.length) r else sel t u (e + c.g + (if u = true then (c.n.length : Int) else c.o.length)) r
theorem sel_s {t u : Bool} {c : Pc} {r : List Pc} {e : Int} (h : c.k = t) : sel t u e (c :: r) = ⟨e + c.g, c.o, c.n⟩ :: sel t u (e + c.g + c.o.length) r := by rw [sel, if_pos h]
theorem sel_o {t : Bool} {c : Pc} {r : List Pc} {e : Int} (h : ¬ c.k = t) : sel t false e (c :: r) = sel t false (e + c.g + c.o.length) r := by rw [sel, if_neg h, if_neg (by decide)]
theorem sel_n {t : Bool} {c : Pc} {r : List Pc} {e : Int} (h : ¬ c.k = t) : sel t true e (c :: r) = sel t true (e + c.g + c.n.length) r := by rw [sel, if_neg h, if_pos rfl]
def Val (m : List Pc) : Prop := ∀ c ∈ m, 1 ≤ c.g
theorem val_nil : Val [] := fun _ hc => by cases hc
def Srt : Int → List Hunk → Prop
  | _, [] => True
  | e, h :: r => e < h.At ∧ Srt (h.At + h.Old.length) r
def NoT (a b : List Range_commute) : Prop := ∀ x ∈ a, ∀ y ∈ b, tch x y = false
theorem lt_of_tch {a b : Range_commute} (h : tch a b = false) : a.High < b.Low ∨ b.High < a.Low := by
  unfold tch at h
  by_cases h1 : a.High ≥ b.Low
  · by_cases h2 : b.High ≥ a.Low
    · rw [decide_eq_true h1, decide_eq_true h2] at h; cases h
    · right; omega
  · left; omega

/-- two sorted rows of hunks that do not touch are the sides of one row of pieces -/
theorem pieces : ∀ (N : Nat) (pl ql : List Hunk) (e s : Int), pl.length + ql.length ≤ N → Srt e pl → Srt (e + s) ql → NoT (newR s pl) (ql.map rng) → ∃ m, Val m ∧ pl = sel true false e m ∧ ql = sel false true (e + s) m := by
  intro N
  induction N with
  | zero =>
    intro pl ql e s hN _ _ _
    have h1 : pl = [] := List.eq_nil_of_length_eq_zero (by omega)
    have h2 : ql = [] := List.eq_nil_of_length_eq_zero (by omega)
    exact ⟨[], val_nil, h1, h2⟩
  | succ N ih =>
    intro pl ql e s hN hp hq hno
    have takeP : ∀ (h : Hunk) (pr : List Hunk), pl = h :: pr → Srt (h.At + h.Old.length + (s + gr h)) ql → ∃ m, Val m ∧ pl = sel true false e m ∧ ql = sel false true (e + s) m := by
      intro h pr hpl hq'
      subst hpl
      obtain ⟨m, m1, m2, m3⟩ := ih pr ql (h.At + h.Old.length) (s + gr h) (by simp at hN; omega) hp.2 hq' (fun x hx y hy => hno x (by rw [newR]; exact List.mem_cons_of_mem _ hx) y hy)
      refine ⟨⟨true, h.At - e, h.Old, h.New⟩ :: m, ?_, ?_, ?_⟩
      · intro c hc
        rcases List.mem_cons.1 hc with rfl | hc
        · have := hp.1; simp only; omega
        · exact m1 c hc
      · rw [sel_s (c := ⟨true, h.At - e, h.Old, h.New⟩) rfl]
        simp only
        rw [show e + (h.At - e) = h.At by omega, ← m2]
      · rw [sel_n (by simp)]
        simp only
        rw [show e + s + (h.At - e) + (h.New.length : Int) = h.At + h.Old.length + (s + gr h) by unfold gr; omega]
        exact m3
    have takeQ : ∀ (h : Hunk) (qr : List Hunk), ql = h :: qr → Srt (h.At + h.Old.length - s) pl → ∃ m, Val m ∧ pl = sel true false e m ∧ ql = sel false true (e + s) m := by
      intro h qr hql hp'
      subst hql
      have hq2 := hq.2
      rw [show h.At + (h.Old.length : Int) = h.At + h.Old.length - s + s by omega] at hq2
      obtain ⟨m, m1, m2, m3⟩ := ih pl qr (h.At + h.Old.length - s) s (by simp at hN; omega) hp' hq2 (fun x hx y hy => hno x hx y (by rw [List.map_cons]; exact List.mem_cons_of_mem _ hy))
      refine ⟨⟨false, h.At - s - e, h.Old, h.New⟩ :: m, ?_, ?_, ?_⟩
      · intro c hc
        rcases List.mem_cons.1 hc with rfl | hc
        · have := hq.1; simp only; omega
        · exact m1 c hc
      · rw [sel_o (by simp)]
        simp only
        rw [show e + (h.At - s - e) + (h.Old.length : Int) = h.At + h.Old.length - s by omega]
        exact m2
      · rw [sel_s (c := ⟨false, h.At - s - e, h.Old, h.New⟩) rfl]
        simp only
        rw [show e + s + (h.At - s - e) = h.At by omega, show h.At + (h.Old.length : Int) = h.At + h.Old.length - s + s by omega, ← m3]
    match hpl : pl, hql : ql with
    | [], [] => exact ⟨[], val_nil, rfl, rfl⟩
    | h :: pr, [] => exact takeP h pr rfl trivial
    | [], h :: qr => exact takeQ h qr rfl trivial
    | h :: pr, y :: qr =>
      have ht := hno ⟨h.At + s, h.At + s + h.New.length, gr h⟩ (by rw [newR]; simp) (rng y) (by simp)
      rcases lt_of_tch ht with h1 | h1
      · refine takeP h pr rfl ⟨?_, hq.2⟩
        have h1' : h.At + s + h.New.length < y.At := h1
        unfold gr; omega
      · refine takeQ y qr rfl ⟨?_, hp.2⟩
        have h1' : y.At + y.Old.length < h.At + s := h1
        omega

/-- the code of a change -/
def chF (c : TreeChange) : Int :=
  if c.Kind < 1 ∨ c.Kind > 4 then 4
  else if pathB c.Path = false ∨ (c.Kind = 3 ∧ pathB c.To = false) then 12
  else if (c.Kind ≠ 3 ∧ c.To ≠ ⟨#[]⟩) ∨ (c.Kind = 3 ∧ relB c.Path c.To = true) ∨ (c.Lines ≠ [] ∧ (c.Kind = 4 ∨ c.Kind = 3)) ∨ (c.Kind = 4 ∧ c.Patch.Hunks = []) ∨ (c.Kind ≠ 4 ∧ c.Patch.Hunks ≠ []) then 5
  else if (textFault c.Lines).Code ≠ 0 then (textFault c.Lines).Code else (patchFault c.Patch).Code

theorem len_pos_dec {α : Type} (l : List α) : decide ((l.length : Int) > 0) = decide (l ≠ []) := decide_eq_decide.2 (by cases l <;> simp <;> omega)
theorem rel_ok {c : TreeChange} (h : ¬ (pathB c.Path = false ∨ (c.Kind = 3 ∧ pathB c.To = false))) (h3 : c.Kind = 3) : c.Path.size ≤ 1000000 ∧ c.To.size ≤ 1000000 := by
  have h1 : pathB c.Path = true := by cases hh : pathB c.Path with | true => rfl | false => exact absurd (Or.inl hh) h
  have h2 : pathB c.To = true := by cases hh : pathB c.To with | true => rfl | false => exact absurd (Or.inr ⟨h3, hh⟩) h
  have := pathB_size h1
  have := pathB_size h2
  omega

theorem check_f (c : TreeChange) : treepatch_check c = some (chF c) := by
  unfold treepatch_check chF
  simp only [ValidPath_f, orB, andB, Option.bind_some, len_pos_dec]
  by_cases h1 : c.Kind < 1 ∨ c.Kind > 4
  · rw [if_pos h1, if_pos (by simpa using h1)]
  · rw [if_neg h1, if_neg (by simpa using h1)]
    have e2 : (!pathB c.Path || if decide (c.Kind = 3) = true then !pathB c.To else false) = decide (pathB c.Path = false ∨ (c.Kind = 3 ∧ pathB c.To = false)) := by
      by_cases h3 : c.Kind = 3 <;> cases pathB c.Path <;> cases pathB c.To <;> simp [h3]
    have e2' : (if !pathB c.Path = true then some true else (if decide (c.Kind = 3) = true then some (!pathB c.To) else some false).bind fun x3 => some x3) = some (decide (pathB c.Path = false ∨ (c.Kind = 3 ∧ pathB c.To = false))) := by
      rw [← e2]
      by_cases h3 : c.Kind = 3 <;> cases pathB c.Path <;> cases pathB c.To <;> simp [h3]
    by_cases h2 : pathB c.Path = false ∨ (c.Kind = 3 ∧ pathB c.To = false)
    · rw [if_pos h2]
      rw [decide_eq_true h2] at e2'
      simp only [Option.bind_some, andB, orB] at e2' ⊢
      rw [show (!pathB c.Path || (decide (c.Kind = 3) && !pathB c.To)) = true from by simpa using e2']
      rfl
    · rw [if_neg h2]
      rw [decide_eq_false h2] at e2'
      simp only [Option.bind_some, andB, orB] at e2' ⊢
      rw [show (!pathB c.Path || (decide (c.Kind = 3) && !pathB c.To)) = false from by simpa using e2']
      rw [if_neg (by decide)]
      have e3 : (if decide (c.Kind = 3) = true then (treepatch_Related c.Path c.To).bind fun y3 => some y3 else some false) = some (decide (c.Kind = 3) && relB c.Path c.To) := by
        by_cases h3 : c.Kind = 3
        · obtain ⟨a, b⟩ := rel_ok h2 h3
          rw [Related_f a b, decide_eq_true h3]; rfl
        · rw [decide_eq_false h3]; rfl
      rw [e3]
      simp only [Option.bind_some, orB]
      by_cases h5 : (c.Kind ≠ 3 ∧ c.To ≠ ⟨#[]⟩) ∨ (c.Kind = 3 ∧ relB c.Path c.To = true) ∨ (c.Lines ≠ [] ∧ (c.Kind = 4 ∨ c.Kind = 3)) ∨ (c.Kind = 4 ∧ c.Patch.Hunks = []) ∨ (c.Kind ≠ 4 ∧ c.Patch.Hunks ≠ [])
      · rw [if_pos h5]
        by_cases g1 : ((!decide (c.Kind = 3) && !decide (c.To = ⟨#[]⟩)) || (decide (c.Kind = 3) && relB c.Path c.To)) = true
        · rw [if_pos g1]
        · rw [if_neg g1]
          by_cases g2 : (decide (c.Lines ≠ []) && (decide (c.Kind = 4) || decide (c.Kind = 3))) = true
          · rw [if_pos g2]
          · rw [if_neg g2, if_pos]
            simp only [Bool.or_eq_true, Bool.and_eq_true, Bool.not_eq_true', decide_eq_true_eq, decide_eq_false_iff_not, ne_eq] at g1 g2 h5 ⊢
            by_cases k4 : c.Kind = 4 <;> by_cases kh : c.Patch.Hunks = [] <;> simp [k4, kh] at h5 g1 g2 ⊢
            all_goals first
              | omega
              | (rcases h5 with ⟨a, b⟩ | ⟨a, b⟩ | ⟨a, b⟩ <;> simp_all)
              | simp_all
      · rw [if_neg h5]
        rw [if_neg (by
          simp only [Bool.or_eq_true, Bool.and_eq_true, Bool.not_eq_true', decide_eq_true_eq, decide_eq_false_iff_not, ne_eq]
          intro h
          rcases h with h | h
          · exact h5 (Or.inl h)
          · exact h5 (Or.inr (Or.inl h)))]
        rw [if_neg (by
          simp only [Bool.or_eq_true, Bool.and_eq_true, decide_eq_true_eq]
          intro h
          exact h5 (Or.inr (Or.inr (Or.inl h))))]
        rw [if_neg (by
          simp only [Bool.not_eq_true', decide_eq_false_iff_not]
          intro h
          by_cases k4 : c.Kind = 4 <;> by_cases kh : c.Patch.Hunks = [] <;> simp [k4, kh] at h5 h)]
        rw [validate_f, Option.bind_some, fless (textFault_ok c.Lines), ite_dec, pvalidate_f]
        split <;> rfl

structure OkCh (c : TreeChange) : Prop where
  kind : 1 ≤ c.Kind ∧ c.Kind ≤ 4
  path : pathB c.Path = true
  to : c.Kind = 3 → pathB c.To = true ∧ relB c.Path c.To = false
  noTo : c.Kind ≠ 3 → c.To = ⟨#[]⟩
  noLines : c.Kind = 4 ∨ c.Kind = 3 → c.Lines = []
  hunks : c.Kind = 4 → c.Patch.Hunks ≠ []
  noHunks : c.Kind ≠ 4 → c.Patch.Hunks = []
  lines : (textFault c.Lines).Code = 0
  patch : (patchFault c.Patch).Code = 0

theorem chF_ok {c : TreeChange} : chF c = 0 ↔ OkCh c := by
  unfold chF
  constructor
  · intro h
    split at h
    · cases h
    · rename_i h1
      split at h
      · cases h
      · rename_i h2
        split at h
        · cases h
        · rename_i h3
          split at h
          · rename_i h4; exact absurd h h4
          · rename_i h4
            refine ⟨by omega, ?_, fun k => ⟨?_, ?_⟩, fun k => ?_, fun k => ?_, fun k e => ?_, fun k => ?_, by omega, h⟩
            · cases hh : pathB c.Path with | true => rfl | false => exact absurd (Or.inl hh) h2
            · cases hh : pathB c.To with | true => rfl | false => exact absurd (Or.inr ⟨k, hh⟩) h2
            · cases hh : relB c.Path c.To with | false => rfl | true => exact absurd (Or.inr (Or.inl ⟨k, hh⟩)) h3
            · exact Decidable.by_contra fun e => h3 (Or.inl ⟨k, e⟩)
            · exact Decidable.by_contra fun e => h3 (Or.inr (Or.inr (Or.inl ⟨e, k⟩)))
            · exact h3 (Or.inr (Or.inr (Or.inr (Or.inl ⟨k, e⟩))))
            · exact Decidable.by_contra fun e => h3 (Or.inr (Or.inr (Or.inr (Or.inr ⟨k, e⟩))))
  · rintro ⟨a1, a2, a3, a4, a5, a6, a7, a8, a9⟩
    rw [if_neg (by omega), if_neg, if_neg, if_neg (by omega), a9]
    · rintro (⟨h, e⟩ | ⟨h, e⟩ | ⟨e, h⟩ | ⟨h, e⟩ | ⟨h, e⟩)
      · exact e (a4 h)
      · rw [(a3 h).2] at e; cases e
      · exact e (a5 h)
      · exact a6 h e
      · exact e (a7 h)
    · rintro (h | ⟨h, e⟩)
      · rw [a2] at h; cases h
      · rw [(a3 h).1] at e; cases e

def pathsF (c : TreeChange) : List ByteArray := if c.Kind = 3 then [c.Path, c.To] else [c.Path]
theorem OkCh.size {c : TreeChange} (h : OkCh c) : ∀ p ∈ pathsF c, p.size ≤ 60 := by
  intro p hp
  unfold pathsF at hp
  split at hp
  · rename_i k
    simp only [List.mem_cons, List.not_mem_nil, or_false] at hp
    rcases hp with rfl | rfl
    · exact pathB_size h.path
    · exact pathB_size (h.to k).1
  · simp only [List.mem_singleton] at hp
    subst hp
    exact pathB_size h.path

abbrev noC : TreeChange := ⟨0, ByteArray.empty, ByteArray.empty, [], ⟨[]⟩⟩
def edF (path : ByteArray) (p : Patch) : TreeChange := ⟨4, path, ByteArray.empty, [], p⟩
def Lines (t : List ByteArray) : Prop := ∀ s ∈ t, OkLine s

theorem lines_of {t : List ByteArray} (h : (textFault t).Code = 0) : Lines t := ((okText_iff t).2 ((textFault_zero t).2 h)).2

theorem rawS_lines : ∀ (hs : List Hunk) (t : List ByteArray) (b : Nat), Lines t → (∀ h ∈ hs, Lines h.New) → Lines (rawS hs t b)
  | [], t, b, ht, _ => fun s hs => ht s (List.mem_of_mem_drop hs)
  | h :: r, t, b, ht, hn => by
    intro s hs
    rw [rawS] at hs
    rcases List.mem_append.1 hs with hs | hs
    · exact ht s (List.mem_of_mem_drop (List.mem_of_mem_take hs))
    · rcases List.mem_append.1 hs with hs | hs
      · exact hn h (by simp) s hs
      · exact rawS_lines r t _ ht (fun x hx => hn x (List.mem_cons_of_mem _ hx)) s hs

theorem both_f (a b : List ByteArray) : lines_Both a b = some (if (textFault a).Code ≠ 0 then textFault a else if (textFault b).Code = 0 then ⟨0, 0⟩ else ⟨(textFault b).Code, -2⟩) := by
  unfold lines_Both
  rw [validate_f, Option.bind_some]
  rcases textFault_ok a with h | h
  · rw [h, second_f]; rfl
  · rw [if_pos (faultless.2 fun h2 => h h2.1), if_pos h]

/-- what a Collector holds: hunks, the line it stands at, whether the last hunk is open -/
abbrev Cst := List Hunk × Int × Bool
def setLast (hs : List Hunk) (f : Hunk → Hunk) : List Hunk := match hs.getLast? with
  | some h => hs.dropLast ++ [f h]
  | Option.none => hs
def cKeep (s : Cst) : Cst := (s.1, s.2.1 + 1, false)
def cOpen (s : Cst) : List Hunk := if s.2.2 then s.1 else s.1 ++ [⟨s.2.1, [], []⟩]
def cDel (x : ByteArray) (s : Cst) : Cst := (setLast (cOpen s) fun h => { h with Old := h.Old ++ [x] }, s.2.1 + 1, true)
def cIns (y : ByteArray) (s : Cst) : Cst := (setLast (cOpen s) fun h => { h with New := h.New ++ [y] }, s.2.1, true)

/-- the hunks of the alignment -/
def scr : List ByteArray → List ByteArray → Cst → Cst
  | [], [], s => s
  | [], y :: b, s => scr [] b (cIns y s)
  | x :: a, [], s => scr a [] (cDel x s)
  | x :: a, y :: b, s => if x = y then scr a b (cKeep s) else if lcs a (y :: b) ≥ lcs (x :: a) b then scr a (y :: b) (cDel x s) else scr (x :: a) b (cIns y s)
 termination_by a b => a.length + b.length

theorem set_last_eq {hs : List Hunk} {h : Hunk} (hl : hs.getLast? = some h) (f : Hunk → Hunk) : ∃ hlt : hs.length - 1 < hs.length, hs[hs.length - 1] = h ∧ hs.set (hs.length - 1) (f h) = setLast hs f := by
  have hne : hs ≠ [] := by intro e; subst e; cases hl
  have hlt : hs.length - 1 < hs.length := by have := List.length_pos_iff.2 hne; omega
  have hgl : hs[hs.length - 1] = h := by
    rw [List.getLast?_eq_some_getLast hne] at hl
    simp only [Option.some.injEq] at hl
    rw [← hl, List.getLast_eq_getElem]
  refine ⟨hlt, hgl, ?_⟩
  unfold setLast
  rw [hl]
  simp only
  rw [List.set_eq_take_append_cons_drop, if_pos hlt, List.dropLast_eq_take]
  have : hs.drop (hs.length - 1 + 1) = [] := List.drop_eq_nil_of_le (by omega)
  rw [this]

theorem cOpen_last (s : Cst) (h : s.2.2 = true → s.1 ≠ []) : ∃ q, (cOpen s).getLast? = some q := by
  unfold cOpen
  cases hb : s.2.2 with
  | true => rw [if_pos rfl]; exact ⟨_, List.getLast?_eq_some_getLast (h hb)⟩
  | false => rw [if_neg (by decide)]; exact ⟨⟨s.2.1, [], []⟩, by simp⟩

theorem setLast_len (hs : List Hunk) (f : Hunk → Hunk) : (setLast hs f).length = hs.length := by
  unfold setLast
  cases h : hs.getLast? with
  | none => rfl
  | some q =>
    have hne : hs ≠ [] := by intro e; subst e; cases h
    have := List.length_pos_iff.2 hne
    simp; omega

theorem setLast_ne {hs : List Hunk} {f : Hunk → Hunk} (h : hs ≠ []) : setLast hs f ≠ [] := by
  intro e
  have := setLast_len hs f
  rw [e] at this
  exact h (List.eq_nil_of_length_eq_zero this.symm)

theorem cOpen_ne (s : Cst) (h : s.2.2 = true → s.1 ≠ []) : cOpen s ≠ [] := by
  obtain ⟨q, hq⟩ := cOpen_last s h
  intro e; rw [e] at hq; cases hq

/-- a Collector's hunks are small -/
structure CInv (s : Cst) (k : Nat) : Prop where
  open_ : s.2.2 = true → s.1 ≠ []
  len : s.1.length ≤ k
  at0 : 0 ≤ s.2.1
  at1 : s.2.1 ≤ k
  each : ∀ h ∈ s.1, h.Old.length ≤ k ∧ h.New.length ≤ k

theorem mem_setLast {hs : List Hunk} {f : Hunk → Hunk} {h : Hunk} (hm : h ∈ setLast hs f) : h ∈ hs ∨ ∃ q ∈ hs, h = f q := by
  unfold setLast at hm
  cases hl : hs.getLast? with
  | none => rw [hl] at hm; exact .inl hm
  | some q =>
    rw [hl] at hm
    simp only [List.mem_append, List.mem_singleton] at hm
    rcases hm with hm | hm
    · exact .inl ((List.dropLast_sublist hs).subset hm)
    · exact .inr ⟨q, List.mem_of_getLast? hl, hm⟩

theorem mem_cOpen {s : Cst} {h : Hunk} (hm : h ∈ cOpen s) : h ∈ s.1 ∨ (h.Old = [] ∧ h.New = []) := by
  unfold cOpen at hm
  split at hm
  · exact .inl hm
  · rcases List.mem_append.1 hm with hm | hm
    · exact .inl hm
    · simp at hm; subst hm; exact .inr ⟨rfl, rfl⟩

theorem cOpen_len (s : Cst) : (cOpen s).length ≤ s.1.length + 1 := by unfold cOpen; split <;> simp

theorem CInv.keep {s : Cst} {k : Nat} (h : CInv s k) : CInv (cKeep s) (k + 1) := ⟨fun e => by simp [cKeep] at e, by have := h.len; simp only [cKeep]; omega, by have := h.at0; simp only [cKeep]; omega, by have := h.at1; simp only [cKeep]; omega, fun q hq => by have := h.each q hq; omega⟩
theorem CInv.del {s : Cst} {k : Nat} (h : CInv s k) (x : ByteArray) : CInv (cDel x s) (k + 1) := by
  refine ⟨fun _ => setLast_ne (cOpen_ne s h.open_), ?_, by have := h.at0; simp only [cDel]; omega, by have := h.at1; simp only [cDel]; omega, fun q hq => ?_⟩
  · have := h.len; have := cOpen_len s; simp only [cDel, setLast_len]; omega
  · simp only [cDel] at hq
    rcases mem_setLast hq with hq | ⟨p, hp, rfl⟩
    · rcases mem_cOpen hq with hq | ⟨h1, h2⟩
      · have := h.each q hq; omega
      · simp [h1, h2]
    · rcases mem_cOpen hp with hq | ⟨h1, h2⟩
      · have := h.each p hq; simp; omega
      · simp [h1, h2]
theorem CInv.ins {s : Cst} {k : Nat} (h : CInv s k) (x : ByteArray) : CInv (cIns x s) (k + 1) := by
  refine ⟨fun _ => setLast_ne (cOpen_ne s h.open_), ?_, h.at0, by have := h.at1; simp only [cIns]; omega, fun q hq => ?_⟩
  · have := h.len; have := cOpen_len s; simp only [cIns, setLast_len]; omega
  · simp only [cIns] at hq
    rcases mem_setLast hq with hq | ⟨p, hp, rfl⟩
    · rcases mem_cOpen hq with hq | ⟨h1, h2⟩
      · have := h.each q hq; omega
      · simp [h1, h2]
    · rcases mem_cOpen hp with hq | ⟨h1, h2⟩
      · have := h.each p hq; simp; omega
      · simp [h1, h2]



theorem coll_keep {s : Cst} {k : Nat} (h : CInv s k) (hk : k ≤ 1000000) : diff_Collector__Keep ⟨s.1, s.2.1, s.2.2⟩ 1 = some ⟨(cKeep s).1, (cKeep s).2.1, (cKeep s).2.2⟩ := by
  have hat0 := h.at0
  have hat1 := h.at1
  unfold diff_Collector__Keep
  rw [if_pos (by decide), ck_eq (x := s.2.1 + 1) (by omega) (by omega), Option.bind_some]; rfl

theorem coll_del {s : Cst} {k : Nat} (h : CInv s k) (hk : k ≤ 1000000) (x : ByteArray) : diff_Collector__Delete ⟨s.1, s.2.1, s.2.2⟩ x = some ⟨(cDel x s).1, (cDel x s).2.1, (cDel x s).2.2⟩ := by
  obtain ⟨q, hq⟩ := cOpen_last s h.open_
  have hlen := h.len
  have hat0 := h.at0
  have hat1 := h.at1
  have j4e : diff_Collector__Delete.j1 ⟨s.1, s.2.1, s.2.2⟩ x (cOpen s) true = some ⟨(cDel x s).1, (cDel x s).2.1, (cDel x s).2.2⟩ := by
    obtain ⟨h1, h2, h3⟩ := set_last_eq hq fun h => { h with Old := h.Old ++ [x] }
    have hol := cOpen_len s
    have hqm : q.Old.length ≤ k := by
      rcases mem_cOpen (List.mem_of_getLast? hq) with hq | ⟨h1, _⟩
      · exact (h.each q hq).1
      · simp [h1]
    unfold diff_Collector__Delete.j1
    have ez : ((cOpen s).length : Int) - 1 = (((cOpen s).length - 1 : Nat) : Int) := by omega
    rw [ck_eq (by omega) (by omega), Option.bind_some, ez, at_nat h1, Option.bind_some, h2, app_eq (by simp only [List.length_singleton]; omega), Option.bind_some, ck_eq (by show -9223372036854775808 ≤ s.2.1 + 1; omega) (by show s.2.1 + 1 ≤ 9223372036854775807; omega), Option.bind_some, Option.bind_some]
    rw [Int.toNat_natCast]
    have : (cOpen s).set ((cOpen s).length - 1) ({ At := q.At, Old := q.Old ++ [x], New := q.New } : Hunk) = (cDel x s).1 := h3
    rw [this]
    rfl
  unfold diff_Collector__Delete
  simp only
  cases hb : s.2.2 with
  | true =>
    have : cOpen s = s.1 := by unfold cOpen; rw [hb, if_pos rfl]
    rw [hb, this] at j4e
    rw [if_neg (by decide)]; exact j4e
  | false =>
    have : cOpen s = s.1 ++ [⟨s.2.1, [], []⟩] := by unfold cOpen; rw [hb, if_neg (by decide)]
    rw [hb] at j4e
    rw [if_pos (by decide), app_eq (by simp only [List.length_singleton]; omega), Option.bind_some, ← this]; exact j4e

theorem coll_ins {s : Cst} {k : Nat} (h : CInv s k) (hk : k ≤ 1000000) (x : ByteArray) : diff_Collector__Insert ⟨s.1, s.2.1, s.2.2⟩ x = some ⟨(cIns x s).1, (cIns x s).2.1, (cIns x s).2.2⟩ := by
  obtain ⟨q, hq⟩ := cOpen_last s h.open_
  have hlen := h.len
  have hat0 := h.at0
  have hat1 := h.at1
  have j4e : diff_Collector__Insert.j1 ⟨s.1, s.2.1, s.2.2⟩ x (cOpen s) true = some ⟨(cIns x s).1, (cIns x s).2.1, (cIns x s).2.2⟩ := by
    obtain ⟨h1, h2, h3⟩ := set_last_eq hq fun h => { h with New := h.New ++ [x] }
    have hol := cOpen_len s
    have hqm : q.New.length ≤ k := by
      rcases mem_cOpen (List.mem_of_getLast? hq) with hq | ⟨_, h1⟩
      · exact (h.each q hq).2
      · simp [h1]
    unfold diff_Collector__Insert.j1
    have ez : ((cOpen s).length : Int) - 1 = (((cOpen s).length - 1 : Nat) : Int) := by omega
    rw [ck_eq (by omega) (by omega), Option.bind_some, ez, at_nat h1, Option.bind_some, h2, app_eq (by simp only [List.length_singleton]; omega), Option.bind_some, Option.bind_some]
    rw [Int.toNat_natCast]
    have : (cOpen s).set ((cOpen s).length - 1) ({ At := q.At, Old := q.Old, New := q.New ++ [x] } : Hunk) = (cIns x s).1 := h3
    rw [this]
    rfl
  unfold diff_Collector__Insert
  simp only
  cases hb : s.2.2 with
  | true =>
    have : cOpen s = s.1 := by unfold cOpen; rw [hb, if_pos rfl]
    rw [hb, this] at j4e
    rw [if_neg (by decide)]; exact j4e
  | false =>
    have : cOpen s = s.1 ++ [⟨s.2.1, [], []⟩] := by unfold cOpen; rw [hb, if_neg (by decide)]
    rw [hb] at j4e
    rw [if_pos (by decide), app_eq (by simp only [List.length_singleton]; omega), Option.bind_some, ← this]; exact j4e

section
variable {a b : List ByteArray}

theorem scr_loop (hab : a.length + b.length ≤ 1000) : ∀ (n i j k : Nat) (s : Cst), i ≤ a.length → j ≤ b.length → (a.length - i) + (b.length - j) = n → k ≤ i + j → (algn a b).drop k = algn (a.drop i) (b.drop j) → CInv s (i + j) →
    iter (fun s => diff_Script.l1 a b (algn a b) s.1 s.2.1 s.2.2.1 s.2.2.2.1 s.2.2.2.2.1 s.2.2.2.2.2) ((k : Int), (j : Int), (i : Int), s.1, s.2.1, s.2.2) = some (scr (a.drop i) (b.drop j) s) := by
  intro n
  induction n using Nat.strongRecOn with
  | _ n ih =>
  intro i j k s hi hj hn hk hal hs
  have j2e : ∀ (p q : Int) (t : Cst), diff_Script.j2 (k : Int) q p t.1 t.2.1 t.2.2 = some (.next (((k + 1 : Nat) : Int), q, p, t.1, t.2.1, t.2.2)) := by
    intro p q t
    unfold diff_Script.j2
    rw [ck_eq (by omega) (by omega), Option.bind_some]; rfl
  have ed : ∀ (x : ByteArray) (r : List Int), (algn a b).drop k = 1 :: r → (hx : ∃ h : i < a.length, a[i] = x) →
      diff_Script.l1 a b (algn a b) (k : Int) (j : Int) (i : Int) s.1 s.2.1 s.2.2 = some (.next (((k + 1 : Nat) : Int), (j : Int), ((i + 1 : Nat) : Int), (cDel x s).1, (cDel x s).2.1, (cDel x s).2.2)) ∧ (algn a b).drop (k + 1) = r := by
    intro x r hr ⟨hx, hxe⟩
    obtain ⟨hlt, hk1, hr1⟩ := drop_at hr
    refine ⟨?_, hr1⟩
    unfold diff_Script.l1
    rw [ite_dec, if_pos (by omega), at_nat hlt, Option.bind_some, hk1, ite_dec, if_neg (by decide), ite_dec, if_pos rfl, at_nat hx, Option.bind_some, hxe, coll_del hs (by omega) x, Option.bind_some, ck_eq (by omega) (by omega), Option.bind_some, j2e]
    rfl
  have ei : ∀ (x : ByteArray) (r : List Int), (algn a b).drop k = 2 :: r → (hx : ∃ h : j < b.length, b[j] = x) →
      diff_Script.l1 a b (algn a b) (k : Int) (j : Int) (i : Int) s.1 s.2.1 s.2.2 = some (.next (((k + 1 : Nat) : Int), ((j + 1 : Nat) : Int), (i : Int), (cIns x s).1, (cIns x s).2.1, (cIns x s).2.2)) ∧ (algn a b).drop (k + 1) = r := by
    intro x r hr ⟨hx, hxe⟩
    obtain ⟨hlt, hk1, hr1⟩ := drop_at hr
    refine ⟨?_, hr1⟩
    unfold diff_Script.l1
    rw [ite_dec, if_pos (by omega), at_nat hlt, Option.bind_some, hk1, ite_dec, if_neg (by decide), ite_dec, if_neg (by decide), at_nat hx, Option.bind_some, hxe, coll_ins hs (by omega) x, Option.bind_some, ck_eq (by omega) (by omega), Option.bind_some, j2e]
    rfl
  have ek : ∀ (r : List Int), (algn a b).drop k = 0 :: r →
      diff_Script.l1 a b (algn a b) (k : Int) (j : Int) (i : Int) s.1 s.2.1 s.2.2 = some (.next (((k + 1 : Nat) : Int), ((j + 1 : Nat) : Int), ((i + 1 : Nat) : Int), (cKeep s).1, (cKeep s).2.1, (cKeep s).2.2)) ∧ (algn a b).drop (k + 1) = r := by
    intro r hr
    obtain ⟨hlt, hk1, hr1⟩ := drop_at hr
    refine ⟨?_, hr1⟩
    have h0 := hs.at0
    have h1 := hs.at1
    unfold diff_Script.l1
    rw [ite_dec, if_pos (by omega), at_nat hlt, Option.bind_some, hk1, ite_dec, if_pos rfl, coll_keep hs (by omega), Option.bind_some, ck_eq (by omega) (by omega), Option.bind_some, ck_eq (by omega) (by omega), Option.bind_some]
    exact j2e _ _ (cKeep s)
  by_cases hia : i < a.length
  · have hda := drop_cons hia
    by_cases hjb : j < b.length
    · have hdb := drop_cons hjb
      have hal' := hal
      rw [hda, hdb, algn, ← hda, ← hdb] at hal'
      have hsc : scr (a.drop i) (b.drop j) s = if a[i] = b[j] then scr (a.drop (i + 1)) (b.drop (j + 1)) (cKeep s) else if lcs (a.drop (i + 1)) (b.drop j) ≥ lcs (a.drop i) (b.drop (j + 1)) then scr (a.drop (i + 1)) (b.drop j) (cDel a[i] s) else scr (a.drop i) (b.drop (j + 1)) (cIns b[j] s) := by
        conv => lhs; rw [hda, hdb, scr]
        rw [← hda, ← hdb]
      rw [hsc]
      by_cases heq : a[i] = b[j]
      · rw [if_pos heq] at hal' ⊢
        obtain ⟨e1, e2⟩ := ek _ hal'
        rw [iter_next e1]
        exact ih _ (by omega) (i + 1) (j + 1) (k + 1) (cKeep s) (by omega) (by omega) rfl (by omega) e2 ⟨hs.keep.open_, by have := hs.keep.len; omega, hs.keep.at0, by have := hs.keep.at1; omega, fun q hq => by have := hs.keep.each q hq; omega⟩
      · rw [if_neg heq] at hal' ⊢
        by_cases hge : lcs (a.drop (i + 1)) (b.drop j) ≥ lcs (a.drop i) (b.drop (j + 1))
        · rw [if_pos hge] at hal' ⊢
          obtain ⟨e1, e2⟩ := ed _ _ hal' ⟨hia, rfl⟩
          rw [iter_next e1]
          exact ih _ (by omega) (i + 1) j (k + 1) (cDel a[i] s) (by omega) (by omega) rfl (by omega) e2 (by have := hs.del a[i]; rwa [show i + j + 1 = i + 1 + j by omega] at this)
        · rw [if_neg hge] at hal' ⊢
          obtain ⟨e1, e2⟩ := ei _ _ hal' ⟨hjb, rfl⟩
          rw [iter_next e1]
          exact ih _ (by omega) i (j + 1) (k + 1) (cIns b[j] s) (by omega) (by omega) rfl (by omega) e2 (hs.ins b[j])
    · have hj' : j = b.length := by omega
      subst hj'
      have hal' := hal
      rw [hda, List.drop_length, algn] at hal'
      obtain ⟨e1, e2⟩ := ed _ _ hal' ⟨hia, rfl⟩
      have hsc : scr (a.drop i) (b.drop b.length) s = scr (a.drop (i + 1)) (b.drop b.length) (cDel a[i] s) := by
        rw [hda, List.drop_length, scr]
      rw [iter_next e1, hsc]
      exact ih _ (by omega) (i + 1) b.length (k + 1) (cDel a[i] s) (by omega) (by omega) rfl (by omega) (by rw [e2, List.drop_length]) (by have := hs.del a[i]; rwa [show i + b.length + 1 = i + 1 + b.length by omega] at this)
  · have hi' : i = a.length := by omega
    subst hi'
    by_cases hjb : j < b.length
    · have hdb := drop_cons hjb
      have hal' := hal
      rw [hdb, List.drop_length, algn] at hal'
      obtain ⟨e1, e2⟩ := ei _ _ hal' ⟨hjb, rfl⟩
      have hsc : scr (a.drop a.length) (b.drop j) s = scr (a.drop a.length) (b.drop (j + 1)) (cIns b[j] s) := by
        rw [hdb, List.drop_length, scr]
      rw [iter_next e1, hsc]
      exact ih _ (by omega) a.length (j + 1) (k + 1) (cIns b[j] s) (by omega) (by omega) rfl (by omega) (by rw [e2, List.drop_length]) (hs.ins b[j])
    · have hj' : j = b.length := by omega
      subst hj'
      rw [List.drop_length, List.drop_length, algn] at hal
      have := drop_end hal
      rw [List.drop_length, List.drop_length, scr]
      refine iter_done ?_
      unfold diff_Script.l1
      rw [ite_dec, if_neg (by omega)]
end

/-- the script -/
def script (a b : List ByteArray) : List Hunk := (scr a b ([], 0, false)).1

theorem script_f (a b : List ByteArray) : diff_Script a b = some (if (textFault a).Code ≠ 0 then (⟨[]⟩, textFault a) else if (textFault b).Code ≠ 0 then (⟨[]⟩, ⟨(textFault b).Code, -2⟩) else (⟨script a b⟩, ⟨0, 0⟩)) := by
  unfold diff_Script
  rw [both_f, Option.bind_some]
  by_cases ha : (textFault a).Code = 0
  · by_cases hb : (textFault b).Code = 0
    · simp only [ha, hb, ne_eq, not_true, if_false, if_true]
      have oa := (okText_iff a).2 ((textFault_zero a).2 ha)
      have ob := (okText_iff b).2 ((textFault_zero b).2 hb)
      have h1 := oa.1
      have h2 := ob.1
      rw [if_neg (by simp), align_eq (okText_small oa ob), Option.bind_some]
      have := scr_loop (a := a) (b := b) (by omega) _ 0 0 0 ([], 0, false) (Nat.zero_le _) (Nat.zero_le _) rfl (Nat.zero_le _) (by simp) ⟨fun h => (by cases h), by simp, by simp, by simp, fun q hq => (by cases hq)⟩
      simp only [List.drop_zero] at this
      rw [show (0 : Int) = ((0 : Nat) : Int) from rfl, show ((([] : List Hunk), ((0 : Nat) : Int), false) : Cst) = ([], 0, false) from rfl, this, Option.bind_some]
      rfl
    · simp only [ha, hb, ne_eq, not_true, not_false_iff, if_false, if_true]
      rw [if_pos (by simp)]
  · simp only [ha, ne_eq, not_false_iff, if_true]
    rw [if_pos (by simp)]

def endS : List Hunk → Nat → Nat
  | [], low => low
  | h :: r, _ => endS r (h.At.toNat + h.Old.length)
def preS : List Hunk → List ByteArray → Nat → List ByteArray
  | [], _, _ => []
  | h :: r, t, low => (t.drop low).take (h.At.toNat - low) ++ (h.New ++ preS r t (h.At.toNat + h.Old.length))

theorem rawS_pre : ∀ (hs : List Hunk) (t : List ByteArray) (low : Nat), rawS hs t low = preS hs t low ++ t.drop (endS hs low)
  | [], t, low => rfl
  | h :: r, t, low => by rw [rawS, preS, endS, rawS_pre r t _]; simp

theorem endS_snoc : ∀ (hs : List Hunk) (h : Hunk) (low : Nat), endS (hs ++ [h]) low = h.At.toNat + h.Old.length
  | [], h, low => rfl
  | x :: r, h, low => by rw [List.cons_append, endS, endS_snoc r h _]
theorem preS_snoc : ∀ (hs : List Hunk) (h : Hunk) (t : List ByteArray) (low : Nat), preS (hs ++ [h]) t low = preS hs t low ++ ((t.drop (endS hs low)).take (h.At.toNat - endS hs low) ++ h.New)
  | [], h, t, low => by simp [preS, endS]
  | x :: r, h, t, low => by rw [List.cons_append, preS, preS, endS, preS_snoc r h t _]; simp

/-- each hunk begins behind the end of the one ahead of it -/
def Chn : Int → List Hunk → Prop
  | _, [] => True
  | e, h :: r => e < h.At ∧ Chn (h.At + h.Old.length) r
theorem chn_snoc : ∀ (l : List Hunk) (h : Hunk) (e : Int), Chn e (l ++ [h]) ↔ Chn e l ∧ (l = [] → e < h.At) ∧ (∀ p q, l = p ++ [q] → q.At + q.Old.length < h.At)
  | [], h, e => by simp [Chn]
  | x :: r, h, e => by
    rw [List.cons_append, Chn, Chn, chn_snoc r h _]
    constructor
    · rintro ⟨h1, h2, h3, h4⟩
      refine ⟨⟨h1, h2⟩, by simp, fun p q e => ?_⟩
      cases p with
      | nil => simp at e; obtain ⟨rfl, rfl⟩ := e; exact h3 rfl
      | cons y p => simp at e; exact h4 p q e.2
    · rintro ⟨⟨h1, h2⟩, h3, h4⟩
      refine ⟨h1, h2, fun e => ?_, fun p q e => h4 (x :: p) q (by rw [e]; rfl)⟩
      subst e; exact h4 [] x rfl

/-- a hunk whose lines come from the texts -/
def HkOk (a b : List ByteArray) (h : Hunk) : Prop := ∃ p q : Nat, h.At = p ∧ p + h.Old.length ≤ a.length ∧ h.Old = (a.drop p).take h.Old.length ∧ q + h.New.length ≤ b.length ∧ h.New = (b.drop q).take h.New.length ∧ 0 < h.Old.length + h.New.length

structure ScI (a b : List ByteArray) (s : Cst) (i j : Nat) : Prop where
  pos : s.2.1 = i
  low : endS s.1 0 ≤ i
  txt : preS s.1 a 0 ++ (a.drop (endS s.1 0)).take (i - endS s.1 0) = b.take j
  opn : s.2.2 = true → ∃ hs h q, s.1 = hs ++ [h] ∧ h.At.toNat + h.Old.length = i ∧ q + h.New.length = j ∧ h.New = (b.drop q).take h.New.length
  cls : s.2.2 = false → s.1 = [] ∨ endS s.1 0 < i
  chn : Chn (-1) s.1
  each : ∀ h ∈ s.1, HkOk a b h

theorem take_snoc {α : Type} {l : List α} {k : Nat} (h : k < l.length) : l.take (k + 1) = l.take k ++ [l[k]] := by
  rw [List.take_add_one, List.getElem?_eq_getElem h]; rfl

theorem setLast_snoc (hs : List Hunk) (h : Hunk) (f : Hunk → Hunk) : setLast (hs ++ [h]) f = hs ++ [f h] := by
  unfold setLast; simp

theorem ScI.keep {a b : List ByteArray} {s : Cst} {i j : Nat} (h : ScI a b s i j) (hi : i < a.length) (hj : j < b.length) (e : a[i] = b[j]) : ScI a b (cKeep s) (i + 1) (j + 1) := by
  have hl := h.low
  refine ⟨by simp only [cKeep, h.pos]; omega, by simp only [cKeep]; omega, ?_, fun h => by simp [cKeep] at h, fun _ => .inr (by simp only [cKeep]; omega), h.chn, h.each⟩
  simp only [cKeep]
  rw [take_snoc hj, ← h.txt, show i + 1 - endS s.1 0 = (i - endS s.1 0) + 1 by omega, take_snoc (by simp; omega), ← e, List.append_assoc]
  congr 3
  rw [List.getElem_drop]
  congr 1; omega

theorem HkOk.old {a b : List ByteArray} {h : Hunk} (hh : HkOk a b h) (hi : h.At.toNat + h.Old.length < a.length) : HkOk a b { h with Old := h.Old ++ [a[h.At.toNat + h.Old.length]] } := by
  obtain ⟨p, q, h1, h2, h3, h4, h5, h6⟩ := hh
  have hp : h.At.toNat = p := by omega
  refine ⟨p, q, h1, by simp; omega, ?_, h4, h5, by simp; omega⟩
  simp only [List.length_append, List.length_singleton]
  rw [take_snoc (by simp; omega), ← h3]
  congr 2
  rw [List.getElem_drop]
  simp only [hp]

theorem HkOk.new {a b : List ByteArray} {h : Hunk} (hh : HkOk a b h) {q : Nat} (hq : h.New = (b.drop q).take h.New.length) (hi : q + h.New.length < b.length) : HkOk a b { h with New := h.New ++ [b[q + h.New.length]] } ∧ h.New ++ [b[q + h.New.length]] = (b.drop q).take (h.New.length + 1) := by
  obtain ⟨p, _, h1, h2, h3, h4, h5, h6⟩ := hh
  have e : h.New ++ [b[q + h.New.length]] = (b.drop q).take (h.New.length + 1) := by
    rw [take_snoc (by simp; omega), ← hq]
    congr 2
    rw [List.getElem_drop]
  refine ⟨⟨p, q, h1, h2, h3, by simp; omega, ?_, by simp; omega⟩, e⟩
  simp only [List.length_append, List.length_singleton]
  exact e

theorem ScI.del {a b : List ByteArray} {s : Cst} {i j : Nat} (h : ScI a b s i j) (hi : i < a.length) (hj : j ≤ b.length) : ScI a b (cDel a[i] s) (i + 1) j := by
  have hl := h.low
  have ht := h.txt
  have hc := h.chn
  have he := h.each
  have hp := h.pos
  obtain ⟨hs0, at0, op⟩ := s
  simp only at hl ht hc he hp
  cases op with
  | true =>
    obtain ⟨hs, k, q, e1, e2, e3, e4⟩ := h.opn rfl
    simp only at e1
    subst e1
    have hcd : cDel a[i] (hs ++ [k], at0, true) = (hs ++ [{ k with Old := k.Old ++ [a[i]] }], at0 + 1, true) := by
      unfold cDel cOpen
      simp only [if_true, setLast_snoc]
    rw [hcd]
    rw [endS_snoc, e2, Nat.sub_self, List.take_zero, List.append_nil, preS_snoc] at ht
    have hk := HkOk.old (he k (by simp)) (by omega)
    have hx : a[k.At.toNat + k.Old.length]'(by omega) = a[i] := by congr 1
    rw [hx] at hk
    rw [chn_snoc] at hc
    refine ⟨by simp only; omega, by simp only [endS_snoc, List.length_append, List.length_singleton]; omega, ?_, fun _ => ⟨hs, _, q, rfl, by simp only [List.length_append, List.length_singleton]; omega, e3, e4⟩, fun h => by simp at h, (chn_snoc _ _ _).2 hc, ?_⟩
    · simp only [endS_snoc, List.length_append, List.length_singleton, preS_snoc]
      rw [show i + 1 - (k.At.toNat + (k.Old.length + 1)) = 0 by omega, List.take_zero, List.append_nil]
      exact ht
    · intro m hm
      rcases List.mem_append.1 hm with hm | hm
      · exact he m (List.mem_append_left _ hm)
      · rw [List.mem_singleton] at hm; subst hm; exact hk
  | false =>
    have hcl := h.cls rfl
    simp only at hcl
    have hcd : cDel a[i] (hs0, at0, false) = (hs0 ++ [⟨at0, [a[i]], []⟩], at0 + 1, true) := by
      unfold cDel cOpen
      simp only [Bool.false_eq_true, if_false, setLast_snoc, List.nil_append]
    rw [hcd]
    have hat : at0.toNat = i := by omega
    refine ⟨by simp only; omega, by simp only [endS_snoc, List.length_singleton]; omega, ?_, fun _ => ⟨hs0, _, j, rfl, by simp only [List.length_singleton]; omega, by simp, by simp⟩, fun h => by simp at h, (chn_snoc _ _ _).2 ⟨hc, fun _ => by simp only; omega, fun p q e => ?_⟩, ?_⟩
    · simp only [endS_snoc, List.length_singleton, preS_snoc, hat, Nat.sub_self, List.take_zero, List.append_nil]
      exact ht
    · subst e
      rcases hcl with hcl | hcl
      · simp at hcl
      · rw [endS_snoc] at hcl
        obtain ⟨p', _, h1, _⟩ := he q (by simp)
        simp only; omega
    · intro m hm
      rcases List.mem_append.1 hm with hm | hm
      · exact he m hm
      · rw [List.mem_singleton] at hm; subst hm
        refine ⟨i, j, hp, by simp; omega, ?_, by simp; omega, by simp, by simp⟩
        simp only [List.length_singleton]
        rw [List.drop_eq_getElem_cons hi]; rfl

theorem ScI.ins {a b : List ByteArray} {s : Cst} {i j : Nat} (h : ScI a b s i j) (hi : i ≤ a.length) (hj : j < b.length) : ScI a b (cIns b[j] s) i (j + 1) := by
  have hl := h.low
  have ht := h.txt
  have hc := h.chn
  have he := h.each
  have hp := h.pos
  obtain ⟨hs0, at0, op⟩ := s
  simp only at hl ht hc he hp
  cases op with
  | true =>
    obtain ⟨hs, k, q, e1, e2, e3, e4⟩ := h.opn rfl
    simp only at e1
    subst e1
    have hcd : cIns b[j] (hs ++ [k], at0, true) = (hs ++ [{ k with New := k.New ++ [b[j]] }], at0, true) := by
      unfold cIns cOpen
      simp only [if_true, setLast_snoc]
    rw [hcd]
    rw [endS_snoc, e2, Nat.sub_self, List.take_zero, List.append_nil, preS_snoc] at ht
    obtain ⟨hk, hk2⟩ := HkOk.new (he k (by simp)) e4 (by omega)
    have hx : b[q + k.New.length]'(by omega) = b[j] := by congr 1
    rw [hx] at hk hk2
    rw [chn_snoc] at hc
    refine ⟨hp, by simp only [endS_snoc]; omega, ?_, fun _ => ⟨hs, _, q, rfl, e2, by simp only [List.length_append, List.length_singleton]; omega, by simp only [List.length_append, List.length_singleton]; exact hk2⟩, fun h => by simp at h, (chn_snoc _ _ _).2 hc, ?_⟩
    · simp only [endS_snoc, preS_snoc]
      rw [show i - (k.At.toNat + k.Old.length) = 0 by omega, List.take_zero, List.append_nil, take_snoc hj, ← ht]
      simp only [List.append_assoc]
    · intro m hm
      rcases List.mem_append.1 hm with hm | hm
      · exact he m (List.mem_append_left _ hm)
      · rw [List.mem_singleton] at hm; subst hm; exact hk
  | false =>
    have hcl := h.cls rfl
    simp only at hcl
    have hcd : cIns b[j] (hs0, at0, false) = (hs0 ++ [⟨at0, [], [b[j]]⟩], at0, true) := by
      unfold cIns cOpen
      simp only [Bool.false_eq_true, if_false, setLast_snoc, List.nil_append]
    rw [hcd]
    have hat : at0.toNat = i := by omega
    have hn : [b[j]] = (b.drop j).take 1 := by rw [List.drop_eq_getElem_cons hj]; rfl
    refine ⟨hp, by simp only [endS_snoc, List.length_nil]; omega, ?_, fun _ => ⟨hs0, _, j, rfl, by simp only [List.length_nil]; omega, by simp, by simp only [List.length_singleton]; exact hn⟩, fun h => by simp at h, (chn_snoc _ _ _).2 ⟨hc, fun _ => by simp only; omega, fun p q e => ?_⟩, ?_⟩
    · simp only [endS_snoc, List.length_nil, preS_snoc, hat, Nat.add_zero, Nat.sub_self, List.take_zero, List.append_nil]
      rw [take_snoc hj, ← ht, List.append_assoc]
    · subst e
      rcases hcl with hcl | hcl
      · simp at hcl
      · rw [endS_snoc] at hcl
        obtain ⟨p', _, h1, _⟩ := he q (by simp)
        simp only; omega
    · intro m hm
      rcases List.mem_append.1 hm with hm | hm
      · exact he m hm
      · rw [List.mem_singleton] at hm; subst hm
        exact ⟨i, j, hp, by simp; omega, by simp, by simp; omega, by simp only [List.length_singleton]; exact hn, by simp⟩

theorem scr_ok {a b : List ByteArray} : ∀ (n i j : Nat) (s : Cst), (a.length - i) + (b.length - j) = n → i ≤ a.length → j ≤ b.length → ScI a b s i j → ScI a b (scr (a.drop i) (b.drop j) s) a.length b.length := by
  intro n
  induction n using Nat.strongRecOn with
  | _ n ih =>
  intro i j s hn hi hj h
  by_cases hia : i < a.length
  · have hda := List.drop_eq_getElem_cons hia
    by_cases hjb : j < b.length
    · have hdb := List.drop_eq_getElem_cons hjb
      have hsc : scr (a.drop i) (b.drop j) s = if a[i] = b[j] then scr (a.drop (i + 1)) (b.drop (j + 1)) (cKeep s) else if lcs (a.drop (i + 1)) (b.drop j) ≥ lcs (a.drop i) (b.drop (j + 1)) then scr (a.drop (i + 1)) (b.drop j) (cDel a[i] s) else scr (a.drop i) (b.drop (j + 1)) (cIns b[j] s) := by
        conv => lhs; rw [hda, hdb, scr]
        rw [← hda, ← hdb]
      rw [hsc]
      split
      · rename_i e
        exact ih _ (by omega) (i + 1) (j + 1) _ rfl (by omega) (by omega) (h.keep hia hjb e)
      · split
        · exact ih _ (by omega) (i + 1) j _ rfl (by omega) (by omega) (h.del hia hj)
        · exact ih _ (by omega) i (j + 1) _ rfl (by omega) (by omega) (h.ins hi hjb)
    · have hj' : j = b.length := by omega
      subst hj'
      have hsc : scr (a.drop i) (b.drop b.length) s = scr (a.drop (i + 1)) (b.drop b.length) (cDel a[i] s) := by
        rw [hda, List.drop_length, scr]
      rw [hsc]
      exact ih _ (by omega) (i + 1) b.length _ rfl (by omega) (by omega) (h.del hia hj)
  · have hi' : i = a.length := by omega
    subst hi'
    by_cases hjb : j < b.length
    · have hdb := List.drop_eq_getElem_cons hjb
      have hsc : scr (a.drop a.length) (b.drop j) s = scr (a.drop a.length) (b.drop (j + 1)) (cIns b[j] s) := by
        rw [hdb, List.drop_length, scr]
      rw [hsc]
      exact ih _ (by omega) a.length (j + 1) _ rfl (by omega) (by omega) (h.ins hi hjb)
    · have hj' : j = b.length := by omega
      subst hj'
      rw [List.drop_length, List.drop_length, scr]
      exact h

theorem ok_part {l : List ByteArray} (h : OkText l) (p k : Nat) : (textFault ((l.drop p).take k)).Code = 0 := by
  refine (textFault_zero _).1 ((okText_iff _).1 ⟨?_, fun s hs => h.2 s (List.mem_of_mem_drop (List.mem_of_mem_take hs))⟩)
  have := h.1
  simp; omega

theorem good_of {a b : List ByteArray} (ha : OkText a) (hb : OkText b) : ∀ (l : List Hunk) (e : Int), Chn e l → (∀ h ∈ l, HkOk a b h) → Good e l ∧ (-1 ≤ e → e ≤ 120 → (l.length : Int) ≤ 120 - e)
  | [], e, _, _ => ⟨trivial, fun _ _ => by simp; omega⟩
  | h :: r, e, hc, he => by
    obtain ⟨p, q, h1, h2, h3, h4, h5, h6⟩ := he h List.mem_cons_self
    obtain ⟨c1, c2⟩ := hc
    have hl := ha.1
    obtain ⟨g1, g2⟩ := good_of ha hb r _ c2 fun x hx => he x (List.mem_cons_of_mem _ hx)
    refine ⟨⟨?_, g1⟩, fun _ _ => ?_⟩
    · unfold hcode
      have t1 : (textFault h.Old).Code = 0 := by rw [h3]; exact ok_part ha _ _
      have t2 : (textFault h.New).Code = 0 := by rw [h5]; exact ok_part hb _ _
      rw [if_neg (by omega), if_neg (fun hn => hn t1), if_neg (fun hn => hn t2), if_neg (by omega), if_neg (by omega)]
    · have := g2 (by omega) (by omega)
      rw [List.length_cons]; omega

def insF (l : List File) (x : File) : List File := l.take (posF l x.Path) ++ [x] ++ l.drop (posF l x.Path)

theorem has_pos {l : List File} (h : TSrt l) {p : ByteArray} (hh : hasF l p = true) : ∃ hp : posF l p < l.length, l[posF l p].Path = p := by
  rw [has_at h] at hh
  split at hh
  · rename_i hp; exact ⟨hp, of_decide_eq_true hh⟩
  · cases hh

theorem rel_has {l : List File} {p : ByteArray} (h : relAny l p = false) : hasF l p = false := by
  unfold relAny at h
  unfold hasF
  rw [List.any_eq_false] at h ⊢
  intro f hf e
  have := h f hf
  rw [of_decide_eq_true e, relB_self] at this
  exact this rfl

theorem ins_len (l : List File) (x : File) : (insF l x).length = l.length + 1 := by
  have := pos_le l x.Path
  unfold insF; simp; omega

theorem ins_srt {l : List File} (h : TSrt l) {x : File} (hn : hasF l x.Path = false) : TSrt (insF l x) := by
  unfold TSrt insF
  have hlow : ∀ f ∈ l.take (posF l x.Path), sLt f.Path x.Path = true := by
    intro f hf
    rw [List.mem_take_iff_getElem] at hf
    obtain ⟨i, hi, rfl⟩ := hf
    rw [pos_lt h x.Path i (by omega)]
    exact decide_eq_true (by omega)
  have hhigh : ∀ f ∈ l.drop (posF l x.Path), sLt x.Path f.Path = true := by
    intro f hf
    obtain ⟨i, hi, rfl⟩ := List.getElem_of_mem hf
    rw [List.length_drop] at hi
    rw [List.getElem_drop]
    have h1 := pos_lt h x.Path (posF l x.Path + i) (by omega)
    rw [decide_eq_false (by omega)] at h1
    rcases sLt_tri x.Path l[posF l x.Path + i].Path with h2 | h2 | h2
    · exact h2
    · unfold hasF at hn
      rw [List.any_eq_false] at hn
      exact absurd (decide_eq_true h2.symm) (hn _ (List.getElem_mem (by omega)))
    · rw [h1] at h2; cases h2
  rw [List.pairwise_append, List.pairwise_append]
  refine ⟨⟨h.sublist (List.take_sublist _ _), List.pairwise_singleton _ _, ?_⟩, h.sublist (List.drop_sublist _ _), ?_⟩
  · intro a ha b hb
    rw [List.mem_singleton] at hb; subst hb
    exact hlow a ha
  · intro a ha b hb
    rcases List.mem_append.1 ha with ha | ha
    · exact sLt_trans (hlow a ha) (hhigh b hb)
    · rw [List.mem_singleton] at ha; subst ha
      exact hhigh b hb

theorem ins_mem {l : List File} {x f : File} : f ∈ insF l x ↔ f = x ∨ f ∈ l := by
  unfold insF
  rw [List.mem_append, List.mem_append, List.mem_singleton]
  conv => rhs; rw [← List.take_append_drop (posF l x.Path) l, List.mem_append]
  constructor
  · rintro ((h | h) | h)
    · exact .inr (.inl h)
    · exact .inl h
    · exact .inr (.inr h)
  · rintro (h | h | h)
    · exact .inl (.inr h)
    · exact .inl (.inl h)
    · exact .inr h

theorem Put_f {l : List File} (h : TSrt l) (hl : l.length ≤ 1000) {p : ByteArray} (hn : hasF l p = false) {L : List ByteArray} (hL : L.length ≤ 1000000) : treepatch_Put ⟨l⟩ p L = some ⟨insF l ⟨p, L⟩⟩ := by
  have hp := pos_le l p
  unfold treepatch_Put
  simp only
  rw [Find_f h (by omega), Option.bind_some, hn, if_pos (by rfl)]
  have e : ins? 40 l ((posF l p : Nat) : Int) [⟨p, []⟩] = some (l.take (posF l p) ++ [⟨p, []⟩] ++ l.drop (posF l p)) := by
    unfold ins?
    simp only
    rw [if_pos (by omega), app_eq (by simp; omega), Option.bind_some, Int.toNat_natCast]
  rw [e, Option.bind_some]
  unfold treepatch_Put.j1
  rw [clone_f _ hL, Option.bind_some]
  simp only
  have hlen : (l.take (posF l p)).length = posF l p := by simp; omega
  rw [at_nat (by simp; omega), Option.bind_some, Option.bind_some, Int.toNat_natCast]
  have e2 : (l.take (posF l p) ++ [(⟨p, []⟩ : File)] ++ l.drop (posF l p))[posF l p]'(by simp; omega) = ⟨p, []⟩ := by
    rw [List.getElem_append_left (by simp; omega), List.getElem_append_right (by omega)]
    simp [hlen]
  rw [e2]
  unfold insF
  congr 2
  rw [List.append_assoc, List.append_assoc, List.set_append_right _ _ (by omega), hlen, Nat.sub_self]
  rfl

theorem del_f (l : List File) {j : Nat} (hj : j < l.length) : del? l (j : Int) ((j + 1 : Nat) : Int) = some (l.eraseIdx j) := by
  unfold del?
  rw [if_pos (by omega), Int.toNat_natCast, Int.toNat_natCast, List.eraseIdx_eq_take_drop_succ]

/-- what a change makes of files -/
def makeF (c : TreeChange) (l : List File) : Int × List File :=
  if c.Kind = 1 then if relAny l c.Path = true then (7, l) else if 24 ≤ l.length then (14, l) else (0, insF l ⟨c.Path, c.Lines⟩)
  else match (if hasF l c.Path = true then l[posF l c.Path]? else Option.none) with
  | Option.none => (6, l)
  | some f =>
    if c.Kind = 2 then if f.Lines ≠ c.Lines then (19, l) else (0, l.eraseIdx (posF l c.Path))
    else if c.Kind = 3 then if relAny (l.eraseIdx (posF l c.Path)) c.To = true then (7, l) else (0, insF (l.eraseIdx (posF l c.Path)) ⟨c.To, f.Lines⟩)
    else if (applyF c.Patch f.Lines).2.Code ≠ 0 then ((applyF c.Patch f.Lines).2.Code, l) else (0, l.set (posF l c.Path) ⟨f.Path, (applyF c.Patch f.Lines).1⟩)

theorem TrOk.text_len {l : List File} (h : TrOk l) {f : File} (hf : f ∈ l) : f.Lines.length ≤ 120 := (h.text f hf).1

theorem make1_f {l : List File} (h : TrOk l) {c : TreeChange} (hc : OkCh c) : treepatch_make1 c ⟨l⟩ = some ((makeF c l).1, ⟨(makeF c l).2⟩) := by
  have hl := h.len
  have hps : ∀ f ∈ l, f.Path.size ≤ 1000000 := fun f hf => by have := pathB_size (h.path f hf); omega
  have hcp := pathB_size hc.path
  have hcl : c.Lines.length ≤ 120 := textFault_len hc.lines
  unfold treepatch_make1 makeF
  simp only
  rw [Find_f h.srt (by omega), Option.bind_some]
  by_cases k1 : c.Kind = 1
  · rw [decide_eq_true k1, if_pos rfl, if_pos k1, clash_f hps (by omega) (by omega), Option.bind_some, clO_all]
    cases hr : relAny l c.Path
    · rw [if_neg Bool.false_ne_true, if_neg Bool.false_ne_true]
      by_cases h24 : 24 ≤ l.length
      · rw [decide_eq_true (by omega), if_pos rfl, if_pos h24]
      · rw [decide_eq_false (by omega), if_neg Bool.false_ne_true, if_neg h24, Put_f h.srt (by omega) (rel_has hr) (by omega), Option.bind_some]
    · rw [if_pos rfl, if_pos rfl]
  rw [decide_eq_false k1, if_neg Bool.false_ne_true, if_neg k1]
  cases hh : hasF l c.Path with
  | false =>
    rw [if_pos (by rfl)]
    simp only [Bool.false_eq_true, if_false]
  | true =>
    obtain ⟨hp, he⟩ := has_pos h.srt hh
    have hfm := List.getElem_mem hp
    have hft := h.text_len hfm
    rw [if_neg (show ¬ ((!true) = true) by decide), at_nat hp, Option.bind_some, if_pos rfl, List.getElem?_eq_getElem hp]
    simp only
    have ez : ckK .i64 (((posF l c.Path : Nat) : Int) + 1) = some ((posF l c.Path + 1 : Nat) : Int) := by
      rw [ck_eq (by omega) (by omega)]; rfl
    by_cases k2 : c.Kind = 2
    · rw [decide_eq_true k2, if_pos rfl, if_pos k2, sequal_f _ _ (by omega), Option.bind_some]
      by_cases ht : l[posF l c.Path].Lines = c.Lines
      · rw [decide_eq_true ht, if_neg (show ¬ ((!true) = true) by decide), if_neg (fun hn => hn ht), ez, Option.bind_some, del_f l hp, Option.bind_some]; rfl
      · rw [decide_eq_false ht, if_pos (by rfl), if_pos ht]
    rw [decide_eq_false k2, if_neg Bool.false_ne_true, if_neg k2]
    by_cases k3 : c.Kind = 3
    · have hto := pathB_size (hc.to k3).1
      have hcl3 := clO_ne (p := c.To) l 0 (posF l c.Path)
      rw [Nat.zero_add] at hcl3
      rw [decide_eq_true k3, if_pos rfl, if_pos k3, clash_f hps (by omega) (by omega), Option.bind_some, hcl3]
      cases hr : relAny (l.eraseIdx (posF l c.Path)) c.To
      · rw [if_neg Bool.false_ne_true, if_neg Bool.false_ne_true, ez, Option.bind_some, del_f l hp, Option.bind_some,
          Put_f (h.srt.sublist (List.eraseIdx_sublist _ _)) (by have := List.length_eraseIdx_le l (posF l c.Path); omega) (rel_has hr) (by omega), Option.bind_some]; rfl
      · rw [if_pos rfl, if_pos rfl]
    · rw [decide_eq_false k3, if_neg Bool.false_ne_true, if_neg k3, apply_f, Option.bind_some]
      by_cases ha : (applyF c.Patch l[posF l c.Path].Lines).2.Code = 0
      · have hi : (applyF c.Patch l[posF l c.Path].Lines).2.Index = 0 := by rw [(applyF_ok ha).2.2.2.2.2]
        rw [decide_eq_true ha, decide_eq_true hi, if_neg (by decide), if_neg (fun hn => hn ha), Option.bind_some, Option.bind_some, Int.toNat_natCast]; rfl
      · rw [if_pos (by simp [ha]), if_pos ha]
theorem pos_eq {m : List File} (h : TSrt m) {p : ByteArray} {k : Nat} (hk : k ≤ m.length) (h1 : ∀ i (hi : i < m.length), i < k → sLt m[i].Path p = true) (h2 : ∀ i (hi : i < m.length), k ≤ i → sLt m[i].Path p = false) : posF m p = k := by
  have hp := pos_le m p
  rcases Nat.lt_trichotomy (posF m p) k with h3 | h3 | h3
  · have := h1 (posF m p) (by omega) h3
    rw [pos_lt h] at this
    simp at this
  · exact h3
  · have := h2 k (by omega) (Nat.le_refl _)
    rw [pos_lt h] at this
    simp at this; omega

theorem erase_rel {l : List File} (h : TrOk l) {j : Nat} (hj : j < l.length) : relAny (l.eraseIdx j) l[j].Path = false := by
  unfold relAny
  rw [List.any_eq_false]
  intro f hf
  rw [List.mem_eraseIdx_iff_getElem] at hf
  obtain ⟨i, hi, hne, rfl⟩ := hf
  rcases Nat.lt_or_gt_of_ne hne with h1 | h1
  · have := List.pairwise_iff_getElem.1 h.rel i j hi hj h1
    rw [this]; decide
  · have := List.pairwise_iff_getElem.1 h.rel j i hj hi h1
    rw [relB_comm, this]; decide

theorem pos_erase {l : List File} (h : TSrt l) {j : Nat} (hj : j < l.length) : posF (l.eraseIdx j) l[j].Path = j := by
  have hlen : (l.eraseIdx j).length = l.length - 1 := by rw [List.length_eraseIdx, if_pos hj]
  refine pos_eq (h.sublist (List.eraseIdx_sublist _ _)) (by omega) ?_ ?_
  · intro i hi hij
    rw [List.getElem_eraseIdx_of_lt _ hij]
    exact List.pairwise_iff_getElem.1 h i j (by omega) hj hij
  · intro i hi hij
    rw [List.getElem_eraseIdx_of_ge _ hij]
    exact sLt_asymm (List.pairwise_iff_getElem.1 h j (i + 1) hj (by omega) (by omega))

theorem ins_erase {l : List File} (h : TSrt l) {j : Nat} (hj : j < l.length) {x : File} (hx : x.Path = l[j].Path) : insF (l.eraseIdx j) x = l.set j x := by
  unfold insF
  rw [hx, pos_erase h hj, List.eraseIdx_eq_take_drop_succ, List.set_eq_take_append_cons_drop, if_pos hj]
  have h1 : (l.take j ++ l.drop (j + 1)).take j = l.take j := by rw [List.take_append_of_le_length (by simp; omega), List.take_take, Nat.min_self]
  have h2 : (l.take j ++ l.drop (j + 1)).drop j = l.drop (j + 1) := by
    have hl : (l.take j).length = j := by simp; omega
    rw [List.drop_append_of_le_length (by omega), List.drop_of_length_le (by omega), List.nil_append]
  rw [h1, h2]; simp

theorem ins_ok {l : List File} (h : TrOk l) {x : File} (h1 : pathB x.Path = true) (h2 : relAny l x.Path = false) (h3 : OkText x.Lines) (h4 : l.length < 24) : TrOk (insF l x) := by
  have hrel : ∀ f ∈ l, relB f.Path x.Path = false := by
    intro f hf
    unfold relAny at h2
    rw [List.any_eq_false] at h2
    simpa using h2 f hf
  refine ⟨by rw [ins_len]; omega, ins_srt h.srt (rel_has h2), ?_, ?_, ?_⟩
  · intro f hf
    rcases ins_mem.1 hf with rfl | hf
    · exact h1
    · exact h.path f hf
  · unfold insF
    rw [List.pairwise_append, List.pairwise_append]
    have hr := h.rel
    rw [← List.take_append_drop (posF l x.Path) l, List.pairwise_append] at hr
    refine ⟨⟨hr.1, List.pairwise_singleton _ _, ?_⟩, hr.2.1, ?_⟩
    · intro a ha b hb
      rw [List.mem_singleton] at hb; subst hb
      exact hrel a (List.mem_of_mem_take ha)
    · intro a ha b hb
      rcases List.mem_append.1 ha with ha | ha
      · exact hr.2.2 a ha b hb
      · rw [List.mem_singleton] at ha; subst ha
        rw [relB_comm]; exact hrel b (List.mem_of_mem_drop hb)
  · intro f hf
    rcases ins_mem.1 hf with rfl | hf
    · exact h3
    · exact h.text f hf

theorem erase_ok {l : List File} (h : TrOk l) (j : Nat) : TrOk (l.eraseIdx j) := by
  have hs := List.eraseIdx_sublist l j
  refine ⟨Nat.le_trans hs.length_le h.len, h.srt.sublist hs, fun f hf => h.path f (hs.subset hf), h.rel.sublist hs, fun f hf => h.text f (hs.subset hf)⟩

theorem applyF_text {p : Patch} {t : List ByteArray} (h : (applyF p t).2.Code = 0) : OkText (applyF p t).1 := by
  obtain ⟨h1, h2, h3, h4, h5, h6⟩ := applyF_ok h
  rw [h6]
  exact ⟨h5, rawS_lines _ _ _ h3.2 fun x hx => lines_of (good_at h2 (by omega) x hx).2.2.2.1⟩

theorem makeF_ok {l : List File} (h : TrOk l) {c : TreeChange} (hc : OkCh c) (h0 : (makeF c l).1 = 0) : TrOk (makeF c l).2 := by
  unfold makeF at h0 ⊢
  by_cases k1 : c.Kind = 1
  · rw [if_pos k1] at h0 ⊢
    cases hr : relAny l c.Path
    · rw [hr, if_neg Bool.false_ne_true] at h0
      rw [if_neg Bool.false_ne_true]
      by_cases h24 : 24 ≤ l.length
      · rw [if_pos h24] at h0; simp at h0
      · rw [if_neg h24]
        exact ins_ok h hc.path hr ((okText_iff _).2 ((textFault_zero _).2 hc.lines)) (by omega)
    · rw [hr, if_pos rfl] at h0; simp at h0
  rw [if_neg k1] at h0 ⊢
  cases hh : hasF l c.Path with
  | false => rw [hh] at h0; simp at h0
  | true =>
    obtain ⟨hp, he⟩ := has_pos h.srt hh
    have hfm := List.getElem_mem hp
    have hle : (l.eraseIdx (posF l c.Path)).length = l.length - 1 := by rw [List.length_eraseIdx, if_pos hp]
    have hl := h.len
    rw [hh, if_pos rfl, List.getElem?_eq_getElem hp] at h0
    rw [if_pos rfl, List.getElem?_eq_getElem hp]
    simp only at h0 ⊢
    by_cases k2 : c.Kind = 2
    · rw [if_pos k2] at h0 ⊢
      by_cases ht : l[posF l c.Path].Lines ≠ c.Lines
      · rw [if_pos ht] at h0; simp at h0
      · rw [if_neg ht]; exact erase_ok h _
    rw [if_neg k2] at h0 ⊢
    by_cases k3 : c.Kind = 3
    · rw [if_pos k3] at h0 ⊢
      cases hr : relAny (l.eraseIdx (posF l c.Path)) c.To
      · rw [if_neg Bool.false_ne_true]
        exact ins_ok (erase_ok h _) (hc.to k3).1 hr (show OkText l[posF l c.Path].Lines from h.text _ hfm) (by omega)
      · rw [hr, if_pos rfl] at h0; simp at h0
    · rw [if_neg k3] at h0 ⊢
      by_cases ha : (applyF c.Patch l[posF l c.Path].Lines).2.Code = 0
      · rw [if_neg (fun hn => hn ha)]
        simp only
        rw [← ins_erase h.srt hp (x := ⟨l[posF l c.Path].Path, (applyF c.Patch l[posF l c.Path].Lines).1⟩) rfl]
        refine ins_ok (erase_ok h _) (show pathB l[posF l c.Path].Path = true from h.path _ hfm) (erase_rel h hp) ?_ (by omega)
        exact applyF_text ha
      · rw [if_pos ha] at h0; exact absurd h0 ha

def pcG (k : Nat) (c : TreeChange) : Option Fault := if chF c ≠ 0 then some ⟨chF c, k⟩ else Option.none
def pcF (p : List TreeChange) : Fault := if p.length > 30 then ⟨2, -1⟩ else (scanO pcG 0 p).getD ⟨0, 0⟩

theorem VPatch_f (p : TreePatch) : treepatch_ValidatePatch p = some (pcF p.Changes) := by
  obtain ⟨l⟩ := p
  unfold treepatch_ValidatePatch pcF
  simp only
  by_cases h : l.length > 30
  · rw [decide_eq_true (by omega), if_pos rfl, if_pos h]
  rw [decide_eq_false (by omega), if_neg Bool.false_ne_true, if_neg h, scan0 l pcG ?_ ?_, Option.bind_some]
  · cases scanO pcG 0 l <;> rfl
  · intro k hk _
    unfold treepatch_ValidatePatch.l1 pcG
    simp only
    rw [decide_eq_true (by omega), if_pos rfl, at_nat hk, Option.bind_some, check_f, Option.bind_some]
    by_cases hc : chF l[k] = 0
    · rw [decide_eq_true hc, if_neg (show ¬ ((!true) = true) by decide), if_neg (fun hn => hn hc), ck_eq (by omega) (by omega), Option.bind_some]; rfl
    · rw [decide_eq_false hc, if_pos (by rfl), if_pos hc]
  · unfold treepatch_ValidatePatch.l1
    rw [decide_eq_false (by simp), if_neg Bool.false_ne_true]

theorem pcG_code {k : Nat} {c : TreeChange} {y : Fault} (h : pcG k c = some y) : y.Code ≠ 0 := by
  unfold pcG at h
  split at h
  · rename_i hc; cases h; exact hc
  · cases h

theorem pcF_ok (p : List TreeChange) : pcF p = ⟨0, 0⟩ ∨ (pcF p).Code ≠ 0 := by
  unfold pcF
  split
  · right; simp
  · cases h : scanO pcG 0 p with
    | none => left; rfl
    | some y => right; obtain ⟨j, hj, e⟩ := scanO_some h; exact pcG_code e

theorem pcF_zero (p : List TreeChange) : (pcF p).Code = 0 ↔ p.length ≤ 30 ∧ ∀ c ∈ p, OkCh c := by
  unfold pcF
  by_cases h : p.length > 30
  · rw [if_pos h]; exact ⟨fun e => by simp at e, fun e => by omega⟩
  rw [if_neg h]
  have e1 : (((scanO pcG 0 p).getD ⟨0, 0⟩).Code = 0) ↔ scanO pcG 0 p = Option.none := by
    cases h : scanO pcG 0 p with
    | none => simp
    | some y => obtain ⟨j, hj, e⟩ := scanO_some h; simp [pcG_code e]
  rw [e1, scanO_none]
  constructor
  · intro hh
    refine ⟨by omega, fun c hc => ?_⟩
    obtain ⟨j, hj, rfl⟩ := List.getElem_of_mem hc
    have := hh j hj
    unfold pcG at this
    split at this
    · cases this
    · rename_i h0; exact chF_ok.1 (by simpa using h0)
  · rintro ⟨_, hh⟩ j hj
    unfold pcG
    rw [if_neg (by rw [chF_ok.2 (hh _ (List.getElem_mem hj))]; simp)]

/-- changes one after the other -/
def runF : Nat → List TreeChange → List File → List File × Fault
  | _, [], l => (l, ⟨0, 0⟩)
  | k, c :: r, l => if (makeF c l).1 ≠ 0 then ([], ⟨(makeF c l).1, k⟩) else runF (k + 1) r (makeF c l).2

def applyT (p : List TreeChange) (l : List File) : List File × Fault :=
  if (pcF p).Code ≠ 0 then ([], pcF p) else if (treeFault l).Code ≠ 0 then ([], ⟨(treeFault l).Code, -2⟩) else runF 0 p l

theorem copyT_f {l : List File} (h : ∀ f ∈ l, f.Lines.length ≤ 1000000) (hl : l.length ≤ 1000) : treepatch_CopyTree ⟨l⟩ = some ⟨l⟩ := by
  have key : ∀ (n k : Nat), k + n = l.length → iter (fun s => treepatch_CopyTree.l1 ⟨l⟩ s.1 s.2) ((k : Int), l.take k) = some l := by
    intro n
    induction n with
    | zero =>
      intro k hk
      refine iter_done ?_
      show treepatch_CopyTree.l1 ⟨l⟩ _ _ = _
      unfold treepatch_CopyTree.l1
      simp only
      rw [decide_eq_false (by omega), if_neg Bool.false_ne_true, List.take_of_length_le (by omega)]
    | succ n ih =>
      intro k hk
      have hkl : k < l.length := by omega
      have hs : treepatch_CopyTree.l1 ⟨l⟩ (k : Int) (l.take k) = some (Step.next (((k + 1 : Nat) : Int), l.take (k + 1))) := by
        unfold treepatch_CopyTree.l1
        simp only
        rw [decide_eq_true (by omega), if_pos rfl, at_nat hkl, Option.bind_some, clone_f _ (h _ (List.getElem_mem hkl)), Option.bind_some, app_eq (by simp; omega), Option.bind_some, ck_eq (by omega) (by omega), Option.bind_some,
          List.take_add_one, List.getElem?_eq_getElem hkl]; rfl
      rw [iter_next (s' := (((k + 1 : Nat) : Int), l.take (k + 1))) hs]
      exact ih (k + 1) (by omega)
  unfold treepatch_CopyTree
  have := key l.length 0 (by omega)
  rw [List.take_zero, show ((0 : Nat) : Int) = 0 from rfl] at this
  rw [this, Option.bind_some]; rfl

theorem run_ok : ∀ (r : List TreeChange) (k : Nat) (l : List File), TrOk l → (∀ c ∈ r, OkCh c) → (runF k r l).2.Code = 0 → TrOk (runF k r l).1 ∧ (runF k r l).2 = ⟨0, 0⟩
  | [], k, l, h, _, _ => ⟨h, rfl⟩
  | c :: r, k, l, h, hc, h0 => by
    rw [runF] at h0 ⊢
    by_cases hm : (makeF c l).1 ≠ 0
    · rw [if_pos hm] at h0; exact absurd h0 hm
    · rw [if_neg hm] at h0 ⊢
      exact run_ok r (k + 1) _ (makeF_ok h (hc c List.mem_cons_self) (by simpa using hm)) (fun d hd => hc d (List.mem_cons_of_mem _ hd)) h0

theorem run_iter {p : List TreeChange} (hp : ∀ c ∈ p, OkCh c) (hpl : p.length ≤ 30) : ∀ (r : List TreeChange) (k : Nat) (l : List File), p.drop k = r → TrOk l →
    iter (fun s => treepatch_Apply.l1 ⟨p⟩ s.1 s.2) ((k : Int), l) = some (if (runF k r l).2.Code ≠ 0 then .inl (⟨[]⟩, (runF k r l).2) else .inr (runF k r l).1) := by
  intro r
  induction r with
  | nil =>
    intro k l hk h
    have := drop_end hk
    rw [runF, if_neg (by simp)]
    refine iter_done ?_
    show treepatch_Apply.l1 ⟨p⟩ _ _ = _
    unfold treepatch_Apply.l1
    simp only
    rw [decide_eq_false (by omega), if_neg Bool.false_ne_true]
  | cons c r ih =>
    intro k l hk h
    obtain ⟨hlt, hx, hr⟩ := drop_at hk
    have hc : OkCh c := hp c (hx ▸ List.getElem_mem hlt)
    have hs : treepatch_Apply.l1 ⟨p⟩ (k : Int) l = if (makeF c l).1 ≠ 0 then some (Step.done (Sum.inl (⟨[]⟩, ⟨(makeF c l).1, k⟩))) else some (Step.next (((k + 1 : Nat) : Int), (makeF c l).2)) := by
      unfold treepatch_Apply.l1
      simp only
      rw [decide_eq_true (by omega), if_pos rfl, at_nat hlt, Option.bind_some, hx, make1_f h hc, Option.bind_some]
      by_cases hm : (makeF c l).1 = 0
      · rw [decide_eq_true hm, if_neg (show ¬ ((!true) = true) by decide), if_neg (fun hn => hn hm), ck_eq (by omega) (by omega), Option.bind_some]; rfl
      · rw [decide_eq_false hm, if_pos (by rfl), if_pos hm]
    rw [runF]
    by_cases hm : (makeF c l).1 ≠ 0
    · rw [if_pos hm] at hs ⊢
      rw [if_pos (by simpa using hm)]
      exact iter_done hs
    · rw [if_neg hm] at hs ⊢
      rw [iter_next (s' := (((k + 1 : Nat) : Int), (makeF c l).2)) hs]
      exact ih (k + 1) _ hr (makeF_ok h hc (by simpa using hm))

theorem run_fail : ∀ (r : List TreeChange) (k : Nat) (l : List File), (runF k r l).2.Code ≠ 0 → (runF k r l).1 = []
  | [], k, l, h => absurd rfl h
  | c :: r, k, l, h => by
    rw [runF] at h ⊢
    by_cases hm : (makeF c l).1 ≠ 0
    · rw [if_pos hm]
    · rw [if_neg hm] at h ⊢
      exact run_fail r (k + 1) _ h

theorem Apply_f (p : TreePatch) (t : FileTree) : treepatch_Apply p t = some (⟨(applyT p.Changes t.Files).1⟩, (applyT p.Changes t.Files).2) := by
  obtain ⟨p⟩ := p
  obtain ⟨l⟩ := t
  unfold treepatch_Apply applyT
  rw [VPatch_f, Option.bind_some]
  simp only
  rcases pcF_ok p with h | h
  · have h0 : (pcF p).Code = 0 := by rw [h]
    obtain ⟨hpl, hp⟩ := (pcF_zero p).1 h0
    rw [if_neg (by rw [h]; decide), if_neg (fun hn => hn h0), tsecond_f, Option.bind_some]
    simp only
    by_cases ht : (treeFault l).Code = 0
    · have hT := (treeFault_zero l).1 ht
      rw [if_pos ht, if_neg (by decide), if_neg (fun hn => hn ht), copyT_f (fun f hf => by have := hT.text_len hf; omega) (by have := hT.len; omega), Option.bind_some]
      have := run_iter hp hpl p 0 l rfl hT
      rw [show ((0 : Nat) : Int) = 0 from rfl] at this
      rw [this, Option.bind_some]
      by_cases hr : (runF 0 p l).2.Code ≠ 0
      · rw [if_pos hr, run_fail _ _ _ hr]
      · rw [if_neg hr, (run_ok p 0 l hT hp (by simpa using hr)).2]; rfl
    · rw [if_neg ht, if_pos (by simp [ht]), if_pos ht]
  · rw [if_pos (by simp [h]), if_pos h]

theorem tree_refl {l : List File} (h : ∀ f ∈ l, f.Lines.length ≤ 1000000) (hl : l.length ≤ 1000000) : changeforgeequal_Tree ⟨l⟩ ⟨l⟩ = some true := by
  unfold changeforgeequal_Tree
  simp only
  rw [if_neg (by simp), scan0 l (fun _ _ => (Option.none : Option Bool)) ?_ ?_, Option.bind_some]
  · have : scanO (fun _ _ => (Option.none : Option Bool)) 0 l = Option.none := by rw [scanO_none]; intro j hj; rfl
    rw [this]; rfl
  · intro k hk _
    unfold changeforgeequal_Tree.l1
    simp only
    rw [decide_eq_true (by omega), if_pos rfl, at_nat hk, Option.bind_some, Option.bind_some, decide_eq_true rfl, if_neg (show ¬ ((!true) = true) by decide), Option.bind_some, Option.bind_some, strings_eq _ _ (h _ (List.getElem_mem hk)), Option.bind_some,
      decide_eq_true rfl, Option.bind_some, if_neg (by decide), ck_eq (by omega) (by omega), Option.bind_some]; rfl
  · unfold changeforgeequal_Tree.l1
    rw [decide_eq_false (by simp), if_neg Bool.false_ne_true]

theorem tree_ok {l : List File} (h : TrOk l) : changeforgeequal_Tree ⟨l⟩ ⟨l⟩ = some true := tree_refl (fun f hf => by have := h.text_len hf; omega) (by have := h.len; omega)
theorem applyT_of {p : List TreeChange} {l : List File} (h1 : p.length ≤ 30) (h2 : ∀ c ∈ p, OkCh c) (h3 : TrOk l) : applyT p l = runF 0 p l := by
  unfold applyT
  rw [if_neg (by rw [(pcF_zero p).2 ⟨h1, h2⟩]; simp), if_neg (by rw [(treeFault_zero l).2 h3]; simp)]

theorem one_ok {p : ByteArray} {L : List ByteArray} (h1 : pathB p = true) (h2 : OkText L) : TrOk [⟨p, L⟩] :=
  ⟨by simp, List.pairwise_singleton _ _, by simpa using h1, List.pairwise_singleton _ _, by simpa using h2⟩

end Go.Dc
