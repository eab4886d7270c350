import Derived.Test.YtmhjcomgbfonfaaGreatDoorDcNB
import Derived.Test.YtmhjcomgbfonfaaGreatDoorDcRS
set_option linter.unusedSimpArgs false
set_option linter.unusedVariables false
set_option maxRecDepth 4000
namespace Go.Dc
open Go
theorem end_f (h : Hunk) (h0 : -1000000 ≤ h.At) (h1 : h.At ≤ 1000000) (h2 : h.Old.length ≤ 1000000) : Gb h = some (h.At + h.Old.length) := by
  unfold Gb
  rw [Ce (by omega) (by omega)]; rfl
def hcode (h : Hunk) (e : Int) : Int :=
  if h.At < 0 ∨ h.At > 120 then 3 else if (Bp h.Old).Code ≠ 0 then (Bp h.Old).Code else if (Bp h.New).Code ≠ 0 then (Bp h.New).Code else
  if h.Old.length + h.New.length = 0 ∨ h.At ≤ e then 5 else if h.At + h.Old.length > 120 then 3 else 0
theorem Ga {l : List ByteArray} (h : (Bp l).Code = 0) : l.length ≤ 120 := ((E5 l).2 ((Dm l).2 h)).1
theorem hunk_f (h : Hunk) (e : Int) : Cw h e = some (hcode h e) := by
  unfold Cw hcode
  by_cases ha : h.At < 0 ∨ h.At > 120
  · rw [if_pos ha]
    have : (if decide (h.At < 0) = true then some true else some (decide (h.At > 120))) = some true := by
      rw [Be]
      by_cases h0 : h.At < 0
      · rw [if_pos h0]
      · rw [if_neg h0, decide_eq_true (by omega)]
    rw [this, Option.bind_some, if_pos rfl]
  · rw [if_neg ha]
    have : (if decide (h.At < 0) = true then some true else some (decide (h.At > 120))) = some false := by
      rw [Be, if_neg (by omega), decide_eq_false (by omega)]
    rw [this, Option.bind_some, if_neg (by decide)]
    have l0 : Cw.l1 h 0 = if (Bp h.Old).Code ≠ 0 then some (.done (.inl (Bp h.Old).Code)) else some (.next 1) := by
      unfold Cw.l1
      rw [Be, if_pos (by decide), show at? ([h.Old, h.New] : List (List ByteArray)) 0 = some h.Old from rfl, Option.bind_some, Mq, Option.bind_some]
      rcases H6 h.Old with h1 | h1
      · rw [h1, if_neg (by decide), if_neg (by decide), Ce (by omega) (by omega)]; rfl
      · rw [if_pos h1, if_pos (Lb.2 fun h2 => h1 h2.1)]
    have l1 : Cw.l1 h 1 = if (Bp h.New).Code ≠ 0 then some (.done (.inl (Bp h.New).Code)) else some (.next 2) := by
      unfold Cw.l1
      rw [Be, if_pos (by decide), show at? ([h.Old, h.New] : List (List ByteArray)) 1 = some h.New from rfl, Option.bind_some, Mq, Option.bind_some]
      rcases H6 h.New with h1 | h1
      · rw [h1, if_neg (by decide), if_neg (by decide), Ce (by omega) (by omega)]; rfl
      · rw [if_pos h1, if_pos (Lb.2 fun h2 => h1 h2.1)]
    have l2 : Cw.l1 h 2 = some (.done (.inr ())) := by
      unfold Cw.l1
      rw [Be, if_neg (by decide)]
    by_cases ho : (Bp h.Old).Code ≠ 0
    · rw [if_pos ho] at l0 ⊢
      rw [Br l0, Option.bind_some]
    · rw [if_neg ho] at l0 ⊢
      by_cases hw : (Bp h.New).Code ≠ 0
      · rw [if_pos hw] at l1 ⊢
        rw [B9 l0, Br l1, Option.bind_some]
      · rw [if_neg hw] at l1 ⊢
        rw [B9 l0, B9 l1, Br l2, Option.bind_some]
        have s1 := Ga (l := h.Old) (by omega)
        have s2 := Ga (l := h.New) (by omega)
        simp only
        unfold Cw.j1
        rw [Ce (by omega) (by omega), Option.bind_some]
        by_cases hm : h.Old.length + h.New.length = 0 ∨ h.At ≤ e
        · rw [if_pos hm]
          have : (if decide ((h.Old.length : Int) + (h.New.length : Int) = 0) = true then some true else some (decide (h.At ≤ e))) = some true := by
            rw [Be]
            by_cases h0 : (h.Old.length : Int) + (h.New.length : Int) = 0
            · rw [if_pos h0]
            · rw [if_neg h0, decide_eq_true (by omega)]
          rw [this, Option.bind_some, if_pos rfl]
        · rw [if_neg hm]
          have : (if decide ((h.Old.length : Int) + (h.New.length : Int) = 0) = true then some true else some (decide (h.At ≤ e))) = some false := by
            rw [Be, if_neg (by omega), decide_eq_false (by omega)]
          rw [this, Option.bind_some, if_neg (by decide), end_f h (by omega) (by omega) (by omega), Option.bind_some, Be]
          split <;> rfl
theorem hcode_zero {h : Hunk} {e : Int} (hc : hcode h e = 0) : 0 ≤ h.At ∧ (Bp h.Old).Code = 0 ∧ (Bp h.New).Code = 0 ∧ 0 < h.Old.length + h.New.length ∧ e < h.At ∧ h.At + h.Old.length ≤ 120 := by
  unfold hcode at hc
  split at hc
  · cases hc
  · split at hc
    · rename_i h1 h2; exact absurd hc h2
    · split at hc
      · rename_i h1 h2 h3; exact absurd hc h3
      · split at hc
        · cases hc
        · split at hc
          · cases hc
          · omega
def pscan : Int → Int → List Hunk → Option Fault
  | _, _, [] => Option.none
  | i, e, h :: r => if hcode h e = 0 then pscan (i + 1) (h.At + h.Old.length) r else some ⟨hcode h e, i⟩
def Es (p : Patch) : Fault := if p.Hunks.length > 130 then ⟨2, -1⟩ else (pscan 0 (-1) p.Hunks).getD ⟨0, 0⟩
theorem pscan_code : ∀ (l : List Hunk) (i e : Int) (f : Fault), pscan i e l = some f → f.Code ≠ 0
  | [], _, _, _, h => by cases h
  | x :: r, i, e, f, h => by
    rw [pscan] at h
    split at h
    · exact pscan_code r _ _ f h
    · rename_i h0; cases h; exact h0
theorem patchFault_ok (p : Patch) : Es p = ⟨0, 0⟩ ∨ (Es p).Code ≠ 0 := by
  unfold Es
  split
  · right; show (2 : Int) ≠ 0; decide
  · cases h : pscan 0 (-1) p.Hunks with
    | none => left; rfl
    | some f => right; exact pscan_code _ _ _ f h
theorem patchFault_zero (p : Patch) : Es p = ⟨0, 0⟩ ↔ (Es p).Code = 0 := by
  rcases patchFault_ok p with h | h
  · rw [h]; exact ⟨fun _ => rfl, fun _ => rfl⟩
  · exact ⟨fun h2 => by rw [h2], fun h2 => absurd h2 h⟩
theorem pvalidate_f (p : Patch) : B7 p = some (Es p) := by
  unfold B7 Es
  rw [Be]
  by_cases h130 : p.Hunks.length > 130
  · rw [if_pos (by omega), if_pos h130]
  · rw [if_neg (by omega), if_neg h130]
    have key : ∀ (rest : List Hunk) (k : Nat) (e : Int), p.Hunks.drop k = rest → De (fun s => B7.l1 p s.1 s.2) ((k : Int), e) = some (orL (pscan k e rest)) := by
      intro rest
      induction rest with
      | nil =>
        intro k e hk
        have := Hg hk
        refine Br ?_
        unfold B7.l1
        rw [Be, if_neg (by omega)]; rfl
      | cons h r ih =>
        intro k e hk
        obtain ⟨hlt, hh, hr⟩ := Hs hk
        rw [pscan]
        by_cases hc : hcode h e = 0
        · obtain ⟨z1, z2, z3, z4, z5, z6⟩ := hcode_zero hc
          have e0 : B7.l1 p (k : Int) e = some (.next (((k + 1 : Nat) : Int), h.At + h.Old.length)) := by
            unfold B7.l1
            rw [Be, if_pos (by omega), Cv hlt, Option.bind_some, hh, hunk_f, Option.bind_some, hc, Kl, if_pos rfl, end_f h (by omega) (by omega) (by omega), Option.bind_some, Ce (by omega) (by omega), Option.bind_some]; rfl
          rw [if_pos hc, B9 e0]; exact ih (k + 1) _ hr
        · rw [if_neg hc]
          refine Br ?_
          unfold B7.l1
          rw [Be, if_pos (by omega), Cv hlt, Option.bind_some, hh, hunk_f, Option.bind_some, Kl, if_neg hc]; rfl
    rw [show (0 : Int) = ((0 : Nat) : Int) from rfl, key p.Hunks 0 _ rfl, Option.bind_some]
    cases pscan ((0 : Nat) : Int) (-1) p.Hunks <;> rfl
def Good : Int → List Hunk → Prop
  | _, [] => True
  | e, h :: r => hcode h e = 0 ∧ Good (h.At + h.Old.length) r
theorem pscan_good : ∀ (l : List Hunk) (i e : Int), pscan i e l = Option.none ↔ Good e l
  | [], _, _ => by simp [pscan, Good]
  | h :: r, i, e => by
    rw [pscan, Good]
    by_cases hc : hcode h e = 0
    · rw [if_pos hc, pscan_good r]; simp [hc]
    · rw [if_neg hc]; simp [hc]
theorem Nc (p : Patch) : (Es p).Code = 0 ↔ p.Hunks.length ≤ 130 ∧ Good (-1) p.Hunks := by
  rw [← patchFault_zero, ← pscan_good p.Hunks 0 (-1)]
  unfold Es
  by_cases h : p.Hunks.length > 130
  · rw [if_pos h]; constructor
    · intro h2; cases h2
    · intro h2; omega
  · rw [if_neg h]
    cases hs : pscan 0 (-1) p.Hunks with
    | none => simp; omega
    | some f =>
      have := pscan_code _ _ _ f hs
      constructor
      · intro h2; simp at h2; rw [h2] at this; exact absurd rfl this
      · intro h2; cases h2.2
def occ (text part : List ByteArray) (k : Nat) : Prop := k ≤ text.length ∧ (text.drop k).take part.length = part
instance (text part : List ByteArray) (k : Nat) : Decidable (occ text part k) := by unfold occ; infer_instance
theorem occ_len {text part : List ByteArray} {k : Nat} (h : occ text part k) : k + part.length ≤ text.length := by
  have h1 := congrArg List.length h.2
  simp at h1
  have := h.1
  omega
theorem sequal_f (a b : List ByteArray) (hb : a.length ≤ 1000000) : C8 a b = some (decide (a = b)) := by
  unfold C8
  rw [Kl]
  by_cases hl : a.length = b.length
  · rw [if_pos (by omega)]
    have key : ∀ (rest : List ByteArray) (k : Nat), a.drop k = rest → a.take k = b.take k → De (fun s => C8.l1 a b s) (k : Int) = some (if a = b then .inr () else .inl false) := by
      intro rest
      induction rest with
      | nil =>
        intro k hk ht
        have := Hg hk
        rw [List.take_of_length_le (by omega), List.take_of_length_le (by omega)] at ht
        rw [if_pos ht]
        refine Br ?_
        unfold C8.l1
        rw [Be, if_neg (by omega)]
      | cons x r ih =>
        intro k hk ht
        obtain ⟨hlt, hx, hr⟩ := Hs hk
        have hlt2 : k < b.length := by omega
        by_cases he : x = b[k]
        · have e0 : C8.l1 a b (k : Int) = some (.next ((k + 1 : Nat) : Int)) := by
            unfold C8.l1
            rw [Be, if_pos (by omega), Cv hlt, Option.bind_some, hx, Cv hlt2, Option.bind_some, Kl, if_pos he, Ce (by omega) (by omega), Option.bind_some]; rfl
          rw [B9 e0]
          exact ih (k + 1) hr (by rw [List.take_succ_eq_append_getElem hlt, List.take_succ_eq_append_getElem hlt2, ht, hx, he])
        · rw [if_neg (fun e => he (by rw [← hx]; simp only [e]))]
          refine Br ?_
          unfold C8.l1
          rw [Be, if_pos (by omega), Cv hlt, Option.bind_some, hx, Cv hlt2, Option.bind_some, Kl, if_neg he]
    rw [show (0 : Int) = ((0 : Nat) : Int) from rfl, key a 0 rfl rfl, Option.bind_some]
    by_cases h : a = b
    · rw [if_pos h, decide_eq_true h]; rfl
    · rw [if_neg h, decide_eq_false h]
  · rw [if_neg (by omega), decide_eq_false (fun e => hl (by rw [e]))]
theorem occurs_f (text part : List ByteArray) (i : Int) (h1 : text.length ≤ 1000000) (h2 : part.length ≤ 1000000) : K9 text part i = some (decide (0 ≤ i ∧ occ text part i.toNat)) := by
  unfold K9
  by_cases hi : 0 ≤ i ∧ i ≤ text.length
  · have e1 : (if decide (i ≥ 0) = true then some (decide (i ≤ (text.length : Int))) else some false) = some true := by
      rw [Be, if_pos hi.1, decide_eq_true hi.2]
    rw [e1, Option.bind_some, if_pos rfl, Ce (by omega) (by omega), Option.bind_some, Option.bind_some, Be]
    by_cases hp : (part.length : Int) ≤ text.length - i
    · rw [if_pos hp, Ce (by omega) (by omega), Option.bind_some, Oq (by omega) (by omega) (by omega), Option.bind_some, sequal_f _ _ (by simp; omega), Option.bind_some, Option.bind_some]
      congr 1
      have : (text.take (i + (part.length : Int)).toNat).drop i.toNat = (text.drop i.toNat).take part.length := by
        rw [List.take_drop]
        congr 2
        omega
      rw [this]
      rw [decide_eq_decide]
      unfold occ
      constructor
      · intro h; exact ⟨by omega, by omega, h⟩
      · intro h; exact h.2.2
    · rw [if_neg hp, Option.bind_some]
      congr 1
      rw [eq_comm, decide_eq_false_iff_not]
      rintro ⟨_, h⟩
      have := occ_len h
      omega
  · have e1 : (if decide (i ≥ 0) = true then some (decide (i ≤ (text.length : Int))) else some false) = some false := by
      rw [Be]
      by_cases h0 : i ≥ 0
      · rw [if_pos h0, decide_eq_false (by omega)]
      · rw [if_neg h0]
    rw [e1]
    simp only [Option.bind_some, Bool.false_eq_true, if_false]
    congr 1
    rw [eq_comm, decide_eq_false_iff_not]
    rintro ⟨h0, h⟩
    exact hi ⟨h0, by have := h.1; omega⟩
def rawS : List Hunk → List ByteArray → Nat → List ByteArray
  | [], text, low => text.drop low
  | h :: r, text, low => (text.drop low).take (h.At.toNat - low) ++ (h.New ++ rawS r text (h.At.toNat + h.Old.length))
def Fits (text : List ByteArray) (l : List Hunk) : Prop := ∀ h ∈ l, occ text h.Old h.At.toNat
theorem raw_f (text : List ByteArray) (ht : text.length ≤ 120) (hs : List Hunk) (hn : hs.length ≤ 130) : ∀ (rest : List Hunk) (k low : Nat) (out : List ByteArray) (e : Int), hs.drop k = rest → Good e rest → Fits text rest → (low : Int) ≤ e + 1 → low ≤ text.length → out.length ≤ k * 240 → k ≤ 130 →
    ∃ fin : Nat, fin ≤ text.length ∧ ∃ o, De (fun s => B6.l1 hs text s.1 s.2.1 s.2.2) ((k : Int), out, (low : Int)) = some (o, (fin : Int)) ∧ o ++ text.drop fin = out ++ rawS rest text low ∧ o.length ≤ 131 * 240 := by
  intro rest
  induction rest with
  | nil =>
    intro k low out e hk _ _ _ hlow hout hk130
    have := Hg hk
    refine ⟨low, hlow, out, Br ?_, rfl, ?_⟩
    · unfold B6.l1
      rw [Be, if_neg (by omega)]
    · have : k * 240 ≤ 130 * 240 := Nat.mul_le_mul_right _ hk130
      omega
  | cons h r ih =>
    intro k low out e hk hg hf hle hlow hout hk130
    obtain ⟨hlt, hh, hr⟩ := Hs hk
    obtain ⟨hc, hg'⟩ := hg
    obtain ⟨z1, z2, z3, z4, z5, z6⟩ := hcode_zero hc
    have ho := occ_len (hf h (by simp))
    have l2 := Ga z3
    have hka : k < 130 := by omega
    have hlo : low ≤ h.At.toNat := by omega
    have e0 : B6.l1 hs text (k : Int) out (low : Int) = some (.next (((k + 1 : Nat) : Int), out ++ (text.drop low).take (h.At.toNat - low) ++ h.New, ((h.At.toNat + h.Old.length : Nat) : Int))) := by
      unfold B6.l1
      have hcut : (text.take h.At.toNat).drop (low : Int).toNat = (text.drop low).take (h.At.toNat - low) := by
        rw [Int.toNat_natCast, List.drop_take]
      rw [Be, if_pos (by omega), Cv hlt, Option.bind_some, hh, Oq (by omega) (by omega) (by omega), Option.bind_some, hcut,
        Er (by simp; omega), Option.bind_some, Er (by simp; omega), Option.bind_some, end_f h (by omega) (by omega) (by omega), Option.bind_some, Ce (by omega) (by omega), Option.bind_some,
        show h.At + (h.Old.length : Int) = ((h.At.toNat + h.Old.length : Nat) : Int) by omega]
      rfl
    rw [B9 e0]
    obtain ⟨fin, f1, o, f2, f3, f4⟩ := ih (k + 1) (h.At.toNat + h.Old.length) (out ++ (text.drop low).take (h.At.toNat - low) ++ h.New) (h.At + h.Old.length) hr hg' (fun q hq => hf q (List.mem_cons_of_mem _ hq)) (by omega) (by omega) (by simp; omega) (by omega)
    refine ⟨fin, f1, o, f2, ?_, f4⟩
    rw [f3, rawS]
    simp only [List.append_assoc]
theorem Raw_f {text : List ByteArray} (ht : text.length ≤ 120) {hs : List Hunk} (hn : hs.length ≤ 130) (hg : Good (-1) hs) (hf : Fits text hs) : B6 hs text 0 (text.length : Int) = some (rawS hs text 0) := by
  obtain ⟨fin, f1, o, f2, f3, f4⟩ := raw_f text ht hs hn hs 0 0 [] (-1) rfl hg hf (by omega) (Nat.zero_le _) (by simp) (by omega)
  unfold B6
  rw [show ((0 : Nat) : Int) = 0 from rfl] at f2
  rw [f2, Option.bind_some]
  unfold B6.j1
  rw [Oq (by omega) (by omega) (by omega), Option.bind_some, Int.toNat_natCast, Int.toNat_natCast, List.take_length, Er (by simp; omega), Option.bind_some, f3]
  rfl
def oscan (text : List ByteArray) : Int → List Hunk → Option Fault
  | _, [] => Option.none
  | i, h :: r => if occ text h.Old h.At.toNat then oscan text (i + 1) r else some ⟨19, i⟩
theorem oscan_fits (text : List ByteArray) : ∀ (l : List Hunk) (i : Int), oscan text i l = Option.none ↔ Fits text l
  | [], _ => by simp [oscan, Fits]
  | h :: r, i => by
    rw [oscan]
    by_cases hc : occ text h.Old h.At.toNat
    · rw [if_pos hc, oscan_fits text r]; simp [Fits, hc]
    · rw [if_neg hc]; simp [Fits, hc]
theorem oscan_code (text : List ByteArray) : ∀ (l : List Hunk) (i : Int) (f : Fault), oscan text i l = some f → f.Code = 19
  | [], _, _, h => by cases h
  | x :: r, i, f, h => by
    rw [oscan] at h
    split at h
    · exact oscan_code text r _ f h
    · cases h; rfl
def Ko (p : Patch) (text : List ByteArray) : List ByteArray × Fault :=
  if (Es p).Code ≠ 0 then ([], Es p) else if (Bp text).Code ≠ 0 then ([], ⟨(Bp text).Code, -2⟩) else
  match oscan text 0 p.Hunks with
  | some f => ([], f)
  | Option.none => if (rawS p.Hunks text 0).length > 120 then ([], ⟨10, -1⟩) else (rawS p.Hunks text 0, ⟨0, 0⟩)
theorem good_at : ∀ {l : List Hunk} {e : Int}, Good e l → -1 ≤ e → ∀ h ∈ l, 0 ≤ h.At ∧ h.At + h.Old.length ≤ 120 ∧ (Bp h.Old).Code = 0 ∧ (Bp h.New).Code = 0 ∧ 0 < h.Old.length + h.New.length
  | x :: r, e, hg, he, h, hm => by
    obtain ⟨hc, hg'⟩ := hg
    obtain ⟨z1, z2, z3, z4, z5, z6⟩ := hcode_zero hc
    rcases List.mem_cons.1 hm with rfl | hm
    · exact ⟨z1, z6, z2, z3, z4⟩
    · exact good_at hg' (by omega) h hm
theorem apply_f (p : Patch) (text : List ByteArray) : Ct p text = some (Ko p text) := by
  unfold Ct Ko
  rw [pvalidate_f, Option.bind_some]
  rcases patchFault_ok p with hp | hp
  · rw [hp]
    simp only [ne_eq, not_true, if_false]
    rw [if_neg (by simp), second_f, Option.bind_some]
    rcases H6 text with ht | ht
    · rw [ht]
      simp only [ne_eq, not_true, if_false, if_true]
      rw [if_neg (by simp)]
      obtain ⟨hn, hg⟩ := (Nc p).1 ((patchFault_zero p).1 hp)
      have hl := Ga ((Dm text).1 ht)
      have key : ∀ (rest : List Hunk) (k : Nat), p.Hunks.drop k = rest → (∀ h ∈ rest, 0 ≤ h.At ∧ h.Old.length ≤ 120) → De (fun s => Ct.l1 p text s) (k : Int) = some (orL ((oscan text k rest).map fun f => (([] : List ByteArray), f))) := by
        intro rest
        induction rest with
        | nil =>
          intro k hk _
          have := Hg hk
          refine Br ?_
          unfold Ct.l1
          rw [Be, if_neg (by omega)]; rfl
        | cons h r ih =>
          intro k hk hall
          obtain ⟨hlt, hh, hr⟩ := Hs hk
          obtain ⟨h0, h1⟩ := hall h (by simp)
          rw [oscan]
          have eo : K9 text h.Old h.At = some (decide (occ text h.Old h.At.toNat)) := by
            rw [occurs_f _ _ _ (by omega) (by omega)]; simp [h0]
          by_cases hc : occ text h.Old h.At.toNat
          · have e0 : Ct.l1 p text (k : Int) = some (.next ((k + 1 : Nat) : Int)) := by
              unfold Ct.l1
              rw [Be, if_pos (by omega), Cv hlt, Option.bind_some, hh, eo, Option.bind_some, decide_eq_true hc, if_neg (by decide), Ce (by omega) (by omega), Option.bind_some]; rfl
            rw [if_pos hc, B9 e0]
            exact ih (k + 1) hr (fun q hq => hall q (List.mem_cons_of_mem _ hq))
          · rw [if_neg hc]
            refine Br ?_
            unfold Ct.l1
            rw [Be, if_pos (by omega), Cv hlt, Option.bind_some, hh, eo, Option.bind_some, decide_eq_false hc, if_pos (by decide)]; rfl
      rw [show (0 : Int) = ((0 : Nat) : Int) from rfl, key p.Hunks 0 rfl (fun h hm => by
        obtain ⟨z1, _, z2, _⟩ := good_at hg (by omega) h hm
        exact ⟨z1, Ga z2⟩), Option.bind_some, show (((0 : Nat) : Int)) = 0 from rfl]
      cases ho : oscan text 0 p.Hunks with
      | some f => rfl
      | none =>
        have hf := (oscan_fits text p.Hunks 0).1 ho
        simp only [Option.map_none, orL]
        unfold Ct.j1
        rw [Raw_f hl hn hg hf, Option.bind_some, Be]
        by_cases h120 : (rawS p.Hunks text 0).length > 120
        · rw [if_pos (by omega), if_pos h120]
        · rw [if_neg (by omega), if_neg h120]
    · simp only [ne_eq, ht, not_false_iff, if_true, if_false]
      rw [if_pos (by simp)]
  · simp only [ne_eq, hp, not_false_iff, if_true]
    rw [if_pos (by simp [hp])]
theorem applyF_ok {p : Patch} {text : List ByteArray} (h : (Ko p text).2.Code = 0) : p.Hunks.length ≤ 130 ∧ Good (-1) p.Hunks ∧ Ds text ∧ Fits text p.Hunks ∧ (rawS p.Hunks text 0).length ≤ 120 ∧ Ko p text = (rawS p.Hunks text 0, ⟨0, 0⟩) := by
  unfold Ko at h ⊢
  by_cases hp : (Es p).Code ≠ 0
  · rw [if_pos hp] at h; exact absurd h hp
  · rw [if_neg hp] at h ⊢
    by_cases ht : (Bp text).Code ≠ 0
    · rw [if_pos ht] at h; exact absurd h ht
    · rw [if_neg ht] at h ⊢
      cases ho : oscan text 0 p.Hunks with
      | some f =>
        rw [ho] at h
        have := oscan_code text _ _ _ ho
        simp only at h
        rw [this] at h; cases h
      | none =>
        rw [ho] at h
        simp only at h ⊢
        by_cases h120 : (rawS p.Hunks text 0).length > 120
        · rw [if_pos h120] at h; cases h
        · rw [if_neg h120]
          obtain ⟨a1, a2⟩ := (Nc p).1 (by omega)
          exact ⟨a1, a2, (E5 _).2 ((Dm _).2 (by omega)), (oscan_fits _ _ _).1 ho, by omega, rfl⟩
def gr (h : Hunk) : Int := (h.New.length : Int) - h.Old.length
def rng (h : Hunk) : Range_commute := ⟨h.At, h.At + h.Old.length, gr h⟩
def newR : Int → List Hunk → List Range_commute
  | _, [] => []
  | s, h :: r => ⟨h.At + s, h.At + s + h.New.length, gr h⟩ :: newR (s + gr h) r
def tch (a b : Range_commute) : Bool := decide (a.High ≥ b.Low) && decide (b.High ≥ a.Low)
def SmH (B : Int) (h : Hunk) : Prop := -B ≤ h.At ∧ h.At ≤ B ∧ h.Old.length ≤ 120 ∧ h.New.length ≤ 120
def Sm (B : Int) (l : List Hunk) : Prop := l.length ≤ 130 ∧ ∀ h ∈ l, SmH B h
theorem sm_of {p : Patch} (h : (Es p).Code = 0) : Sm 120 p.Hunks := by
  obtain ⟨h1, h2⟩ := (Nc p).1 h
  refine ⟨h1, fun x hx => ?_⟩
  obtain ⟨a1, a2, a3, a4, _⟩ := good_at h2 (by omega) x hx
  exact ⟨by omega, by omega, Ga a3, Ga a4⟩
theorem growth_f (h : Hunk) (h1 : h.Old.length ≤ 120) (h2 : h.New.length ≤ 120) : H2 h = some (gr h) := by
  unfold H2; rw [Ce (by omega) (by omega)]; rfl
theorem oldRanges_f {B : Int} (hB : B ≤ 20000) (p : Patch) (hp : Sm B p.Hunks) : Cm p = some (p.Hunks.map rng) := by
  obtain ⟨hl, hs⟩ := hp
  have key : ∀ (rest : List Hunk) (k : Nat) (out : List Range_commute), p.Hunks.drop k = rest → out.length = k → De (fun s => Cm.l1 p s.1 s.2) ((k : Int), out) = some (out ++ rest.map rng) := by
    intro rest
    induction rest with
    | nil =>
      intro k out hk _
      have := Hg hk
      refine Br ?_
      simp only
      unfold Cm.l1
      rw [Be, if_neg (by omega), List.map_nil, List.append_nil]
    | cons h r ih =>
      intro k out hk h3
      obtain ⟨hlt, hh, hr⟩ := Hs hk
      obtain ⟨b1, b2, b3, b4⟩ := hs h (hh ▸ List.getElem_mem hlt)
      have e0 : Cm.l1 p (k : Int) out = some (.next (((k + 1 : Nat) : Int), out ++ [rng h])) := by
        unfold Cm.l1
        rw [Be, if_pos (by omega), Cv hlt, Option.bind_some, hh, end_f h (by omega) (by omega) (by omega), Option.bind_some, growth_f h b3 b4, Option.bind_some,
          Er (by simp only [List.length_singleton]; omega), Option.bind_some, Ce (by omega) (by omega), Option.bind_some]
        rfl
      rw [B9 e0, ih (k + 1) _ hr (by simp; omega), List.map_cons, List.append_assoc]
      rfl
  unfold Cm
  rw [show (0 : Int) = ((0 : Nat) : Int) from rfl, key p.Hunks 0 [] rfl rfl, Option.bind_some]
  rfl
theorem clone_f (l : List ByteArray) (h : l.length ≤ 1000000) : Gd l = some l := by
  unfold Gd
  have e : ((app? 16 ([] : List ByteArray) l).bind fun y1 => some y1) = some l := by
    rw [Er (by simp only [List.length_nil]; omega)]; rfl
  rw [e, nilIf_same (fun h => by rw [h])]
theorem copy_f {B : Int} (p : Patch) (hp : Sm B p.Hunks) : Da p = some p := by
  obtain ⟨hl, hs⟩ := hp
  have key : ∀ (rest : List Hunk) (k : Nat) (out : List Hunk), p.Hunks.drop k = rest → out.length = k → De (fun s => Da.l1 p s.1 s.2) ((k : Int), out) = some (out ++ rest) := by
    intro rest
    induction rest with
    | nil =>
      intro k out hk _
      have := Hg hk
      refine Br ?_
      simp only
      unfold Da.l1
      rw [Be, if_neg (by omega), List.append_nil]
    | cons h r ih =>
      intro k out hk h3
      obtain ⟨hlt, hh, hr⟩ := Hs hk
      obtain ⟨b1, b2, b3, b4⟩ := hs h (hh ▸ List.getElem_mem hlt)
      have e0 : Da.l1 p (k : Int) out = some (.next (((k + 1 : Nat) : Int), out ++ [h])) := by
        unfold Da.l1
        rw [Be, if_pos (by omega), Cv hlt, Option.bind_some, hh, clone_f _ (by omega), Option.bind_some, clone_f _ (by omega), Option.bind_some,
          Er (by simp only [List.length_singleton]; omega), Option.bind_some, Ce (by omega) (by omega), Option.bind_some]
        rfl
      rw [B9 e0, ih (k + 1) _ hr (by simp; omega), List.append_assoc]
      rfl
  unfold Da
  rw [show (0 : Int) = ((0 : Nat) : Int) from rfl, key p.Hunks 0 [] rfl rfl, Option.bind_some]
  rfl
theorem fless {f : Fault} (h : f = ⟨0, 0⟩ ∨ f.Code ≠ 0) : (!(decide (f.Code = 0) && decide (f.Index = 0))) = decide (f.Code ≠ 0) := by
  rcases h with h | h
  · rw [h]; rfl
  · simp [h]
theorem patch_refl {B : Int} (p : Patch) (hp : Sm B p.Hunks) : B0 p p = some true := by
  obtain ⟨hl, hs⟩ := hp
  unfold B0
  rw [Kl, if_pos rfl]
  have key : ∀ (rest : List Hunk) (k : Nat), p.Hunks.drop k = rest → De (fun s => B0.l1 p p s) (k : Int) = some (.inr ()) := by
    intro rest
    induction rest with
    | nil =>
      intro k hk
      have := Hg hk
      refine Br ?_
      unfold B0.l1
      rw [Be, if_neg (by omega)]
    | cons h r ih =>
      intro k hk
      obtain ⟨hlt, hh, hr⟩ := Hs hk
      obtain ⟨b1, b2, b3, b4⟩ := hs h (hh ▸ List.getElem_mem hlt)
      have e0 : B0.l1 p p (k : Int) = some (.next ((k + 1 : Nat) : Int)) := by
        unfold B0.l1
        rw [Be, if_pos (by omega)]
        simp only [Cv hlt, Option.bind_some, hh, Qg h.Old h.Old (by omega), Qg h.New h.New (by omega), decide_true, Bool.not_true, Bool.false_eq_true, if_false]
        rw [Ce (by omega) (by omega)]; rfl
      rw [B9 e0, ih (k + 1) hr]
  rw [show (0 : Int) = ((0 : Nat) : Int) from rfl, key p.Hunks 0 rfl]
  rfl
structure Pc where
  k : Bool
  g : Int
  o : List ByteArray
  n : List ByteArray
def sel (t u : Bool) : Int → List Pc → List Hunk
  | _, [] => []
  | e, c :: r => if c.k = t then ⟨e + c.g, c.o, c.n⟩ :: sel t u (e + c.g + c.o.length) r else sel t u (e + c.g + (if u = true then (c.n.length : Int) else c.o.length)) r
theorem sel_s {t u : Bool} {c : Pc} {r : List Pc} {e : Int} (h : c.k = t) : sel t u e (c :: r) = ⟨e + c.g, c.o, c.n⟩ :: sel t u (e + c.g + c.o.length) r := by rw [sel, if_pos h]
theorem sel_o {t : Bool} {c : Pc} {r : List Pc} {e : Int} (h : ¬ c.k = t) : sel t false e (c :: r) = sel t false (e + c.g + c.o.length) r := by rw [sel, if_neg h, if_neg (by decide)]
theorem sel_n {t : Bool} {c : Pc} {r : List Pc} {e : Int} (h : ¬ c.k = t) : sel t true e (c :: r) = sel t true (e + c.g + c.n.length) r := by rw [sel, if_neg h, if_pos rfl]
def Val (m : List Pc) : Prop := ∀ c ∈ m, 1 ≤ c.g
theorem val_nil : Val [] := fun _ hc => by cases hc
def Srt : Int → List Hunk → Prop
  | _, [] => True
  | e, h :: r => e < h.At ∧ Srt (h.At + h.Old.length) r
def NoT (a b : List Range_commute) : Prop := ∀ x ∈ a, ∀ y ∈ b, tch x y = false
theorem lt_of_tch {a b : Range_commute} (h : tch a b = false) : a.High < b.Low ∨ b.High < a.Low := by
  unfold tch at h
  by_cases h1 : a.High ≥ b.Low
  · by_cases h2 : b.High ≥ a.Low
    · rw [decide_eq_true h1, decide_eq_true h2] at h; cases h
    · right; omega
  · left; omega
theorem pieces : ∀ (N : Nat) (pl ql : List Hunk) (e s : Int), pl.length + ql.length ≤ N → Srt e pl → Srt (e + s) ql → NoT (newR s pl) (ql.map rng) → ∃ m, Val m ∧ pl = sel true false e m ∧ ql = sel false true (e + s) m := by
  intro N
  induction N with
  | zero =>
    intro pl ql e s hN _ _ _
    have h1 : pl = [] := List.eq_nil_of_length_eq_zero (by omega)
    have h2 : ql = [] := List.eq_nil_of_length_eq_zero (by omega)
    exact ⟨[], val_nil, h1, h2⟩
  | succ N ih =>
    intro pl ql e s hN hp hq hno
    have takeP : ∀ (h : Hunk) (pr : List Hunk), pl = h :: pr → Srt (h.At + h.Old.length + (s + gr h)) ql → ∃ m, Val m ∧ pl = sel true false e m ∧ ql = sel false true (e + s) m := by
      intro h pr hpl hq'
      subst hpl
      obtain ⟨m, m1, m2, m3⟩ := ih pr ql (h.At + h.Old.length) (s + gr h) (by simp at hN; omega) hp.2 hq' (fun x hx y hy => hno x (by rw [newR]; exact List.mem_cons_of_mem _ hx) y hy)
      refine ⟨⟨true, h.At - e, h.Old, h.New⟩ :: m, ?_, ?_, ?_⟩
      · intro c hc
        rcases List.mem_cons.1 hc with rfl | hc
        · have := hp.1; simp only; omega
        · exact m1 c hc
      · rw [sel_s (c := ⟨true, h.At - e, h.Old, h.New⟩) rfl]
        simp only
        rw [show e + (h.At - e) = h.At by omega, ← m2]
      · rw [sel_n (by simp)]
        simp only
        rw [show e + s + (h.At - e) + (h.New.length : Int) = h.At + h.Old.length + (s + gr h) by unfold gr; omega]
        exact m3
    have takeQ : ∀ (h : Hunk) (qr : List Hunk), ql = h :: qr → Srt (h.At + h.Old.length - s) pl → ∃ m, Val m ∧ pl = sel true false e m ∧ ql = sel false true (e + s) m := by
      intro h qr hql hp'
      subst hql
      have hq2 := hq.2
      rw [show h.At + (h.Old.length : Int) = h.At + h.Old.length - s + s by omega] at hq2
      obtain ⟨m, m1, m2, m3⟩ := ih pl qr (h.At + h.Old.length - s) s (by simp at hN; omega) hp' hq2 (fun x hx y hy => hno x hx y (by rw [List.map_cons]; exact List.mem_cons_of_mem _ hy))
      refine ⟨⟨false, h.At - s - e, h.Old, h.New⟩ :: m, ?_, ?_, ?_⟩
      · intro c hc
        rcases List.mem_cons.1 hc with rfl | hc
        · have := hq.1; simp only; omega
        · exact m1 c hc
      · rw [sel_o (by simp)]
        simp only
        rw [show e + (h.At - s - e) + (h.Old.length : Int) = h.At + h.Old.length - s by omega]
        exact m2
      · rw [sel_s (c := ⟨false, h.At - s - e, h.Old, h.New⟩) rfl]
        simp only
        rw [show e + s + (h.At - s - e) = h.At by omega, show h.At + (h.Old.length : Int) = h.At + h.Old.length - s + s by omega, ← m3]
    match hpl : pl, hql : ql with
    | [], [] => exact ⟨[], val_nil, rfl, rfl⟩
    | h :: pr, [] => exact takeP h pr rfl trivial
    | [], h :: qr => exact takeQ h qr rfl trivial
    | h :: pr, y :: qr =>
      have ht := hno ⟨h.At + s, h.At + s + h.New.length, gr h⟩ (by rw [newR]; simp) (rng y) (by simp)
      rcases lt_of_tch ht with h1 | h1
      · refine takeP h pr rfl ⟨?_, hq.2⟩
        have h1' : h.At + s + h.New.length < y.At := h1
        unfold gr; omega
      · refine takeQ y qr rfl ⟨?_, hp.2⟩
        have h1' : y.At + y.Old.length < h.At + s := h1
        omega
def chF (c : TreeChange) : Int :=
  if c.Kind < 1 ∨ c.Kind > 4 then 4
  else if Em c.Path = false ∨ (c.Kind = 3 ∧ Em c.To = false) then 12
  else if (c.Kind ≠ 3 ∧ c.To ≠ ⟨#[]⟩) ∨ (c.Kind = 3 ∧ Kf c.Path c.To = true) ∨ (c.Lines ≠ [] ∧ (c.Kind = 4 ∨ c.Kind = 3)) ∨ (c.Kind = 4 ∧ c.Patch.Hunks = []) ∨ (c.Kind ≠ 4 ∧ c.Patch.Hunks ≠ []) then 5
  else if (Bp c.Lines).Code ≠ 0 then (Bp c.Lines).Code else (Es c.Patch).Code
theorem len_pos_dec {α : Type} (l : List α) : decide ((l.length : Int) > 0) = decide (l ≠ []) := decide_eq_decide.2 (by cases l <;> simp <;> omega)
theorem rel_ok {c : TreeChange} (h : ¬ (Em c.Path = false ∨ (c.Kind = 3 ∧ Em c.To = false))) (h3 : c.Kind = 3) : c.Path.size ≤ 1000000 ∧ c.To.size ≤ 1000000 := by
  have h1 : Em c.Path = true := by cases hh : Em c.Path with | true => rfl | false => exact absurd (Or.inl hh) h
  have h2 : Em c.To = true := by cases hh : Em c.To with | true => rfl | false => exact absurd (Or.inr ⟨h3, hh⟩) h
  have := G3 h1
  have := G3 h2
  omega
theorem check_f (c : TreeChange) : Kd c = some (chF c) := by
  unfold Kd chF
  simp only [ValidPath_f, orB, andB, Option.bind_some, len_pos_dec]
  by_cases h1 : c.Kind < 1 ∨ c.Kind > 4
  · rw [if_pos h1, if_pos (by simpa using h1)]
  · rw [if_neg h1, if_neg (by simpa using h1)]
    have e2 : (!Em c.Path || if decide (c.Kind = 3) = true then !Em c.To else false) = decide (Em c.Path = false ∨ (c.Kind = 3 ∧ Em c.To = false)) := by
      by_cases h3 : c.Kind = 3 <;> cases Em c.Path <;> cases Em c.To <;> simp [h3]
    have e2' : (if !Em c.Path = true then some true else (if decide (c.Kind = 3) = true then some (!Em c.To) else some false).bind fun x3 => some x3) = some (decide (Em c.Path = false ∨ (c.Kind = 3 ∧ Em c.To = false))) := by
      rw [← e2]
      by_cases h3 : c.Kind = 3 <;> cases Em c.Path <;> cases Em c.To <;> simp [h3]
    by_cases h2 : Em c.Path = false ∨ (c.Kind = 3 ∧ Em c.To = false)
    · rw [if_pos h2]
      rw [decide_eq_true h2] at e2'
      simp only [Option.bind_some, andB, orB] at e2' ⊢
      rw [show (!Em c.Path || (decide (c.Kind = 3) && !Em c.To)) = true from by simpa using e2']
      rfl
    · rw [if_neg h2]
      rw [decide_eq_false h2] at e2'
      simp only [Option.bind_some, andB, orB] at e2' ⊢
      rw [show (!Em c.Path || (decide (c.Kind = 3) && !Em c.To)) = false from by simpa using e2']
      rw [if_neg (by decide)]
      have e3 : (if decide (c.Kind = 3) = true then (Ej c.Path c.To).bind fun y3 => some y3 else some false) = some (decide (c.Kind = 3) && Kf c.Path c.To) := by
        by_cases h3 : c.Kind = 3
        · obtain ⟨a, b⟩ := rel_ok h2 h3
          rw [Related_f a b, decide_eq_true h3]; rfl
        · rw [decide_eq_false h3]; rfl
      rw [e3]
      simp only [Option.bind_some, orB]
      by_cases h5 : (c.Kind ≠ 3 ∧ c.To ≠ ⟨#[]⟩) ∨ (c.Kind = 3 ∧ Kf c.Path c.To = true) ∨ (c.Lines ≠ [] ∧ (c.Kind = 4 ∨ c.Kind = 3)) ∨ (c.Kind = 4 ∧ c.Patch.Hunks = []) ∨ (c.Kind ≠ 4 ∧ c.Patch.Hunks ≠ [])
      · rw [if_pos h5]
        by_cases g1 : ((!decide (c.Kind = 3) && !decide (c.To = ⟨#[]⟩)) || (decide (c.Kind = 3) && Kf c.Path c.To)) = true
        · rw [if_pos g1]
        · rw [if_neg g1]
          by_cases g2 : (decide (c.Lines ≠ []) && (decide (c.Kind = 4) || decide (c.Kind = 3))) = true
          · rw [if_pos g2]
          · rw [if_neg g2, if_pos]
            simp only [Bool.or_eq_true, Bool.and_eq_true, Bool.not_eq_true', decide_eq_true_eq, decide_eq_false_iff_not, ne_eq] at g1 g2 h5 ⊢
            by_cases k4 : c.Kind = 4 <;> by_cases kh : c.Patch.Hunks = [] <;> simp [k4, kh] at h5 g1 g2 ⊢
            all_goals first
              | omega
              | (rcases h5 with ⟨a, b⟩ | ⟨a, b⟩ | ⟨a, b⟩ <;> simp_all)
              | simp_all
      · rw [if_neg h5]
        rw [if_neg (by
          simp only [Bool.or_eq_true, Bool.and_eq_true, Bool.not_eq_true', decide_eq_true_eq, decide_eq_false_iff_not, ne_eq]
          intro h
          rcases h with h | h
          · exact h5 (Or.inl h)
          · exact h5 (Or.inr (Or.inl h)))]
        rw [if_neg (by
          simp only [Bool.or_eq_true, Bool.and_eq_true, decide_eq_true_eq]
          intro h
          exact h5 (Or.inr (Or.inr (Or.inl h))))]
        rw [if_neg (by
          simp only [Bool.not_eq_true', decide_eq_false_iff_not]
          intro h
          by_cases k4 : c.Kind = 4 <;> by_cases kh : c.Patch.Hunks = [] <;> simp [k4, kh] at h5 h)]
        rw [Mq, Option.bind_some, fless (H6 c.Lines), Be, pvalidate_f]
        split <;> rfl
structure OkCh (c : TreeChange) : Prop where
  kind : 1 ≤ c.Kind ∧ c.Kind ≤ 4
  path : Em c.Path = true
  to : c.Kind = 3 → Em c.To = true ∧ Kf c.Path c.To = false
  noTo : c.Kind ≠ 3 → c.To = ⟨#[]⟩
  noLines : c.Kind = 4 ∨ c.Kind = 3 → c.Lines = []
  hunks : c.Kind = 4 → c.Patch.Hunks ≠ []
  noHunks : c.Kind ≠ 4 → c.Patch.Hunks = []
  lines : (Bp c.Lines).Code = 0
  patch : (Es c.Patch).Code = 0
theorem chF_ok {c : TreeChange} : chF c = 0 ↔ OkCh c := by
  unfold chF
  constructor
  · intro h
    split at h
    · cases h
    · rename_i h1
      split at h
      · cases h
      · rename_i h2
        split at h
        · cases h
        · rename_i h3
          split at h
          · rename_i h4; exact absurd h h4
          · rename_i h4
            refine ⟨by omega, ?_, fun k => ⟨?_, ?_⟩, fun k => ?_, fun k => ?_, fun k e => ?_, fun k => ?_, by omega, h⟩
            · cases hh : Em c.Path with | true => rfl | false => exact absurd (Or.inl hh) h2
            · cases hh : Em c.To with | true => rfl | false => exact absurd (Or.inr ⟨k, hh⟩) h2
            · cases hh : Kf c.Path c.To with | false => rfl | true => exact absurd (Or.inr (Or.inl ⟨k, hh⟩)) h3
            · exact Decidable.by_contra fun e => h3 (Or.inl ⟨k, e⟩)
            · exact Decidable.by_contra fun e => h3 (Or.inr (Or.inr (Or.inl ⟨e, k⟩)))
            · exact h3 (Or.inr (Or.inr (Or.inr (Or.inl ⟨k, e⟩))))
            · exact Decidable.by_contra fun e => h3 (Or.inr (Or.inr (Or.inr (Or.inr ⟨k, e⟩))))
  · rintro ⟨a1, a2, a3, a4, a5, a6, a7, a8, a9⟩
    rw [if_neg (by omega), if_neg, if_neg, if_neg (by omega), a9]
    · rintro (⟨h, e⟩ | ⟨h, e⟩ | ⟨e, h⟩ | ⟨h, e⟩ | ⟨h, e⟩)
      · exact e (a4 h)
      · rw [(a3 h).2] at e; cases e
      · exact e (a5 h)
      · exact a6 h e
      · exact e (a7 h)
    · rintro (h | ⟨h, e⟩)
      · rw [a2] at h; cases h
      · rw [(a3 h).1] at e; cases e
def D7 (c : TreeChange) : List ByteArray := if c.Kind = 3 then [c.Path, c.To] else [c.Path]
def Ov (p : ByteArray) (c : TreeChange) : Bool := (D7 c).any fun q => Kf q p
def indB (a b : TreeChange) : Bool := !(D7 a).any fun p => Ov p b
theorem paths_f (c : TreeChange) : Gm c = some (D7 c) := by
  unfold Gm D7
  rw [Be]
  split <;> rfl
theorem OkCh.size {c : TreeChange} (h : OkCh c) : ∀ p ∈ D7 c, p.size ≤ 60 := by
  intro p hp
  unfold D7 at hp
  split at hp
  · rename_i k
    simp only [List.mem_cons, List.not_mem_nil, or_false] at hp
    rcases hp with rfl | rfl
    · exact G3 h.path
    · exact G3 (h.to k).1
  · simp only [List.mem_singleton] at hp
    subst hp
    exact G3 h.path
theorem any_drop {α : Type} (p : α → Bool) {l : List α} {k : Nat} (h : k < l.length) : (l.drop k).any p = (p l[k] || (l.drop (k + 1)).any p) := by
  rw [List.drop_eq_getElem_cons h, List.any_cons]
theorem paths_len (c : TreeChange) : (D7 c).length ≤ 2 := by unfold D7; split <;> simp
theorem touches_f {p : ByteArray} {c : TreeChange} (hp : p.size ≤ 1000000) (hc : ∀ q ∈ D7 c, q.size ≤ 60) : Ba p [c] = some (Ov p c) := by
  have hlen := paths_len c
  have key : ∀ (n k : Nat), k + n = (D7 c).length → (De (fun s => Ba.l2 p (D7 c) s) (k : Int) = some (.inr ()) ∧ ((D7 c).drop k).any (fun q => Kf q p) = false) ∨
      ∃ j : Nat, De (fun s => Ba.l2 p (D7 c) s) (k : Int) = some (.inl (j : Int)) ∧ ((D7 c).drop k).any (fun q => Kf q p) = true := by
    intro n
    induction n with
    | zero =>
      intro k hk
      left
      refine ⟨Br ?_, by rw [List.drop_of_length_le (by omega)]; rfl⟩
      unfold Ba.l2
      rw [Be, if_neg (by omega)]
    | succ n ih =>
      intro k hk
      have hlt : k < (D7 c).length := by omega
      have hq := hc _ (List.getElem_mem hlt)
      rw [any_drop _ hlt]
      have e : Ba.l2 p (D7 c) (k : Int) = if Kf (D7 c)[k] p = true then some (Step.done (Sum.inl (k : Int))) else some (Step.next ((k + 1 : Nat) : Int)) := by
        unfold Ba.l2
        rw [Be, if_pos (by omega), Cv hlt, Option.bind_some, Related_f (by omega) hp, Option.bind_some]
        split
        · rfl
        · rw [Ce (by omega) (by omega)]; rfl
      cases hb : Kf (D7 c)[k] p with
      | true =>
        rw [hb, if_pos rfl] at e
        exact Or.inr ⟨k, Br e, by rw [Bool.true_or]⟩
      | false =>
        rw [hb, if_neg (by decide)] at e
        rw [B9 e, Bool.false_or]
        exact ih (k + 1) (by omega)
  unfold Ba
  have e1 : Ba.l1 p [c] 0 = if Ov p c = true then some (Step.done (Sum.inl true)) else some (Step.next 1) := by
    unfold Ba.l1
    rw [if_pos (by simp), show at? [c] 0 = some c from rfl, Option.bind_some, paths_f, Option.bind_some]
    rcases key (D7 c).length 0 (by omega) with ⟨h1, h2⟩ | ⟨j, h1, h2⟩
    · rw [show (0 : Int) = ((0 : Nat) : Int) from rfl, h1, Option.bind_some]
      rw [List.drop_zero] at h2
      unfold Ov
      rw [h2, if_neg (by decide)]
      rfl
    · rw [show (0 : Int) = ((0 : Nat) : Int) from rfl, h1, Option.bind_some]
      rw [List.drop_zero] at h2
      unfold Ov
      rw [h2, if_pos rfl]
      simp only [Ba.j2]
      rw [Be, if_pos (by omega)]
  cases h : Ov p c with
  | true =>
    rw [h, if_pos rfl] at e1
    rw [Br e1]; rfl
  | false =>
    rw [h, if_neg (by decide)] at e1
    have e2 : Ba.l1 p [c] 1 = some (Step.done (Sum.inr ())) := by
      unfold Ba.l1
      rw [if_neg (by simp)]
    rw [B9 e1, Br e2]; rfl
theorem independent_f {a b : TreeChange} (ha : ∀ q ∈ D7 a, q.size ≤ 60) (hb : ∀ q ∈ D7 b, q.size ≤ 60) : Bh a b = some (indB a b) := by
  have hlen := paths_len a
  have key : ∀ (n k : Nat), k + n = (D7 a).length → (De (fun s => Bh.l1 b (D7 a) s) (k : Int) = some (.inr ()) ∧ ((D7 a).drop k).any (fun q => Ov q b) = false) ∨
      ∃ j : Nat, De (fun s => Bh.l1 b (D7 a) s) (k : Int) = some (.inl (j : Int)) ∧ ((D7 a).drop k).any (fun q => Ov q b) = true := by
    intro n
    induction n with
    | zero =>
      intro k hk
      left
      refine ⟨Br ?_, by rw [List.drop_of_length_le (by omega)]; rfl⟩
      unfold Bh.l1
      rw [Be, if_neg (by omega)]
    | succ n ih =>
      intro k hk
      have hlt : k < (D7 a).length := by omega
      have hq := ha _ (List.getElem_mem hlt)
      rw [any_drop _ hlt]
      have e : Bh.l1 b (D7 a) (k : Int) = if Ov (D7 a)[k] b = true then some (Step.done (Sum.inl (k : Int))) else some (Step.next ((k + 1 : Nat) : Int)) := by
        unfold Bh.l1
        rw [Be, if_pos (by omega), Cv hlt, Option.bind_some, touches_f (by omega) hb, Option.bind_some]
        split
        · rfl
        · rw [Ce (by omega) (by omega)]; rfl
      cases hx : Ov (D7 a)[k] b with
      | true =>
        rw [hx, if_pos rfl] at e
        exact Or.inr ⟨k, Br e, by rw [Bool.true_or]⟩
      | false =>
        rw [hx, if_neg (by decide)] at e
        rw [B9 e, Bool.false_or]
        exact ih (k + 1) (by omega)
  unfold Bh indB
  rw [paths_f, Option.bind_some]
  rcases key (D7 a).length 0 (by omega) with ⟨h1, h2⟩ | ⟨j, h1, h2⟩
  · rw [show (0 : Int) = ((0 : Nat) : Int) from rfl, h1, Option.bind_some]
    rw [List.drop_zero] at h2
    rw [h2]; rfl
  · rw [show (0 : Int) = ((0 : Nat) : Int) from rfl, h1, Option.bind_some]
    rw [List.drop_zero] at h2
    rw [h2]
    simp only [Bh.j1]
    rw [decide_eq_true (by omega)]
def edF (path : ByteArray) (p : Patch) : TreeChange := ⟨4, path, ByteArray.empty, [], p⟩
theorem vpatch1_f (c : TreeChange) : Bo ⟨[c]⟩ = some (if chF c ≠ 0 then ⟨chF c, 0⟩ else ⟨0, 0⟩) := by
  unfold Bo
  rw [if_neg (by simp)]
  have e1 : Bo.l1 ⟨[c]⟩ 0 = if chF c ≠ 0 then some (Step.done (Sum.inl ⟨chF c, 0⟩)) else some (Step.next 1) := by
    unfold Bo.l1
    rw [if_pos (by simp), show at? [c] 0 = some c from rfl, Option.bind_some, check_f, Option.bind_some, Kl]
    by_cases h : chF c = 0
    · rw [if_pos h, if_neg (by simpa using h)]; rfl
    · rw [if_neg h, if_pos h]
  by_cases h : chF c ≠ 0
  · rw [if_pos h] at e1
    rw [Br e1, if_pos h]; rfl
  · rw [if_neg h] at e1
    have e2 : Bo.l1 ⟨[c]⟩ 1 = some (Step.done (Sum.inr ())) := by
      unfold Bo.l1
      rw [if_neg (by simp)]
    rw [B9 e1, Br e2, if_neg h]; rfl
theorem secondPatch1_f (c : TreeChange) (i : Int) : E6 ⟨[c]⟩ i = some (if chF c ≠ 0 then ⟨chF c, i⟩ else ⟨0, 0⟩) := by
  unfold E6
  rw [vpatch1_f, Option.bind_some]
  by_cases h : chF c ≠ 0
  · rw [if_pos h, if_pos h, if_pos (by simp [h])]
  · rw [if_neg h, if_neg h, if_neg (by simp)]
theorem OkCh.sm {c : TreeChange} (h : OkCh c) : Sm 120 c.Patch.Hunks := sm_of h.patch
theorem OkCh.len {c : TreeChange} (h : OkCh c) : c.Lines.length ≤ 120 := Ga h.lines
theorem copyChange_f {c : TreeChange} {B : Int} (h1 : c.Lines.length ≤ 1000000) (h2 : Sm B c.Patch.Hunks) : Ex c = some c := by
  unfold Ex
  rw [clone_f _ h1, Option.bind_some, copy_f c.Patch h2, Option.bind_some]
theorem edit_f (p : ByteArray) (q : Patch) : E7 p q = some (edF p q) := rfl
theorem and3 {p q r : Prop} [Decidable p] [Decidable q] [Decidable r] : ((if decide p = true then some (decide q) else some false).bind fun x => if x = true then some (decide r) else some false) = some (decide (p ∧ q ∧ r)) := by
  by_cases h1 : p <;> by_cases h2 : q <;> by_cases h3 : r <;> simp [h1, h2, h3]
theorem and3K {p q r : Prop} [Decidable p] [Decidable q] [Decidable r] {β : Type} (K : Bool → Option β) : ((if decide p = true then some (decide q) else some false).bind fun x => (if x = true then some (decide r) else some false).bind K) = K (decide (p ∧ q ∧ r)) := by
  rw [← Option.bind_assoc, and3, Option.bind_some]
theorem change_refl {c : TreeChange} {B : Int} (h1 : c.Lines.length ≤ 1000000) (h2 : Sm B c.Patch.Hunks) : Dq c c = some true := by
  unfold Dq
  rw [Qg _ _ h1, patch_refl _ h2]
  simp
theorem refl_ok {c : TreeChange} (h : OkCh c) : Dq c c = some true := change_refl (by have := h.len; omega) h.sm
abbrev exR : TreeChange := ⟨3, ⟨#[98]⟩, ⟨#[97]⟩, [], ⟨[]⟩⟩
abbrev exE : TreeChange := ⟨4, ⟨#[97]⟩, ByteArray.empty, [], ⟨[⟨0, [], [⟨#[120]⟩]⟩]⟩⟩
theorem exR_ok : chF exR = 0 := by decide +kernel
theorem exE_ok : chF exE = 0 := by decide +kernel
theorem path_mem (c : TreeChange) : c.Path ∈ D7 c := by unfold D7; split <;> simp
theorem to_mem {c : TreeChange} (k : c.Kind = 3) : c.To ∈ D7 c := by unfold D7; rw [if_pos k]; simp
def Lines (t : List ByteArray) : Prop := ∀ s ∈ t, Nd s
theorem lines_of {t : List ByteArray} (h : (Bp t).Code = 0) : Lines t := ((E5 t).2 ((Dm t).2 h)).2
theorem rawS_lines : ∀ (hs : List Hunk) (t : List ByteArray) (b : Nat), Lines t → (∀ h ∈ hs, Lines h.New) → Lines (rawS hs t b)
  | [], t, b, ht, _ => fun s hs => ht s (List.mem_of_mem_drop hs)
  | h :: r, t, b, ht, hn => by
    intro s hs
    rw [rawS] at hs
    rcases List.mem_append.1 hs with hs | hs
    · exact ht s (List.mem_of_mem_drop (List.mem_of_mem_take hs))
    · rcases List.mem_append.1 hs with hs | hs
      · exact hn h (by simp) s hs
      · exact rawS_lines r t _ ht (fun x hx => hn x (List.mem_cons_of_mem _ hx)) s hs
theorem both_f (a b : List ByteArray) : Ho a b = some (if (Bp a).Code ≠ 0 then Bp a else if (Bp b).Code = 0 then ⟨0, 0⟩ else ⟨(Bp b).Code, -2⟩) := by
  unfold Ho
  rw [Mq, Option.bind_some]
  rcases H6 a with h | h
  · rw [h, second_f]; rfl
  · rw [if_pos (Lb.2 fun h2 => h h2.1), if_pos h]
abbrev Cst := List Hunk × Int × Bool
def Mb (hs : List Hunk) (f : Hunk → Hunk) : List Hunk := match hs.getLast? with
  | some h => hs.dropLast ++ [f h]
  | Option.none => hs
def Ld (s : Cst) : Cst := (s.1, s.2.1 + 1, false)
def G1 (s : Cst) : List Hunk := if s.2.2 then s.1 else s.1 ++ [⟨s.2.1, [], []⟩]
def Mi (x : ByteArray) (s : Cst) : Cst := (Mb (G1 s) fun h => { h with Old := h.Old ++ [x] }, s.2.1 + 1, true)
def Mt (y : ByteArray) (s : Cst) : Cst := (Mb (G1 s) fun h => { h with New := h.New ++ [y] }, s.2.1, true)
def scr : List ByteArray → List ByteArray → Cst → Cst
  | [], [], s => s
  | [], y :: b, s => scr [] b (Mt y s)
  | x :: a, [], s => scr a [] (Mi x s)
  | x :: a, y :: b, s => if x = y then scr a b (Ld s) else if lcs a (y :: b) ≥ lcs (x :: a) b then scr a (y :: b) (Mi x s) else scr (x :: a) b (Mt y s)
 termination_by a b => a.length + b.length
theorem set_last_eq {hs : List Hunk} {h : Hunk} (hl : hs.getLast? = some h) (f : Hunk → Hunk) : ∃ hlt : hs.length - 1 < hs.length, hs[hs.length - 1] = h ∧ hs.set (hs.length - 1) (f h) = Mb hs f := by
  have hne : hs ≠ [] := by intro e; subst e; cases hl
  have hlt : hs.length - 1 < hs.length := by have := List.length_pos_iff.2 hne; omega
  have hgl : hs[hs.length - 1] = h := by
    rw [List.getLast?_eq_some_getLast hne] at hl
    simp only [Option.some.injEq] at hl
    rw [← hl, List.getLast_eq_getElem]
  refine ⟨hlt, hgl, ?_⟩
  unfold Mb
  rw [hl]
  simp only
  rw [List.set_eq_take_append_cons_drop, if_pos hlt, List.dropLast_eq_take]
  have : hs.drop (hs.length - 1 + 1) = [] := List.drop_eq_nil_of_le (by omega)
  rw [this]
theorem cOpen_last (s : Cst) (h : s.2.2 = true → s.1 ≠ []) : ∃ q, (G1 s).getLast? = some q := by
  unfold G1
  cases hb : s.2.2 with
  | true => rw [if_pos rfl]; exact ⟨_, List.getLast?_eq_some_getLast (h hb)⟩
  | false => rw [if_neg (by decide)]; exact ⟨⟨s.2.1, [], []⟩, by simp⟩
theorem setLast_len (hs : List Hunk) (f : Hunk → Hunk) : (Mb hs f).length = hs.length := by
  unfold Mb
  cases h : hs.getLast? with
  | none => rfl
  | some q =>
    have hne : hs ≠ [] := by intro e; subst e; cases h
    have := List.length_pos_iff.2 hne
    simp; omega
theorem setLast_ne {hs : List Hunk} {f : Hunk → Hunk} (h : hs ≠ []) : Mb hs f ≠ [] := by
  intro e
  have := setLast_len hs f
  rw [e] at this
  exact h (List.eq_nil_of_length_eq_zero this.symm)
theorem cOpen_ne (s : Cst) (h : s.2.2 = true → s.1 ≠ []) : G1 s ≠ [] := by
  obtain ⟨q, hq⟩ := cOpen_last s h
  intro e; rw [e] at hq; cases hq
structure CInv (s : Cst) (k : Nat) : Prop where
  open_ : s.2.2 = true → s.1 ≠ []
  len : s.1.length ≤ k
  at0 : 0 ≤ s.2.1
  at1 : s.2.1 ≤ k
  each : ∀ h ∈ s.1, h.Old.length ≤ k ∧ h.New.length ≤ k
theorem mem_setLast {hs : List Hunk} {f : Hunk → Hunk} {h : Hunk} (hm : h ∈ Mb hs f) : h ∈ hs ∨ ∃ q ∈ hs, h = f q := by
  unfold Mb at hm
  cases hl : hs.getLast? with
  | none => rw [hl] at hm; exact .inl hm
  | some q =>
    rw [hl] at hm
    simp only [List.mem_append, List.mem_singleton] at hm
    rcases hm with hm | hm
    · exact .inl ((List.dropLast_sublist hs).subset hm)
    · exact .inr ⟨q, List.mem_of_getLast? hl, hm⟩
theorem Nw {s : Cst} {h : Hunk} (hm : h ∈ G1 s) : h ∈ s.1 ∨ (h.Old = [] ∧ h.New = []) := by
  unfold G1 at hm
  split at hm
  · exact .inl hm
  · rcases List.mem_append.1 hm with hm | hm
    · exact .inl hm
    · simp at hm; subst hm; exact .inr ⟨rfl, rfl⟩
theorem cOpen_len (s : Cst) : (G1 s).length ≤ s.1.length + 1 := by unfold G1; split <;> simp
theorem CInv.keep {s : Cst} {k : Nat} (h : CInv s k) : CInv (Ld s) (k + 1) := ⟨fun e => by simp [Ld] at e, by have := h.len; simp only [Ld]; omega, by have := h.at0; simp only [Ld]; omega, by have := h.at1; simp only [Ld]; omega, fun q hq => by have := h.each q hq; omega⟩
theorem CInv.del {s : Cst} {k : Nat} (h : CInv s k) (x : ByteArray) : CInv (Mi x s) (k + 1) := by
  refine ⟨fun _ => setLast_ne (cOpen_ne s h.open_), ?_, by have := h.at0; simp only [Mi]; omega, by have := h.at1; simp only [Mi]; omega, fun q hq => ?_⟩
  · have := h.len; have := cOpen_len s; simp only [Mi, setLast_len]; omega
  · simp only [Mi] at hq
    rcases mem_setLast hq with hq | ⟨p, hp, rfl⟩
    · rcases Nw hq with hq | ⟨h1, h2⟩
      · have := h.each q hq; omega
      · simp [h1, h2]
    · rcases Nw hp with hq | ⟨h1, h2⟩
      · have := h.each p hq; simp; omega
      · simp [h1, h2]
theorem CInv.ins {s : Cst} {k : Nat} (h : CInv s k) (x : ByteArray) : CInv (Mt x s) (k + 1) := by
  refine ⟨fun _ => setLast_ne (cOpen_ne s h.open_), ?_, h.at0, by have := h.at1; simp only [Mt]; omega, fun q hq => ?_⟩
  · have := h.len; have := cOpen_len s; simp only [Mt, setLast_len]; omega
  · simp only [Mt] at hq
    rcases mem_setLast hq with hq | ⟨p, hp, rfl⟩
    · rcases Nw hq with hq | ⟨h1, h2⟩
      · have := h.each q hq; omega
      · simp [h1, h2]
    · rcases Nw hp with hq | ⟨h1, h2⟩
      · have := h.each p hq; simp; omega
      · simp [h1, h2]
theorem coll_keep {s : Cst} {k : Nat} (h : CInv s k) (hk : k ≤ 1000000) : Gk ⟨s.1, s.2.1, s.2.2⟩ 1 = some ⟨(Ld s).1, (Ld s).2.1, (Ld s).2.2⟩ := by
  have hat0 := h.at0
  have hat1 := h.at1
  unfold Gk
  rw [if_pos (by decide), Ce (x := s.2.1 + 1) (by omega) (by omega), Option.bind_some]; rfl
theorem coll_del {s : Cst} {k : Nat} (h : CInv s k) (hk : k ≤ 1000000) (x : ByteArray) : C2 ⟨s.1, s.2.1, s.2.2⟩ x = some ⟨(Mi x s).1, (Mi x s).2.1, (Mi x s).2.2⟩ := by
  obtain ⟨q, hq⟩ := cOpen_last s h.open_
  have hlen := h.len
  have hat0 := h.at0
  have hat1 := h.at1
  have j4e : C2.j1 ⟨s.1, s.2.1, s.2.2⟩ x (G1 s) true = some ⟨(Mi x s).1, (Mi x s).2.1, (Mi x s).2.2⟩ := by
    obtain ⟨h1, h2, h3⟩ := set_last_eq hq fun h => { h with Old := h.Old ++ [x] }
    have hol := cOpen_len s
    have hqm : q.Old.length ≤ k := by
      rcases Nw (List.mem_of_getLast? hq) with hq | ⟨h1, _⟩
      · exact (h.each q hq).1
      · simp [h1]
    unfold C2.j1
    have ez : ((G1 s).length : Int) - 1 = (((G1 s).length - 1 : Nat) : Int) := by omega
    rw [Ce (by omega) (by omega), Option.bind_some, ez, Cv h1, Option.bind_some, h2, Er (by simp only [List.length_singleton]; omega), Option.bind_some, Ce (by show -9223372036854775808 ≤ s.2.1 + 1; omega) (by show s.2.1 + 1 ≤ 9223372036854775807; omega), Option.bind_some, Option.bind_some]
    rw [Int.toNat_natCast]
    have : (G1 s).set ((G1 s).length - 1) ({ At := q.At, Old := q.Old ++ [x], New := q.New } : Hunk) = (Mi x s).1 := h3
    rw [this]
    rfl
  unfold C2
  simp only
  cases hb : s.2.2 with
  | true =>
    have : G1 s = s.1 := by unfold G1; rw [hb, if_pos rfl]
    rw [hb, this] at j4e
    rw [if_neg (by decide)]; exact j4e
  | false =>
    have : G1 s = s.1 ++ [⟨s.2.1, [], []⟩] := by unfold G1; rw [hb, if_neg (by decide)]
    rw [hb] at j4e
    rw [if_pos (by decide), Er (by simp only [List.length_singleton]; omega), Option.bind_some, ← this]; exact j4e
theorem coll_ins {s : Cst} {k : Nat} (h : CInv s k) (hk : k ≤ 1000000) (x : ByteArray) : C3 ⟨s.1, s.2.1, s.2.2⟩ x = some ⟨(Mt x s).1, (Mt x s).2.1, (Mt x s).2.2⟩ := by
  obtain ⟨q, hq⟩ := cOpen_last s h.open_
  have hlen := h.len
  have hat0 := h.at0
  have hat1 := h.at1
  have j4e : C3.j1 ⟨s.1, s.2.1, s.2.2⟩ x (G1 s) true = some ⟨(Mt x s).1, (Mt x s).2.1, (Mt x s).2.2⟩ := by
    obtain ⟨h1, h2, h3⟩ := set_last_eq hq fun h => { h with New := h.New ++ [x] }
    have hol := cOpen_len s
    have hqm : q.New.length ≤ k := by
      rcases Nw (List.mem_of_getLast? hq) with hq | ⟨_, h1⟩
      · exact (h.each q hq).2
      · simp [h1]
    unfold C3.j1
    have ez : ((G1 s).length : Int) - 1 = (((G1 s).length - 1 : Nat) : Int) := by omega
    rw [Ce (by omega) (by omega), Option.bind_some, ez, Cv h1, Option.bind_some, h2, Er (by simp only [List.length_singleton]; omega), Option.bind_some, Option.bind_some]
    rw [Int.toNat_natCast]
    have : (G1 s).set ((G1 s).length - 1) ({ At := q.At, Old := q.Old, New := q.New ++ [x] } : Hunk) = (Mt x s).1 := h3
    rw [this]
    rfl
  unfold C3
  simp only
  cases hb : s.2.2 with
  | true =>
    have : G1 s = s.1 := by unfold G1; rw [hb, if_pos rfl]
    rw [hb, this] at j4e
    rw [if_neg (by decide)]; exact j4e
  | false =>
    have : G1 s = s.1 ++ [⟨s.2.1, [], []⟩] := by unfold G1; rw [hb, if_neg (by decide)]
    rw [hb] at j4e
    rw [if_pos (by decide), Er (by simp only [List.length_singleton]; omega), Option.bind_some, ← this]; exact j4e
section
variable {a b : List ByteArray}
theorem scr_loop (hab : a.length + b.length ≤ 1000) : ∀ (n i j k : Nat) (s : Cst), i ≤ a.length → j ≤ b.length → (a.length - i) + (b.length - j) = n → k ≤ i + j → (Ek a b).drop k = Ek (a.drop i) (b.drop j) → CInv s (i + j) →
    De (fun s => Cn.l1 a b (Ek a b) s.1 s.2.1 s.2.2.1 s.2.2.2.1 s.2.2.2.2.1 s.2.2.2.2.2) ((k : Int), (j : Int), (i : Int), s.1, s.2.1, s.2.2) = some (scr (a.drop i) (b.drop j) s) := by
  intro n
  induction n using Nat.strongRecOn with
  | _ n ih =>
  intro i j k s hi hj hn hk hal hs
  have j2e : ∀ (p q : Int) (t : Cst), Cn.j2 (k : Int) q p t.1 t.2.1 t.2.2 = some (.next (((k + 1 : Nat) : Int), q, p, t.1, t.2.1, t.2.2)) := by
    intro p q t
    unfold Cn.j2
    rw [Ce (by omega) (by omega), Option.bind_some]; rfl
  have ed : ∀ (x : ByteArray) (r : List Int), (Ek a b).drop k = 1 :: r → (hx : ∃ h : i < a.length, a[i] = x) →
      Cn.l1 a b (Ek a b) (k : Int) (j : Int) (i : Int) s.1 s.2.1 s.2.2 = some (.next (((k + 1 : Nat) : Int), (j : Int), ((i + 1 : Nat) : Int), (Mi x s).1, (Mi x s).2.1, (Mi x s).2.2)) ∧ (Ek a b).drop (k + 1) = r := by
    intro x r hr ⟨hx, hxe⟩
    obtain ⟨hlt, hk1, hr1⟩ := Hs hr
    refine ⟨?_, hr1⟩
    unfold Cn.l1
    rw [Be, if_pos (by omega), Cv hlt, Option.bind_some, hk1, Be, if_neg (by decide), Be, if_pos rfl, Cv hx, Option.bind_some, hxe, coll_del hs (by omega) x, Option.bind_some, Ce (by omega) (by omega), Option.bind_some, j2e]
    rfl
  have ei : ∀ (x : ByteArray) (r : List Int), (Ek a b).drop k = 2 :: r → (hx : ∃ h : j < b.length, b[j] = x) →
      Cn.l1 a b (Ek a b) (k : Int) (j : Int) (i : Int) s.1 s.2.1 s.2.2 = some (.next (((k + 1 : Nat) : Int), ((j + 1 : Nat) : Int), (i : Int), (Mt x s).1, (Mt x s).2.1, (Mt x s).2.2)) ∧ (Ek a b).drop (k + 1) = r := by
    intro x r hr ⟨hx, hxe⟩
    obtain ⟨hlt, hk1, hr1⟩ := Hs hr
    refine ⟨?_, hr1⟩
    unfold Cn.l1
    rw [Be, if_pos (by omega), Cv hlt, Option.bind_some, hk1, Be, if_neg (by decide), Be, if_neg (by decide), Cv hx, Option.bind_some, hxe, coll_ins hs (by omega) x, Option.bind_some, Ce (by omega) (by omega), Option.bind_some, j2e]
    rfl
  have ek : ∀ (r : List Int), (Ek a b).drop k = 0 :: r →
      Cn.l1 a b (Ek a b) (k : Int) (j : Int) (i : Int) s.1 s.2.1 s.2.2 = some (.next (((k + 1 : Nat) : Int), ((j + 1 : Nat) : Int), ((i + 1 : Nat) : Int), (Ld s).1, (Ld s).2.1, (Ld s).2.2)) ∧ (Ek a b).drop (k + 1) = r := by
    intro r hr
    obtain ⟨hlt, hk1, hr1⟩ := Hs hr
    refine ⟨?_, hr1⟩
    have h0 := hs.at0
    have h1 := hs.at1
    unfold Cn.l1
    rw [Be, if_pos (by omega), Cv hlt, Option.bind_some, hk1, Be, if_pos rfl, coll_keep hs (by omega), Option.bind_some, Ce (by omega) (by omega), Option.bind_some, Ce (by omega) (by omega), Option.bind_some]
    exact j2e _ _ (Ld s)
  by_cases hia : i < a.length
  · have hda := H0 hia
    by_cases hjb : j < b.length
    · have hdb := H0 hjb
      have hal' := hal
      rw [hda, hdb, Ek, ← hda, ← hdb] at hal'
      have hsc : scr (a.drop i) (b.drop j) s = if a[i] = b[j] then scr (a.drop (i + 1)) (b.drop (j + 1)) (Ld s) else if lcs (a.drop (i + 1)) (b.drop j) ≥ lcs (a.drop i) (b.drop (j + 1)) then scr (a.drop (i + 1)) (b.drop j) (Mi a[i] s) else scr (a.drop i) (b.drop (j + 1)) (Mt b[j] s) := by
        conv => lhs; rw [hda, hdb, scr]
        rw [← hda, ← hdb]
      rw [hsc]
      by_cases heq : a[i] = b[j]
      · rw [if_pos heq] at hal' ⊢
        obtain ⟨e1, e2⟩ := ek _ hal'
        rw [B9 e1]
        exact ih _ (by omega) (i + 1) (j + 1) (k + 1) (Ld s) (by omega) (by omega) rfl (by omega) e2 ⟨hs.keep.open_, by have := hs.keep.len; omega, hs.keep.at0, by have := hs.keep.at1; omega, fun q hq => by have := hs.keep.each q hq; omega⟩
      · rw [if_neg heq] at hal' ⊢
        by_cases hge : lcs (a.drop (i + 1)) (b.drop j) ≥ lcs (a.drop i) (b.drop (j + 1))
        · rw [if_pos hge] at hal' ⊢
          obtain ⟨e1, e2⟩ := ed _ _ hal' ⟨hia, rfl⟩
          rw [B9 e1]
          exact ih _ (by omega) (i + 1) j (k + 1) (Mi a[i] s) (by omega) (by omega) rfl (by omega) e2 (by have := hs.del a[i]; rwa [show i + j + 1 = i + 1 + j by omega] at this)
        · rw [if_neg hge] at hal' ⊢
          obtain ⟨e1, e2⟩ := ei _ _ hal' ⟨hjb, rfl⟩
          rw [B9 e1]
          exact ih _ (by omega) i (j + 1) (k + 1) (Mt b[j] s) (by omega) (by omega) rfl (by omega) e2 (hs.ins b[j])
    · have hj' : j = b.length := by omega
      subst hj'
      have hal' := hal
      rw [hda, List.drop_length, Ek] at hal'
      obtain ⟨e1, e2⟩ := ed _ _ hal' ⟨hia, rfl⟩
      have hsc : scr (a.drop i) (b.drop b.length) s = scr (a.drop (i + 1)) (b.drop b.length) (Mi a[i] s) := by
        rw [hda, List.drop_length, scr]
      rw [B9 e1, hsc]
      exact ih _ (by omega) (i + 1) b.length (k + 1) (Mi a[i] s) (by omega) (by omega) rfl (by omega) (by rw [e2, List.drop_length]) (by have := hs.del a[i]; rwa [show i + b.length + 1 = i + 1 + b.length by omega] at this)
  · have hi' : i = a.length := by omega
    subst hi'
    by_cases hjb : j < b.length
    · have hdb := H0 hjb
      have hal' := hal
      rw [hdb, List.drop_length, Ek] at hal'
      obtain ⟨e1, e2⟩ := ei _ _ hal' ⟨hjb, rfl⟩
      have hsc : scr (a.drop a.length) (b.drop j) s = scr (a.drop a.length) (b.drop (j + 1)) (Mt b[j] s) := by
        rw [hdb, List.drop_length, scr]
      rw [B9 e1, hsc]
      exact ih _ (by omega) a.length (j + 1) (k + 1) (Mt b[j] s) (by omega) (by omega) rfl (by omega) (by rw [e2, List.drop_length]) (hs.ins b[j])
    · have hj' : j = b.length := by omega
      subst hj'
      rw [List.drop_length, List.drop_length, Ek] at hal
      have := Hg hal
      rw [List.drop_length, List.drop_length, scr]
      refine Br ?_
      unfold Cn.l1
      rw [Be, if_neg (by omega)]
end
def H7 (a b : List ByteArray) : List Hunk := (scr a b ([], 0, false)).1
theorem script_f (a b : List ByteArray) : Cn a b = some (if (Bp a).Code ≠ 0 then (⟨[]⟩, Bp a) else if (Bp b).Code ≠ 0 then (⟨[]⟩, ⟨(Bp b).Code, -2⟩) else (⟨H7 a b⟩, ⟨0, 0⟩)) := by
  unfold Cn
  rw [both_f, Option.bind_some]
  by_cases ha : (Bp a).Code = 0
  · by_cases hb : (Bp b).Code = 0
    · simp only [ha, hb, ne_eq, not_true, if_false, if_true]
      have oa := (E5 a).2 ((Dm a).2 ha)
      have ob := (E5 b).2 ((Dm b).2 hb)
      have h1 := oa.1
      have h2 := ob.1
      rw [if_neg (by simp), align_eq (okText_small oa ob), Option.bind_some]
      have := scr_loop (a := a) (b := b) (by omega) _ 0 0 0 ([], 0, false) (Nat.zero_le _) (Nat.zero_le _) rfl (Nat.zero_le _) (by simp) ⟨fun h => (by cases h), by simp, by simp, by simp, fun q hq => (by cases hq)⟩
      simp only [List.drop_zero] at this
      rw [show (0 : Int) = ((0 : Nat) : Int) from rfl, show ((([] : List Hunk), ((0 : Nat) : Int), false) : Cst) = ([], 0, false) from rfl, this, Option.bind_some]
      rfl
    · simp only [ha, hb, ne_eq, not_true, not_false_iff, if_false, if_true]
      rw [if_pos (by simp)]
  · simp only [ha, ne_eq, not_false_iff, if_true]
    rw [if_pos (by simp)]
def endS : List Hunk → Nat → Nat
  | [], low => low
  | h :: r, _ => endS r (h.At.toNat + h.Old.length)
def preS : List Hunk → List ByteArray → Nat → List ByteArray
  | [], _, _ => []
  | h :: r, t, low => (t.drop low).take (h.At.toNat - low) ++ (h.New ++ preS r t (h.At.toNat + h.Old.length))
theorem G0 : ∀ (hs : List Hunk) (h : Hunk) (low : Nat), endS (hs ++ [h]) low = h.At.toNat + h.Old.length
  | [], h, low => rfl
  | x :: r, h, low => by rw [List.cons_append, endS, G0 r h _]
theorem Mn : ∀ (hs : List Hunk) (h : Hunk) (t : List ByteArray) (low : Nat), preS (hs ++ [h]) t low = preS hs t low ++ ((t.drop (endS hs low)).take (h.At.toNat - endS hs low) ++ h.New)
  | [], h, t, low => by simp [preS, endS]
  | x :: r, h, t, low => by rw [List.cons_append, preS, preS, endS, Mn r h t _]; simp
def Chn : Int → List Hunk → Prop
  | _, [] => True
  | e, h :: r => e < h.At ∧ Chn (h.At + h.Old.length) r
theorem N5 : ∀ (l : List Hunk) (h : Hunk) (e : Int), Chn e (l ++ [h]) ↔ Chn e l ∧ (l = [] → e < h.At) ∧ (∀ p q, l = p ++ [q] → q.At + q.Old.length < h.At)
  | [], h, e => by simp [Chn]
  | x :: r, h, e => by
    rw [List.cons_append, Chn, Chn, N5 r h _]
    constructor
    · rintro ⟨h1, h2, h3, h4⟩
      refine ⟨⟨h1, h2⟩, by simp, fun p q e => ?_⟩
      cases p with
      | nil => simp at e; obtain ⟨rfl, rfl⟩ := e; exact h3 rfl
      | cons y p => simp at e; exact h4 p q e.2
    · rintro ⟨⟨h1, h2⟩, h3, h4⟩
      refine ⟨h1, h2, fun e => ?_, fun p q e => h4 (x :: p) q (by rw [e]; rfl)⟩
      subst e; exact h4 [] x rfl
def HkOk (a b : List ByteArray) (h : Hunk) : Prop := ∃ p q : Nat, h.At = p ∧ p + h.Old.length ≤ a.length ∧ h.Old = (a.drop p).take h.Old.length ∧ q + h.New.length ≤ b.length ∧ h.New = (b.drop q).take h.New.length ∧ 0 < h.Old.length + h.New.length
structure ScI (a b : List ByteArray) (s : Cst) (i j : Nat) : Prop where
  pos : s.2.1 = i
  low : endS s.1 0 ≤ i
  txt : preS s.1 a 0 ++ (a.drop (endS s.1 0)).take (i - endS s.1 0) = b.take j
  opn : s.2.2 = true → ∃ hs h q, s.1 = hs ++ [h] ∧ h.At.toNat + h.Old.length = i ∧ q + h.New.length = j ∧ h.New = (b.drop q).take h.New.length
  cls : s.2.2 = false → s.1 = [] ∨ endS s.1 0 < i
  chn : Chn (-1) s.1
  each : ∀ h ∈ s.1, HkOk a b h
theorem Nx {α : Type} {l : List α} {k : Nat} (h : k < l.length) : l.take (k + 1) = l.take k ++ [l[k]] := by
  rw [List.take_add_one, List.getElem?_eq_getElem h]; rfl
theorem Nm (hs : List Hunk) (h : Hunk) (f : Hunk → Hunk) : Mb (hs ++ [h]) f = hs ++ [f h] := by
  unfold Mb; simp
theorem ScI.keep {a b : List ByteArray} {s : Cst} {i j : Nat} (h : ScI a b s i j) (hi : i < a.length) (hj : j < b.length) (e : a[i] = b[j]) : ScI a b (Ld s) (i + 1) (j + 1) := by
  have hl := h.low
  refine ⟨by simp only [Ld, h.pos]; omega, by simp only [Ld]; omega, ?_, fun h => by simp [Ld] at h, fun _ => .inr (by simp only [Ld]; omega), h.chn, h.each⟩
  simp only [Ld]
  rw [Nx hj, ← h.txt, show i + 1 - endS s.1 0 = (i - endS s.1 0) + 1 by omega, Nx (by simp; omega), ← e, List.append_assoc]
  congr 3
  rw [List.getElem_drop]
  congr 1; omega
theorem HkOk.old {a b : List ByteArray} {h : Hunk} (hh : HkOk a b h) (hi : h.At.toNat + h.Old.length < a.length) : HkOk a b { h with Old := h.Old ++ [a[h.At.toNat + h.Old.length]] } := by
  obtain ⟨p, q, h1, h2, h3, h4, h5, h6⟩ := hh
  have hp : h.At.toNat = p := by omega
  refine ⟨p, q, h1, by simp; omega, ?_, h4, h5, by simp; omega⟩
  simp only [List.length_append, List.length_singleton]
  rw [Nx (by simp; omega), ← h3]
  congr 2
  rw [List.getElem_drop]
  simp only [hp]
theorem HkOk.new {a b : List ByteArray} {h : Hunk} (hh : HkOk a b h) {q : Nat} (hq : h.New = (b.drop q).take h.New.length) (hi : q + h.New.length < b.length) : HkOk a b { h with New := h.New ++ [b[q + h.New.length]] } ∧ h.New ++ [b[q + h.New.length]] = (b.drop q).take (h.New.length + 1) := by
  obtain ⟨p, _, h1, h2, h3, h4, h5, h6⟩ := hh
  have e : h.New ++ [b[q + h.New.length]] = (b.drop q).take (h.New.length + 1) := by
    rw [Nx (by simp; omega), ← hq]
    congr 2
    rw [List.getElem_drop]
  refine ⟨⟨p, q, h1, h2, h3, by simp; omega, ?_, by simp; omega⟩, e⟩
  simp only [List.length_append, List.length_singleton]
  exact e
theorem ScI.del {a b : List ByteArray} {s : Cst} {i j : Nat} (h : ScI a b s i j) (hi : i < a.length) (hj : j ≤ b.length) : ScI a b (Mi a[i] s) (i + 1) j := by
  have hl := h.low
  have ht := h.txt
  have hc := h.chn
  have he := h.each
  have hp := h.pos
  obtain ⟨hs0, at0, op⟩ := s
  simp only at hl ht hc he hp
  cases op with
  | true =>
    obtain ⟨hs, k, q, e1, e2, e3, e4⟩ := h.opn rfl
    simp only at e1
    subst e1
    have hcd : Mi a[i] (hs ++ [k], at0, true) = (hs ++ [{ k with Old := k.Old ++ [a[i]] }], at0 + 1, true) := by
      unfold Mi G1
      simp only [if_true, Nm]
    rw [hcd]
    rw [G0, e2, Nat.sub_self, List.take_zero, List.append_nil, Mn] at ht
    have hk := HkOk.old (he k (by simp)) (by omega)
    have hx : a[k.At.toNat + k.Old.length]'(by omega) = a[i] := by congr 1
    rw [hx] at hk
    rw [N5] at hc
    refine ⟨by simp only; omega, by simp only [G0, List.length_append, List.length_singleton]; omega, ?_, fun _ => ⟨hs, _, q, rfl, by simp only [List.length_append, List.length_singleton]; omega, e3, e4⟩, fun h => by simp at h, (N5 _ _ _).2 hc, ?_⟩
    · simp only [G0, List.length_append, List.length_singleton, Mn]
      rw [show i + 1 - (k.At.toNat + (k.Old.length + 1)) = 0 by omega, List.take_zero, List.append_nil]
      exact ht
    · intro m hm
      rcases List.mem_append.1 hm with hm | hm
      · exact he m (List.mem_append_left _ hm)
      · rw [List.mem_singleton] at hm; subst hm; exact hk
  | false =>
    have hcl := h.cls rfl
    simp only at hcl
    have hcd : Mi a[i] (hs0, at0, false) = (hs0 ++ [⟨at0, [a[i]], []⟩], at0 + 1, true) := by
      unfold Mi G1
      simp only [Bool.false_eq_true, if_false, Nm, List.nil_append]
    rw [hcd]
    have hat : at0.toNat = i := by omega
    refine ⟨by simp only; omega, by simp only [G0, List.length_singleton]; omega, ?_, fun _ => ⟨hs0, _, j, rfl, by simp only [List.length_singleton]; omega, by simp, by simp⟩, fun h => by simp at h, (N5 _ _ _).2 ⟨hc, fun _ => by simp only; omega, fun p q e => ?_⟩, ?_⟩
    · simp only [G0, List.length_singleton, Mn, hat, Nat.sub_self, List.take_zero, List.append_nil]
      exact ht
    · subst e
      rcases hcl with hcl | hcl
      · simp at hcl
      · rw [G0] at hcl
        obtain ⟨p', _, h1, _⟩ := he q (by simp)
        simp only; omega
    · intro m hm
      rcases List.mem_append.1 hm with hm | hm
      · exact he m hm
      · rw [List.mem_singleton] at hm; subst hm
        refine ⟨i, j, hp, by simp; omega, ?_, by simp; omega, by simp, by simp⟩
        simp only [List.length_singleton]
        rw [List.drop_eq_getElem_cons hi]; rfl
theorem ScI.ins {a b : List ByteArray} {s : Cst} {i j : Nat} (h : ScI a b s i j) (hi : i ≤ a.length) (hj : j < b.length) : ScI a b (Mt b[j] s) i (j + 1) := by
  have hl := h.low
  have ht := h.txt
  have hc := h.chn
  have he := h.each
  have hp := h.pos
  obtain ⟨hs0, at0, op⟩ := s
  simp only at hl ht hc he hp
  cases op with
  | true =>
    obtain ⟨hs, k, q, e1, e2, e3, e4⟩ := h.opn rfl
    simp only at e1
    subst e1
    have hcd : Mt b[j] (hs ++ [k], at0, true) = (hs ++ [{ k with New := k.New ++ [b[j]] }], at0, true) := by
      unfold Mt G1
      simp only [if_true, Nm]
    rw [hcd]
    rw [G0, e2, Nat.sub_self, List.take_zero, List.append_nil, Mn] at ht
    obtain ⟨hk, hk2⟩ := HkOk.new (he k (by simp)) e4 (by omega)
    have hx : b[q + k.New.length]'(by omega) = b[j] := by congr 1
    rw [hx] at hk hk2
    rw [N5] at hc
    refine ⟨hp, by simp only [G0]; omega, ?_, fun _ => ⟨hs, _, q, rfl, e2, by simp only [List.length_append, List.length_singleton]; omega, by simp only [List.length_append, List.length_singleton]; exact hk2⟩, fun h => by simp at h, (N5 _ _ _).2 hc, ?_⟩
    · simp only [G0, Mn]
      rw [show i - (k.At.toNat + k.Old.length) = 0 by omega, List.take_zero, List.append_nil, Nx hj, ← ht]
      simp only [List.append_assoc]
    · intro m hm
      rcases List.mem_append.1 hm with hm | hm
      · exact he m (List.mem_append_left _ hm)
      · rw [List.mem_singleton] at hm; subst hm; exact hk
  | false =>
    have hcl := h.cls rfl
    simp only at hcl
    have hcd : Mt b[j] (hs0, at0, false) = (hs0 ++ [⟨at0, [], [b[j]]⟩], at0, true) := by
      unfold Mt G1
      simp only [Bool.false_eq_true, if_false, Nm, List.nil_append]
    rw [hcd]
    have hat : at0.toNat = i := by omega
    have hn : [b[j]] = (b.drop j).take 1 := by rw [List.drop_eq_getElem_cons hj]; rfl
    refine ⟨hp, by simp only [G0, List.length_nil]; omega, ?_, fun _ => ⟨hs0, _, j, rfl, by simp only [List.length_nil]; omega, by simp, by simp only [List.length_singleton]; exact hn⟩, fun h => by simp at h, (N5 _ _ _).2 ⟨hc, fun _ => by simp only; omega, fun p q e => ?_⟩, ?_⟩
    · simp only [G0, List.length_nil, Mn, hat, Nat.add_zero, Nat.sub_self, List.take_zero, List.append_nil]
      rw [Nx hj, ← ht, List.append_assoc]
    · subst e
      rcases hcl with hcl | hcl
      · simp at hcl
      · rw [G0] at hcl
        obtain ⟨p', _, h1, _⟩ := he q (by simp)
        simp only; omega
    · intro m hm
      rcases List.mem_append.1 hm with hm | hm
      · exact he m hm
      · rw [List.mem_singleton] at hm; subst hm
        exact ⟨i, j, hp, by simp; omega, by simp, by simp; omega, by simp only [List.length_singleton]; exact hn, by simp⟩
theorem scr_ok {a b : List ByteArray} : ∀ (n i j : Nat) (s : Cst), (a.length - i) + (b.length - j) = n → i ≤ a.length → j ≤ b.length → ScI a b s i j → ScI a b (scr (a.drop i) (b.drop j) s) a.length b.length := by
  intro n
  induction n using Nat.strongRecOn with
  | _ n ih =>
  intro i j s hn hi hj h
  by_cases hia : i < a.length
  · have hda := List.drop_eq_getElem_cons hia
    by_cases hjb : j < b.length
    · have hdb := List.drop_eq_getElem_cons hjb
      have hsc : scr (a.drop i) (b.drop j) s = if a[i] = b[j] then scr (a.drop (i + 1)) (b.drop (j + 1)) (Ld s) else if lcs (a.drop (i + 1)) (b.drop j) ≥ lcs (a.drop i) (b.drop (j + 1)) then scr (a.drop (i + 1)) (b.drop j) (Mi a[i] s) else scr (a.drop i) (b.drop (j + 1)) (Mt b[j] s) := by
        conv => lhs; rw [hda, hdb, scr]
        rw [← hda, ← hdb]
      rw [hsc]
      split
      · rename_i e
        exact ih _ (by omega) (i + 1) (j + 1) _ rfl (by omega) (by omega) (h.keep hia hjb e)
      · split
        · exact ih _ (by omega) (i + 1) j _ rfl (by omega) (by omega) (h.del hia hj)
        · exact ih _ (by omega) i (j + 1) _ rfl (by omega) (by omega) (h.ins hi hjb)
    · have hj' : j = b.length := by omega
      subst hj'
      have hsc : scr (a.drop i) (b.drop b.length) s = scr (a.drop (i + 1)) (b.drop b.length) (Mi a[i] s) := by
        rw [hda, List.drop_length, scr]
      rw [hsc]
      exact ih _ (by omega) (i + 1) b.length _ rfl (by omega) (by omega) (h.del hia hj)
  · have hi' : i = a.length := by omega
    subst hi'
    by_cases hjb : j < b.length
    · have hdb := List.drop_eq_getElem_cons hjb
      have hsc : scr (a.drop a.length) (b.drop j) s = scr (a.drop a.length) (b.drop (j + 1)) (Mt b[j] s) := by
        rw [hdb, List.drop_length, scr]
      rw [hsc]
      exact ih _ (by omega) a.length (j + 1) _ rfl (by omega) (by omega) (h.ins hi hjb)
    · have hj' : j = b.length := by omega
      subst hj'
      rw [List.drop_length, List.drop_length, scr]
      exact h
theorem ok_part {l : List ByteArray} (h : Ds l) (p k : Nat) : (Bp ((l.drop p).take k)).Code = 0 := by
  refine (Dm _).1 ((E5 _).1 ⟨?_, fun s hs => h.2 s (List.mem_of_mem_drop (List.mem_of_mem_take hs))⟩)
  have := h.1
  simp; omega
theorem good_of {a b : List ByteArray} (ha : Ds a) (hb : Ds b) : ∀ (l : List Hunk) (e : Int), Chn e l → (∀ h ∈ l, HkOk a b h) → Good e l ∧ (-1 ≤ e → e ≤ 120 → (l.length : Int) ≤ 120 - e)
  | [], e, _, _ => ⟨trivial, fun _ _ => by simp; omega⟩
  | h :: r, e, hc, he => by
    obtain ⟨p, q, h1, h2, h3, h4, h5, h6⟩ := he h List.mem_cons_self
    obtain ⟨c1, c2⟩ := hc
    have hl := ha.1
    obtain ⟨g1, g2⟩ := good_of ha hb r _ c2 fun x hx => he x (List.mem_cons_of_mem _ hx)
    refine ⟨⟨?_, g1⟩, fun _ _ => ?_⟩
    · unfold hcode
      have t1 : (Bp h.Old).Code = 0 := by rw [h3]; exact ok_part ha _ _
      have t2 : (Bp h.New).Code = 0 := by rw [h5]; exact ok_part hb _ _
      rw [if_neg (by omega), if_neg (fun hn => hn t1), if_neg (fun hn => hn t2), if_neg (by omega), if_neg (by omega)]
    · have := g2 (by omega) (by omega)
      rw [List.length_cons]; omega
def Qy (l : List File) (x : File) : List File := l.take (D5 l x.Path) ++ [x] ++ l.drop (D5 l x.Path)
theorem Qm {l : List File} (h : Gl l) {p : ByteArray} (hh : Gy l p = true) : ∃ hp : D5 l p < l.length, l[D5 l p].Path = p := by
  rw [has_at h] at hh
  split at hh
  · rename_i hp; exact ⟨hp, of_decide_eq_true hh⟩
  · cases hh
theorem pos_of {l : List File} (h : Gl l) {j : Nat} (hj : j < l.length) : D5 l l[j].Path = j ∧ Gy l l[j].Path = true := by
  have hh : Gy l l[j].Path = true := by
    unfold Gy; rw [List.any_eq_true]; exact ⟨_, List.getElem_mem hj, decide_eq_true rfl⟩
  refine ⟨?_, hh⟩
  obtain ⟨hp, he⟩ := Qm h hh
  rcases Nat.lt_trichotomy (D5 l l[j].Path) j with h1 | h1 | h1
  · have := List.pairwise_iff_getElem.1 h _ _ hp hj h1
    rw [he, Ma] at this; cases this
  · exact h1
  · have := List.pairwise_iff_getElem.1 h _ _ hj hp h1
    rw [he, Ma] at this; cases this
theorem rel_has {l : List File} {p : ByteArray} (h : Dr l p = false) : Gy l p = false := by
  unfold Dr at h
  unfold Gy
  rw [List.any_eq_false] at h ⊢
  intro f hf e
  have := h f hf
  rw [of_decide_eq_true e, O9] at this
  exact this rfl
theorem ins_len (l : List File) (x : File) : (Qy l x).length = l.length + 1 := by
  have := pos_le l x.Path
  unfold Qy; simp; omega
theorem ins_srt {l : List File} (h : Gl l) {x : File} (hn : Gy l x.Path = false) : Gl (Qy l x) := by
  unfold Gl Qy
  have hlow : ∀ f ∈ l.take (D5 l x.Path), sLt f.Path x.Path = true := by
    intro f hf
    rw [List.mem_take_iff_getElem] at hf
    obtain ⟨i, hi, rfl⟩ := hf
    rw [pos_lt h x.Path i (by omega)]
    exact decide_eq_true (by omega)
  have hhigh : ∀ f ∈ l.drop (D5 l x.Path), sLt x.Path f.Path = true := by
    intro f hf
    obtain ⟨i, hi, rfl⟩ := List.getElem_of_mem hf
    rw [List.length_drop] at hi
    rw [List.getElem_drop]
    have h1 := pos_lt h x.Path (D5 l x.Path + i) (by omega)
    rw [decide_eq_false (by omega)] at h1
    rcases sLt_tri x.Path l[D5 l x.Path + i].Path with h2 | h2 | h2
    · exact h2
    · unfold Gy at hn
      rw [List.any_eq_false] at hn
      exact absurd (decide_eq_true h2.symm) (hn _ (List.getElem_mem (by omega)))
    · rw [h1] at h2; cases h2
  rw [List.pairwise_append, List.pairwise_append]
  refine ⟨⟨h.sublist (List.take_sublist _ _), List.pairwise_singleton _ _, ?_⟩, h.sublist (List.drop_sublist _ _), ?_⟩
  · intro a ha b hb
    rw [List.mem_singleton] at hb; subst hb
    exact hlow a ha
  · intro a ha b hb
    rcases List.mem_append.1 ha with ha | ha
    · exact Nu (hlow a ha) (hhigh b hb)
    · rw [List.mem_singleton] at ha; subst ha
      exact hhigh b hb
theorem Qk {l : List File} {x f : File} : f ∈ Qy l x ↔ f = x ∨ f ∈ l := by
  unfold Qy
  rw [List.mem_append, List.mem_append, List.mem_singleton]
  conv => rhs; rw [← List.take_append_drop (D5 l x.Path) l, List.mem_append]
  constructor
  · rintro ((h | h) | h)
    · exact .inr (.inl h)
    · exact .inl h
    · exact .inr (.inr h)
  · rintro (h | h | h)
    · exact .inl (.inr h)
    · exact .inl (.inl h)
    · exact .inr h
theorem Put_f {l : List File} (h : Gl l) (hl : l.length ≤ 1000) {p : ByteArray} (hn : Gy l p = false) {L : List ByteArray} (hL : L.length ≤ 1000000) : Dv ⟨l⟩ p L = some ⟨Qy l ⟨p, L⟩⟩ := by
  have hp := pos_le l p
  unfold Dv
  simp only
  rw [Find_f h (by omega), Option.bind_some, hn, if_pos (by rfl)]
  have e : ins? 40 l ((D5 l p : Nat) : Int) [⟨p, []⟩] = some (l.take (D5 l p) ++ [⟨p, []⟩] ++ l.drop (D5 l p)) := by
    unfold ins?
    simp only
    rw [if_pos (by omega), Er (by simp; omega), Option.bind_some, Int.toNat_natCast]
  rw [e, Option.bind_some]
  unfold Dv.j1
  rw [clone_f _ hL, Option.bind_some]
  simp only
  have hlen : (l.take (D5 l p)).length = D5 l p := by simp; omega
  rw [Cv (by simp; omega), Option.bind_some, Option.bind_some, Int.toNat_natCast]
  have e2 : (l.take (D5 l p) ++ [(⟨p, []⟩ : File)] ++ l.drop (D5 l p))[D5 l p]'(by simp; omega) = ⟨p, []⟩ := by
    rw [List.getElem_append_left (by simp; omega), List.getElem_append_right (by omega)]
    simp [hlen]
  rw [e2]
  unfold Qy
  congr 2
  rw [List.append_assoc, List.append_assoc, List.set_append_right _ _ (by omega), hlen, Nat.sub_self]
  rfl
theorem del_f (l : List File) {j : Nat} (hj : j < l.length) : del? l (j : Int) ((j + 1 : Nat) : Int) = some (l.eraseIdx j) := by
  unfold del?
  rw [if_pos (by omega), Int.toNat_natCast, Int.toNat_natCast, List.eraseIdx_eq_take_drop_succ]
def Hh (c : TreeChange) (l : List File) : Int × List File :=
  if c.Kind = 1 then if Dr l c.Path = true then (7, l) else if 24 ≤ l.length then (14, l) else (0, Qy l ⟨c.Path, c.Lines⟩)
  else match (if Gy l c.Path = true then l[D5 l c.Path]? else Option.none) with
  | Option.none => (6, l)
  | some f =>
    if c.Kind = 2 then if f.Lines ≠ c.Lines then (19, l) else (0, l.eraseIdx (D5 l c.Path))
    else if c.Kind = 3 then if Dr (l.eraseIdx (D5 l c.Path)) c.To = true then (7, l) else (0, Qy (l.eraseIdx (D5 l c.Path)) ⟨c.To, f.Lines⟩)
    else if (Ko c.Patch f.Lines).2.Code ≠ 0 then ((Ko c.Patch f.Lines).2.Code, l) else (0, l.set (D5 l c.Path) ⟨f.Path, (Ko c.Patch f.Lines).1⟩)
theorem TrOk.text_len {l : List File} (h : TrOk l) {f : File} (hf : f ∈ l) : f.Lines.length ≤ 120 := (h.text f hf).1
theorem make1_f {l : List File} (h : TrOk l) {c : TreeChange} (hc : OkCh c) : Ee c ⟨l⟩ = some ((Hh c l).1, ⟨(Hh c l).2⟩) := by
  have hl := h.len
  have hps : ∀ f ∈ l, f.Path.size ≤ 1000000 := fun f hf => by have := G3 (h.path f hf); omega
  have hcp := G3 hc.path
  have hcl : c.Lines.length ≤ 120 := Ga hc.lines
  unfold Ee Hh
  simp only
  rw [Find_f h.srt (by omega), Option.bind_some]
  by_cases k1 : c.Kind = 1
  · rw [decide_eq_true k1, if_pos rfl, if_pos k1, clash_f hps (by omega) (by omega), Option.bind_some, clO_all]
    cases hr : Dr l c.Path
    · rw [if_neg Bool.false_ne_true, if_neg Bool.false_ne_true]
      by_cases h24 : 24 ≤ l.length
      · rw [decide_eq_true (by omega), if_pos rfl, if_pos h24]
      · rw [decide_eq_false (by omega), if_neg Bool.false_ne_true, if_neg h24, Put_f h.srt (by omega) (rel_has hr) (by omega), Option.bind_some]
    · rw [if_pos rfl, if_pos rfl]
  rw [decide_eq_false k1, if_neg Bool.false_ne_true, if_neg k1]
  cases hh : Gy l c.Path with
  | false =>
    rw [if_pos (by rfl)]
    simp only [Bool.false_eq_true, if_false]
  | true =>
    obtain ⟨hp, he⟩ := Qm h.srt hh
    have hfm := List.getElem_mem hp
    have hft := h.text_len hfm
    rw [if_neg (show ¬ ((!true) = true) by decide), Cv hp, Option.bind_some, if_pos rfl, List.getElem?_eq_getElem hp]
    simp only
    have ez : ckK .i64 (((D5 l c.Path : Nat) : Int) + 1) = some ((D5 l c.Path + 1 : Nat) : Int) := by
      rw [Ce (by omega) (by omega)]; rfl
    by_cases k2 : c.Kind = 2
    · rw [decide_eq_true k2, if_pos rfl, if_pos k2, sequal_f _ _ (by omega), Option.bind_some]
      by_cases ht : l[D5 l c.Path].Lines = c.Lines
      · rw [decide_eq_true ht, if_neg (show ¬ ((!true) = true) by decide), if_neg (fun hn => hn ht), ez, Option.bind_some, del_f l hp, Option.bind_some]; rfl
      · rw [decide_eq_false ht, if_pos (by rfl), if_pos ht]
    rw [decide_eq_false k2, if_neg Bool.false_ne_true, if_neg k2]
    by_cases k3 : c.Kind = 3
    · have hto := G3 (hc.to k3).1
      have hcl3 := clO_ne (p := c.To) l 0 (D5 l c.Path)
      rw [Nat.zero_add] at hcl3
      rw [decide_eq_true k3, if_pos rfl, if_pos k3, clash_f hps (by omega) (by omega), Option.bind_some, hcl3]
      cases hr : Dr (l.eraseIdx (D5 l c.Path)) c.To
      · rw [if_neg Bool.false_ne_true, if_neg Bool.false_ne_true, ez, Option.bind_some, del_f l hp, Option.bind_some,
          Put_f (h.srt.sublist (List.eraseIdx_sublist _ _)) (by have := List.length_eraseIdx_le l (D5 l c.Path); omega) (rel_has hr) (by omega), Option.bind_some]; rfl
      · rw [if_pos rfl, if_pos rfl]
    · rw [decide_eq_false k3, if_neg Bool.false_ne_true, if_neg k3, apply_f, Option.bind_some]
      by_cases ha : (Ko c.Patch l[D5 l c.Path].Lines).2.Code = 0
      · have hi : (Ko c.Patch l[D5 l c.Path].Lines).2.Index = 0 := by rw [(applyF_ok ha).2.2.2.2.2]
        rw [decide_eq_true ha, decide_eq_true hi, if_neg (by decide), if_neg (fun hn => hn ha), Option.bind_some, Option.bind_some, Int.toNat_natCast]; rfl
      · rw [if_pos (by simp [ha]), if_pos ha]
theorem pos_eq {m : List File} (h : Gl m) {p : ByteArray} {k : Nat} (hk : k ≤ m.length) (h1 : ∀ i (hi : i < m.length), i < k → sLt m[i].Path p = true) (h2 : ∀ i (hi : i < m.length), k ≤ i → sLt m[i].Path p = false) : D5 m p = k := by
  have hp := pos_le m p
  rcases Nat.lt_trichotomy (D5 m p) k with h3 | h3 | h3
  · have := h1 (D5 m p) (by omega) h3
    rw [pos_lt h] at this
    simp at this
  · exact h3
  · have := h2 k (by omega) (Nat.le_refl _)
    rw [pos_lt h] at this
    simp at this; omega
theorem tw_all {α : Type} {p : α → Bool} : ∀ {l : List α}, (∀ f ∈ l, p f = true) → l.takeWhile p = l
  | [], _ => rfl
  | f :: l, h => by rw [List.takeWhile_cons, h f List.mem_cons_self, if_pos rfl, tw_all fun g hg => h g (List.mem_cons_of_mem _ hg)]
theorem ins_end {m : List File} {x : File} (h : ∀ f ∈ m, sLt f.Path x.Path = true) : Qy m x = m ++ [x] := by
  have : D5 m x.Path = m.length := by
    unfold D5
    rw [tw_all fun f hf => h f hf]
  unfold Qy
  rw [this]; simp
theorem erase_rel {l : List File} (h : TrOk l) {j : Nat} (hj : j < l.length) : Dr (l.eraseIdx j) l[j].Path = false := by
  unfold Dr
  rw [List.any_eq_false]
  intro f hf
  rw [List.mem_eraseIdx_iff_getElem] at hf
  obtain ⟨i, hi, hne, rfl⟩ := hf
  rcases Nat.lt_or_gt_of_ne hne with h1 | h1
  · have := List.pairwise_iff_getElem.1 h.rel i j hi hj h1
    rw [this]; decide
  · have := List.pairwise_iff_getElem.1 h.rel j i hj hi h1
    rw [Qa, this]; decide
theorem pos_erase {l : List File} (h : Gl l) {j : Nat} (hj : j < l.length) : D5 (l.eraseIdx j) l[j].Path = j := by
  have hlen : (l.eraseIdx j).length = l.length - 1 := by rw [List.length_eraseIdx, if_pos hj]
  refine pos_eq (h.sublist (List.eraseIdx_sublist _ _)) (by omega) ?_ ?_
  · intro i hi hij
    rw [List.getElem_eraseIdx_of_lt _ hij]
    exact List.pairwise_iff_getElem.1 h i j (by omega) hj hij
  · intro i hi hij
    rw [List.getElem_eraseIdx_of_ge _ hij]
    exact L0 (List.pairwise_iff_getElem.1 h j (i + 1) hj (by omega) (by omega))
theorem ins_erase {l : List File} (h : Gl l) {j : Nat} (hj : j < l.length) {x : File} (hx : x.Path = l[j].Path) : Qy (l.eraseIdx j) x = l.set j x := by
  unfold Qy
  rw [hx, pos_erase h hj, List.eraseIdx_eq_take_drop_succ, List.set_eq_take_append_cons_drop, if_pos hj]
  have h1 : (l.take j ++ l.drop (j + 1)).take j = l.take j := by rw [List.take_append_of_le_length (by simp; omega), List.take_take, Nat.min_self]
  have h2 : (l.take j ++ l.drop (j + 1)).drop j = l.drop (j + 1) := by
    have hl : (l.take j).length = j := by simp; omega
    rw [List.drop_append_of_le_length (by omega), List.drop_of_length_le (by omega), List.nil_append]
  rw [h1, h2]; simp
theorem ins_ok {l : List File} (h : TrOk l) {x : File} (h1 : Em x.Path = true) (h2 : Dr l x.Path = false) (h3 : Ds x.Lines) (h4 : l.length < 24) : TrOk (Qy l x) := by
  have hrel : ∀ f ∈ l, Kf f.Path x.Path = false := by
    intro f hf
    unfold Dr at h2
    rw [List.any_eq_false] at h2
    simpa using h2 f hf
  refine ⟨by rw [ins_len]; omega, ins_srt h.srt (rel_has h2), ?_, ?_, ?_⟩
  · intro f hf
    rcases Qk.1 hf with rfl | hf
    · exact h1
    · exact h.path f hf
  · unfold Qy
    rw [List.pairwise_append, List.pairwise_append]
    have hr := h.rel
    rw [← List.take_append_drop (D5 l x.Path) l, List.pairwise_append] at hr
    refine ⟨⟨hr.1, List.pairwise_singleton _ _, ?_⟩, hr.2.1, ?_⟩
    · intro a ha b hb
      rw [List.mem_singleton] at hb; subst hb
      exact hrel a (List.mem_of_mem_take ha)
    · intro a ha b hb
      rcases List.mem_append.1 ha with ha | ha
      · exact hr.2.2 a ha b hb
      · rw [List.mem_singleton] at ha; subst ha
        rw [Qa]; exact hrel b (List.mem_of_mem_drop hb)
  · intro f hf
    rcases Qk.1 hf with rfl | hf
    · exact h3
    · exact h.text f hf
theorem erase_ok {l : List File} (h : TrOk l) (j : Nat) : TrOk (l.eraseIdx j) := by
  have hs := List.eraseIdx_sublist l j
  refine ⟨Nat.le_trans hs.length_le h.len, h.srt.sublist hs, fun f hf => h.path f (hs.subset hf), h.rel.sublist hs, fun f hf => h.text f (hs.subset hf)⟩
theorem applyF_text {p : Patch} {t : List ByteArray} (h : (Ko p t).2.Code = 0) : Ds (Ko p t).1 := by
  obtain ⟨h1, h2, h3, h4, h5, h6⟩ := applyF_ok h
  rw [h6]
  exact ⟨h5, rawS_lines _ _ _ h3.2 fun x hx => lines_of (good_at h2 (by omega) x hx).2.2.2.1⟩
theorem makeF_ok {l : List File} (h : TrOk l) {c : TreeChange} (hc : OkCh c) (h0 : (Hh c l).1 = 0) : TrOk (Hh c l).2 := by
  unfold Hh at h0 ⊢
  by_cases k1 : c.Kind = 1
  · rw [if_pos k1] at h0 ⊢
    cases hr : Dr l c.Path
    · rw [hr, if_neg Bool.false_ne_true] at h0
      rw [if_neg Bool.false_ne_true]
      by_cases h24 : 24 ≤ l.length
      · rw [if_pos h24] at h0; simp at h0
      · rw [if_neg h24]
        exact ins_ok h hc.path hr ((E5 _).2 ((Dm _).2 hc.lines)) (by omega)
    · rw [hr, if_pos rfl] at h0; simp at h0
  rw [if_neg k1] at h0 ⊢
  cases hh : Gy l c.Path with
  | false => rw [hh] at h0; simp at h0
  | true =>
    obtain ⟨hp, he⟩ := Qm h.srt hh
    have hfm := List.getElem_mem hp
    have hle : (l.eraseIdx (D5 l c.Path)).length = l.length - 1 := by rw [List.length_eraseIdx, if_pos hp]
    have hl := h.len
    rw [hh, if_pos rfl, List.getElem?_eq_getElem hp] at h0
    rw [if_pos rfl, List.getElem?_eq_getElem hp]
    simp only at h0 ⊢
    by_cases k2 : c.Kind = 2
    · rw [if_pos k2] at h0 ⊢
      by_cases ht : l[D5 l c.Path].Lines ≠ c.Lines
      · rw [if_pos ht] at h0; simp at h0
      · rw [if_neg ht]; exact erase_ok h _
    rw [if_neg k2] at h0 ⊢
    by_cases k3 : c.Kind = 3
    · rw [if_pos k3] at h0 ⊢
      cases hr : Dr (l.eraseIdx (D5 l c.Path)) c.To
      · rw [if_neg Bool.false_ne_true]
        exact ins_ok (erase_ok h _) (hc.to k3).1 hr (show Ds l[D5 l c.Path].Lines from h.text _ hfm) (by omega)
      · rw [hr, if_pos rfl] at h0; simp at h0
    · rw [if_neg k3] at h0 ⊢
      by_cases ha : (Ko c.Patch l[D5 l c.Path].Lines).2.Code = 0
      · rw [if_neg (fun hn => hn ha)]
        simp only
        rw [← ins_erase h.srt hp (x := ⟨l[D5 l c.Path].Path, (Ko c.Patch l[D5 l c.Path].Lines).1⟩) rfl]
        refine ins_ok (erase_ok h _) (show Em l[D5 l c.Path].Path = true from h.path _ hfm) (erase_rel h hp) ?_ (by omega)
        exact applyF_text ha
      · rw [if_pos ha] at h0; exact absurd h0 ha
def pcG (k : Nat) (c : TreeChange) : Option Fault := if chF c ≠ 0 then some ⟨chF c, k⟩ else Option.none
def pcF (p : List TreeChange) : Fault := if p.length > 30 then ⟨2, -1⟩ else (Gz pcG 0 p).getD ⟨0, 0⟩
theorem VPatch_f (p : TreePatch) : Bo p = some (pcF p.Changes) := by
  obtain ⟨l⟩ := p
  unfold Bo pcF
  simp only
  by_cases h : l.length > 30
  · rw [decide_eq_true (by omega), if_pos rfl, if_pos h]
  rw [decide_eq_false (by omega), if_neg Bool.false_ne_true, if_neg h, scan0 l pcG ?_ ?_, Option.bind_some]
  · cases Gz pcG 0 l <;> rfl
  · intro k hk _
    unfold Bo.l1 pcG
    simp only
    rw [decide_eq_true (by omega), if_pos rfl, Cv hk, Option.bind_some, check_f, Option.bind_some]
    by_cases hc : chF l[k] = 0
    · rw [decide_eq_true hc, if_neg (show ¬ ((!true) = true) by decide), if_neg (fun hn => hn hc), Ce (by omega) (by omega), Option.bind_some]; rfl
    · rw [decide_eq_false hc, if_pos (by rfl), if_pos hc]
  · unfold Bo.l1
    rw [decide_eq_false (by simp), if_neg Bool.false_ne_true]
theorem pcG_code {k : Nat} {c : TreeChange} {y : Fault} (h : pcG k c = some y) : y.Code ≠ 0 := by
  unfold pcG at h
  split at h
  · rename_i hc; cases h; exact hc
  · cases h
theorem pcF_ok (p : List TreeChange) : pcF p = ⟨0, 0⟩ ∨ (pcF p).Code ≠ 0 := by
  unfold pcF
  split
  · right; simp
  · cases h : Gz pcG 0 p with
    | none => left; rfl
    | some y => right; obtain ⟨j, hj, e⟩ := Mu h; exact pcG_code e
theorem pcF_zero (p : List TreeChange) : (pcF p).Code = 0 ↔ p.length ≤ 30 ∧ ∀ c ∈ p, OkCh c := by
  unfold pcF
  by_cases h : p.length > 30
  · rw [if_pos h]; exact ⟨fun e => by simp at e, fun e => by omega⟩
  rw [if_neg h]
  have e1 : (((Gz pcG 0 p).getD ⟨0, 0⟩).Code = 0) ↔ Gz pcG 0 p = Option.none := by
    cases h : Gz pcG 0 p with
    | none => simp
    | some y => obtain ⟨j, hj, e⟩ := Mu h; simp [pcG_code e]
  rw [e1, Qw]
  constructor
  · intro hh
    refine ⟨by omega, fun c hc => ?_⟩
    obtain ⟨j, hj, rfl⟩ := List.getElem_of_mem hc
    have := hh j hj
    unfold pcG at this
    split at this
    · cases this
    · rename_i h0; exact chF_ok.1 (by simpa using h0)
  · rintro ⟨_, hh⟩ j hj
    unfold pcG
    rw [if_neg (by rw [chF_ok.2 (hh _ (List.getElem_mem hj))]; simp)]
def Od : Nat → List TreeChange → List File → List File × Fault
  | _, [], l => (l, ⟨0, 0⟩)
  | k, c :: r, l => if (Hh c l).1 ≠ 0 then ([], ⟨(Hh c l).1, k⟩) else Od (k + 1) r (Hh c l).2
def Di (p : List TreeChange) (l : List File) : List File × Fault :=
  if (pcF p).Code ≠ 0 then ([], pcF p) else if (Gq l).Code ≠ 0 then ([], ⟨(Gq l).Code, -2⟩) else Od 0 p l
theorem copyT_f {l : List File} (h : ∀ f ∈ l, f.Lines.length ≤ 1000000) (hl : l.length ≤ 1000) : Cb ⟨l⟩ = some ⟨l⟩ := by
  have key : ∀ (n k : Nat), k + n = l.length → De (fun s => Cb.l1 ⟨l⟩ s.1 s.2) ((k : Int), l.take k) = some l := by
    intro n
    induction n with
    | zero =>
      intro k hk
      refine Br ?_
      show Cb.l1 ⟨l⟩ _ _ = _
      unfold Cb.l1
      simp only
      rw [decide_eq_false (by omega), if_neg Bool.false_ne_true, List.take_of_length_le (by omega)]
    | succ n ih =>
      intro k hk
      have hkl : k < l.length := by omega
      have hs : Cb.l1 ⟨l⟩ (k : Int) (l.take k) = some (Step.next (((k + 1 : Nat) : Int), l.take (k + 1))) := by
        unfold Cb.l1
        simp only
        rw [decide_eq_true (by omega), if_pos rfl, Cv hkl, Option.bind_some, clone_f _ (h _ (List.getElem_mem hkl)), Option.bind_some, Er (by simp; omega), Option.bind_some, Ce (by omega) (by omega), Option.bind_some,
          List.take_add_one, List.getElem?_eq_getElem hkl]; rfl
      rw [B9 (s' := (((k + 1 : Nat) : Int), l.take (k + 1))) hs]
      exact ih (k + 1) (by omega)
  unfold Cb
  have := key l.length 0 (by omega)
  rw [List.take_zero, show ((0 : Nat) : Int) = 0 from rfl] at this
  rw [this, Option.bind_some]; rfl
theorem run_ok : ∀ (r : List TreeChange) (k : Nat) (l : List File), TrOk l → (∀ c ∈ r, OkCh c) → (Od k r l).2.Code = 0 → TrOk (Od k r l).1 ∧ (Od k r l).2 = ⟨0, 0⟩
  | [], k, l, h, _, _ => ⟨h, rfl⟩
  | c :: r, k, l, h, hc, h0 => by
    rw [Od] at h0 ⊢
    by_cases hm : (Hh c l).1 ≠ 0
    · rw [if_pos hm] at h0; exact absurd h0 hm
    · rw [if_neg hm] at h0 ⊢
      exact run_ok r (k + 1) _ (makeF_ok h (hc c List.mem_cons_self) (by simpa using hm)) (fun d hd => hc d (List.mem_cons_of_mem _ hd)) h0
theorem run_iter {p : List TreeChange} (hp : ∀ c ∈ p, OkCh c) (hpl : p.length ≤ 30) : ∀ (r : List TreeChange) (k : Nat) (l : List File), p.drop k = r → TrOk l →
    De (fun s => Cp.l1 ⟨p⟩ s.1 s.2) ((k : Int), l) = some (if (Od k r l).2.Code ≠ 0 then .inl (⟨[]⟩, (Od k r l).2) else .inr (Od k r l).1) := by
  intro r
  induction r with
  | nil =>
    intro k l hk h
    have := Hg hk
    rw [Od, if_neg (by simp)]
    refine Br ?_
    show Cp.l1 ⟨p⟩ _ _ = _
    unfold Cp.l1
    simp only
    rw [decide_eq_false (by omega), if_neg Bool.false_ne_true]
  | cons c r ih =>
    intro k l hk h
    obtain ⟨hlt, hx, hr⟩ := Hs hk
    have hc : OkCh c := hp c (hx ▸ List.getElem_mem hlt)
    have hs : Cp.l1 ⟨p⟩ (k : Int) l = if (Hh c l).1 ≠ 0 then some (Step.done (Sum.inl (⟨[]⟩, ⟨(Hh c l).1, k⟩))) else some (Step.next (((k + 1 : Nat) : Int), (Hh c l).2)) := by
      unfold Cp.l1
      simp only
      rw [decide_eq_true (by omega), if_pos rfl, Cv hlt, Option.bind_some, hx, make1_f h hc, Option.bind_some]
      by_cases hm : (Hh c l).1 = 0
      · rw [decide_eq_true hm, if_neg (show ¬ ((!true) = true) by decide), if_neg (fun hn => hn hm), Ce (by omega) (by omega), Option.bind_some]; rfl
      · rw [decide_eq_false hm, if_pos (by rfl), if_pos hm]
    rw [Od]
    by_cases hm : (Hh c l).1 ≠ 0
    · rw [if_pos hm] at hs ⊢
      rw [if_pos (by simpa using hm)]
      exact Br hs
    · rw [if_neg hm] at hs ⊢
      rw [B9 (s' := (((k + 1 : Nat) : Int), (Hh c l).2)) hs]
      exact ih (k + 1) _ hr (makeF_ok h hc (by simpa using hm))
theorem run_fail : ∀ (r : List TreeChange) (k : Nat) (l : List File), (Od k r l).2.Code ≠ 0 → (Od k r l).1 = []
  | [], k, l, h => absurd rfl h
  | c :: r, k, l, h => by
    rw [Od] at h ⊢
    by_cases hm : (Hh c l).1 ≠ 0
    · rw [if_pos hm]
    · rw [if_neg hm] at h ⊢
      exact run_fail r (k + 1) _ h
theorem Apply_f (p : TreePatch) (t : FileTree) : Cp p t = some (⟨(Di p.Changes t.Files).1⟩, (Di p.Changes t.Files).2) := by
  obtain ⟨p⟩ := p
  obtain ⟨l⟩ := t
  unfold Cp Di
  rw [VPatch_f, Option.bind_some]
  simp only
  rcases pcF_ok p with h | h
  · have h0 : (pcF p).Code = 0 := by rw [h]
    obtain ⟨hpl, hp⟩ := (pcF_zero p).1 h0
    rw [if_neg (by rw [h]; decide), if_neg (fun hn => hn h0), tsecond_f, Option.bind_some]
    simp only
    by_cases ht : (Gq l).Code = 0
    · have hT := (H1 l).1 ht
      rw [if_pos ht, if_neg (by decide), if_neg (fun hn => hn ht), copyT_f (fun f hf => by have := hT.text_len hf; omega) (by have := hT.len; omega), Option.bind_some]
      have := run_iter hp hpl p 0 l rfl hT
      rw [show ((0 : Nat) : Int) = 0 from rfl] at this
      rw [this, Option.bind_some]
      by_cases hr : (Od 0 p l).2.Code ≠ 0
      · rw [if_pos hr, run_fail _ _ _ hr]
      · rw [if_neg hr, (run_ok p 0 l hT hp (by simpa using hr)).2]; rfl
    · rw [if_neg ht, if_pos (by simp [ht]), if_pos ht]
  · rw [if_pos (by simp [h]), if_pos h]
theorem tree_refl {l : List File} (h : ∀ f ∈ l, f.Lines.length ≤ 1000000) (hl : l.length ≤ 1000000) : Bw ⟨l⟩ ⟨l⟩ = some true := by
  unfold Bw
  simp only
  rw [if_neg (by simp), scan0 l (fun _ _ => (Option.none : Option Bool)) ?_ ?_, Option.bind_some]
  · have : Gz (fun _ _ => (Option.none : Option Bool)) 0 l = Option.none := by rw [Qw]; intro j hj; rfl
    rw [this]; rfl
  · intro k hk _
    unfold Bw.l1
    simp only
    rw [decide_eq_true (by omega), if_pos rfl, Cv hk, Option.bind_some, Option.bind_some, decide_eq_true rfl, if_neg (show ¬ ((!true) = true) by decide), Option.bind_some, Option.bind_some, Qg _ _ (h _ (List.getElem_mem hk)), Option.bind_some,
      decide_eq_true rfl, Option.bind_some, if_neg (by decide), Ce (by omega) (by omega), Option.bind_some]; rfl
  · unfold Bw.l1
    rw [decide_eq_false (by simp), if_neg Bool.false_ne_true]
theorem tree_ok {l : List File} (h : TrOk l) : Bw ⟨l⟩ ⟨l⟩ = some true := tree_refl (fun f hf => by have := h.text_len hf; omega) (by have := h.len; omega)
theorem Hb {p : List TreeChange} {l : List File} (h : (Di p l).2.Code = 0) : p.length ≤ 30 ∧ (∀ c ∈ p, OkCh c) ∧ TrOk l ∧ Di p l = Od 0 p l ∧ TrOk (Di p l).1 := by
  unfold Di at h ⊢
  by_cases hp : (pcF p).Code ≠ 0
  · rw [if_pos hp] at h; exact absurd h hp
  rw [if_neg hp] at h ⊢
  have hp0 := (pcF_zero p).1 (by simpa using hp)
  by_cases ht : (Gq l).Code ≠ 0
  · rw [if_pos ht] at h; exact absurd h ht
  rw [if_neg ht] at h ⊢
  have hT := (H1 l).1 (by simpa using ht)
  exact ⟨hp0.1, hp0.2, hT, rfl, (run_ok p 0 l hT hp0.2 h).1⟩
theorem applyT_of {p : List TreeChange} {l : List File} (h1 : p.length ≤ 30) (h2 : ∀ c ∈ p, OkCh c) (h3 : TrOk l) : Di p l = Od 0 p l := by
  unfold Di
  rw [if_neg (by rw [(pcF_zero p).2 ⟨h1, h2⟩]; simp), if_neg (by rw [(H1 l).2 h3]; simp)]
def Can (c : TreeChange) (l : List File) (x : Option File) : Prop :=
  (c.Kind = 1 ∧ (∀ f ∈ l, Kf f.Path c.Path = false) ∧ x = some ⟨c.Path, c.Lines⟩) ∨
  (c.Kind = 2 ∧ (⟨c.Path, c.Lines⟩ : File) ∈ l ∧ x = Option.none) ∨
  (c.Kind = 3 ∧ ∃ L, (⟨c.Path, L⟩ : File) ∈ l ∧ (∀ f ∈ l, f.Path ≠ c.Path → Kf f.Path c.To = false) ∧ x = some ⟨c.To, L⟩) ∨
  (c.Kind = 4 ∧ ∃ L, (⟨c.Path, L⟩ : File) ∈ l ∧ (Ko c.Patch L).2.Code = 0 ∧ x = some ⟨c.Path, (Ko c.Patch L).1⟩)
def Res (P : ByteArray) (l : List File) (x : Option File) (l' : List File) : Prop := ∀ f, f ∈ l' ↔ (f ∈ l ∧ f.Path ≠ P) ∨ some f = x
theorem O8 {l : List File} (h : Gl l) {j : Nat} (hj : j < l.length) {f : File} : f ∈ l.eraseIdx j ↔ f ∈ l ∧ f.Path ≠ l[j].Path := by
  rw [List.mem_eraseIdx_iff_getElem]
  constructor
  · rintro ⟨i, hi, hne, rfl⟩
    refine ⟨List.getElem_mem _, fun e => hne ?_⟩
    have h1 := (pos_of h hi).1
    have h2 := (pos_of h hj).1
    rw [e, h2] at h1; exact h1.symm
  · rintro ⟨hf, hne⟩
    obtain ⟨i, hi, rfl⟩ := List.getElem_of_mem hf
    exact ⟨i, hi, fun e => hne (by subst e; rfl), rfl⟩
theorem Qu {l : List File} {p : ByteArray} : Dr l p = false ↔ ∀ f ∈ l, Kf f.Path p = false := by
  unfold Dr
  rw [List.any_eq_false]
  simp
theorem res_eq : ∀ {a b : List File}, Gl a → Gl b → (∀ f, f ∈ a ↔ f ∈ b) → a = b
  | [], [], _, _, _ => rfl
  | [], g :: b, _, _, h => absurd ((h g).2 List.mem_cons_self) (by simp)
  | f :: a, [], _, _, h => absurd ((h f).1 List.mem_cons_self) (by simp)
  | f :: a, g :: b, ha, hb, h => by
    have ha' := List.pairwise_cons.1 ha
    have hb' := List.pairwise_cons.1 hb
    have e : f = g := by
      rcases List.mem_cons.1 ((h f).1 List.mem_cons_self) with e | e
      · exact e
      · rcases List.mem_cons.1 ((h g).2 List.mem_cons_self) with e2 | e2
        · exact e2.symm
        · have h1 := hb'.1 f e
          have h2 := ha'.1 g e2
          rw [L0 h1] at h2; cases h2
    subst e
    congr 1
    refine res_eq ha'.2 hb'.2 fun x => ?_
    have hne : ∀ y ∈ a, y ≠ f := fun y hy e => by
      subst e; have := ha'.1 y hy; rw [Ma] at this; cases this
    have hne2 : ∀ y ∈ b, y ≠ f := fun y hy e => by
      subst e; have := hb'.1 y hy; rw [Ma] at this; cases this
    constructor
    · intro hx
      rcases List.mem_cons.1 ((h x).1 (List.mem_cons_of_mem _ hx)) with e | e
      · exact absurd e (hne x hx)
      · exact e
    · intro hx
      rcases List.mem_cons.1 ((h x).2 (List.mem_cons_of_mem _ hx)) with e | e
      · exact absurd e (hne2 x hx)
      · exact e
theorem mem_has {l : List File} (h : Gl l) {P : ByteArray} {L : List ByteArray} (hm : (⟨P, L⟩ : File) ∈ l) : ∃ hp : D5 l P < l.length, Gy l P = true ∧ l[D5 l P] = ⟨P, L⟩ := by
  obtain ⟨i, hi, e⟩ := List.getElem_of_mem hm
  have := pos_of h hi
  rw [e] at this
  simp only at this
  refine ⟨by omega, this.2, ?_⟩
  rw [← e]
  congr 1; exact this.1
theorem can_make {l : List File} (h : TrOk l) {c : TreeChange} (hc : OkCh c) {x : Option File} (hx : Can c l x) : (c.Kind = 1 ∧ (Hh c l).1 = 14) ∨ ((Hh c l).1 = 0 ∧ Res c.Path l x (Hh c l).2) := by
  rcases hx with ⟨k, h1, rfl⟩ | ⟨k, h1, rfl⟩ | ⟨k, L, h1, h2, rfl⟩ | ⟨k, L, h1, h2, rfl⟩
  · unfold Hh
    rw [if_pos k, Qu.2 h1, if_neg Bool.false_ne_true]
    by_cases h24 : 24 ≤ l.length
    · rw [if_pos h24]; exact .inl ⟨k, rfl⟩
    · rw [if_neg h24]
      refine .inr ⟨rfl, fun f => ?_⟩
      simp only
      rw [Qk]
      constructor
      · rintro (rfl | hf)
        · exact .inr rfl
        · exact .inl ⟨hf, fun e => by have := h1 f hf; rw [e, O9] at this; cases this⟩
      · rintro (hf | hf)
        · exact .inr hf.1
        · exact .inl (Option.some.inj hf)
  · right
    obtain ⟨hp, hh, e⟩ := mem_has h.srt h1
    unfold Hh
    rw [if_neg (by omega), hh, if_pos rfl, List.getElem?_eq_getElem hp]
    simp only
    rw [if_pos k, e, if_neg (by simp)]
    refine ⟨rfl, fun f => ?_⟩
    simp only
    rw [O8 h.srt hp, e]
    simp
  · right
    obtain ⟨hp, hh, e⟩ := mem_has h.srt h1
    have hr : Dr (l.eraseIdx (D5 l c.Path)) c.To = false := Qu.2 fun f hf => by
      rw [O8 h.srt hp, e] at hf
      exact h2 f hf.1 hf.2
    unfold Hh
    rw [if_neg (by omega), hh, if_pos rfl, List.getElem?_eq_getElem hp]
    simp only
    rw [if_neg (by omega), if_pos k, hr, if_neg Bool.false_ne_true]
    refine ⟨rfl, fun f => ?_⟩
    simp only
    rw [Qk, O8 h.srt hp, e]
    simp only [Option.some.injEq]
    exact Or.comm
  · right
    obtain ⟨hp, hh, e⟩ := mem_has h.srt h1
    unfold Hh
    rw [if_neg (by omega), hh, if_pos rfl, List.getElem?_eq_getElem hp]
    simp only
    rw [if_neg (by omega), if_neg (by omega), e]
    simp only
    rw [if_neg (fun hn => hn h2)]
    refine ⟨rfl, fun f => ?_⟩
    simp only
    rw [← ins_erase h.srt hp (x := ⟨c.Path, (Ko c.Patch L).1⟩) (by rw [e]), Qk, O8 h.srt hp, e]
    simp only [Option.some.injEq]
    exact Or.comm
theorem make_can {l : List File} (h : TrOk l) {c : TreeChange} (hc : OkCh c) (h0 : (Hh c l).1 = 0) : ∃ x, Can c l x ∧ Res c.Path l x (Hh c l).2 := by
  have key : ∃ x, Can c l x := by
    have hk := hc.kind
    unfold Hh at h0
    by_cases k1 : c.Kind = 1
    · rw [if_pos k1] at h0
      cases hr : Dr l c.Path
      · exact ⟨_, .inl ⟨k1, Qu.1 hr, rfl⟩⟩
      · rw [hr, if_pos rfl] at h0; simp at h0
    rw [if_neg k1] at h0
    cases hh : Gy l c.Path with
    | false => rw [hh] at h0; simp at h0
    | true =>
      obtain ⟨hp, he⟩ := Qm h.srt hh
      have hm : (⟨c.Path, l[D5 l c.Path].Lines⟩ : File) ∈ l := by
        have : (⟨c.Path, l[D5 l c.Path].Lines⟩ : File) = l[D5 l c.Path] := by
          generalize l[D5 l c.Path] = g at he
          obtain ⟨gp, gl⟩ := g
          simp only at he
          rw [he]
        rw [this]; exact List.getElem_mem hp
      rw [hh, if_pos rfl, List.getElem?_eq_getElem hp] at h0
      simp only at h0
      by_cases k2 : c.Kind = 2
      · rw [if_pos k2] at h0
        by_cases ht : l[D5 l c.Path].Lines = c.Lines
        · rw [ht] at hm; exact ⟨_, .inr (.inl ⟨k2, hm, rfl⟩)⟩
        · rw [if_pos ht] at h0; simp at h0
      rw [if_neg k2] at h0
      by_cases k3 : c.Kind = 3
      · rw [if_pos k3] at h0
        cases hr : Dr (l.eraseIdx (D5 l c.Path)) c.To
        · refine ⟨_, .inr (.inr (.inl ⟨k3, _, hm, fun f hf hne => ?_, rfl⟩))⟩
          refine Qu.1 hr f ?_
          rw [O8 h.srt hp, he]; exact ⟨hf, hne⟩
        · rw [hr, if_pos rfl] at h0; simp at h0
      · rw [if_neg k3] at h0
        by_cases ha : (Ko c.Patch l[D5 l c.Path].Lines).2.Code = 0
        · exact ⟨_, .inr (.inr (.inr ⟨by omega, _, hm, ha, rfl⟩))⟩
        · rw [if_pos ha] at h0; exact absurd h0 ha
  obtain ⟨x, hx⟩ := key
  rcases can_make h hc hx with ⟨_, e⟩ | ⟨_, e⟩
  · rw [h0] at e; cases e
  · exact ⟨x, hx, e⟩
theorem can_path {c : TreeChange} {l : List File} {y : File} (h : Can c l (some y)) : y.Path ∈ D7 c := by
  rcases h with ⟨k, _, e⟩ | ⟨k, _, e⟩ | ⟨k, L, _, _, e⟩ | ⟨k, L, _, _, e⟩
  · cases e; exact path_mem c
  · cases e
  · cases e; exact to_mem k
  · cases e; exact path_mem c
theorem sLt_not {a b : ByteArray} (h : sLt a b = false) : a = b ∨ sLt b a = true := by
  rcases sLt_tri a b with h1 | h1 | h1
  · rw [h1] at h; cases h
  · exact .inl h1
  · exact .inr h1
theorem sLt_not_trans {a b c : ByteArray} (h1 : sLt a b = false) (h2 : sLt b c = false) : sLt a c = false := by
  rcases sLt_not h1 with rfl | h1
  · exact h2
  rcases sLt_not h2 with rfl | h2
  · exact L0 h1
  · exact L0 (Nu h2 h1)
def SAsc (l : List ByteArray) : Prop := l.Pairwise fun x y => sLt x y = true
theorem sortS_pw (l : List ByteArray) : (Ni l).Pairwise fun x y => sLt y x = false := by
  have h := List.pairwise_mergeSort (le := fun x y => !sLt y x) (l := l)
    (fun a b c h1 h2 => by simp only [Bool.not_eq_true'] at h1 h2 ⊢; exact sLt_not_trans h2 h1)
    (fun a b => by
      cases h1 : sLt b a with
      | false => rfl
      | true => rw [L0 h1]; rfl)
  exact h.imp (fun {a b} hab => by simpa using hab)
theorem sortS_perm (l : List ByteArray) : (Ni l).Perm l := List.mergeSort_perm _ _
def sdq (p : ByteArray) : List ByteArray → List ByteArray
  | [] => []
  | y :: r => if y = p then sdq p r else y :: sdq y r
def sdd : List ByteArray → List ByteArray
  | [] => []
  | x :: r => x :: sdq x r
theorem sdq_snoc : ∀ (m : List ByteArray) (p y : ByteArray), sdq p (m ++ [y]) = if y = (m.getLast?).getD p then sdq p m else sdq p m ++ [y]
  | [], p, y => by
    by_cases h : y = p <;> simp [sdq, h]
  | x :: m, p, y => by
    rw [List.cons_append, sdq, sdq, sdq_snoc m, sdq_snoc m]
    have hl : ((x :: m).getLast?).getD p = (m.getLast?).getD x := by
      rw [List.getLast?_cons]
      cases m.getLast? <;> rfl
    rw [hl]
    by_cases h : x = p
    · rw [if_pos h, if_pos h, h]
    · rw [if_neg h, if_neg h]
      split <;> rfl
theorem sdd_snoc {m : List ByteArray} {x y : ByteArray} (hx : m.getLast? = some x) : sdd (m ++ [y]) = if y = x then sdd m else sdd m ++ [y] := by
  cases m with
  | nil => cases hx
  | cons z m =>
    rw [List.cons_append, sdd, sdd, sdq_snoc]
    rw [List.getLast?_cons] at hx
    have : (m.getLast?).getD z = x := by
      cases h : m.getLast? with
      | none => rw [h] at hx; cases hx; rfl
      | some w => rw [h] at hx; cases hx; rfl
    rw [this]
    split <;> rfl
theorem slast_at {l : List ByteArray} (h : 0 < l.length) : l.getLast? = some l[l.length - 1] := by
  rw [List.getLast?_eq_getElem?, List.getElem?_eq_getElem (by omega)]
theorem sdd_take {l : List ByteArray} {k : Nat} (h : k < l.length) (h0 : 0 < k) : sdd (l.take (k + 1)) = if l[k] = l[k - 1] then sdd (l.take k) else sdd (l.take k) ++ [l[k]] := by
  rw [List.take_succ_eq_append_getElem h]
  refine sdd_snoc ?_
  have hlen : (l.take k).length = k := by rw [List.length_take]; omega
  rw [slast_at (by omega), List.getElem_take]
  congr 2; omega
theorem sdd_none {l : List ByteArray} : ∀ k, k ≤ l.length → (∀ j (h : j < l.length), 0 < j → j < k → l[j] ≠ l[j - 1]) → sdd (l.take k) = l.take k
  | 0, _, _ => by rw [List.take_zero]; rfl
  | 1, h1, _ => by
    cases l with
    | nil => rfl
    | cons x l => simp [sdd, sdq]
  | k + 2, hk, h => by
    rw [sdd_take (by omega) (by omega), if_neg (h (k + 1) (by omega) (by omega) (by omega)), sdd_none (k + 1) (by omega) (fun j hj h1 h2 => h j hj h1 (by omega))]
    rw [← List.take_succ_eq_append_getElem]
def scG (l : List ByteArray) (k : Nat) (v : ByteArray) : Option (List ByteArray) := if 0 < k ∧ l[k - 1]? = some v then some (sdd l) else Option.none
theorem sc2_f {l : List ByteArray} (hl : l.length ≤ 100000) {k : Nat} (hk : k < l.length) (h0 : 0 < k) (hd : sdd (l.take (k + 1)) = l.take k) :
    ∃ r, De (fun s => Bk.l2 (k : Int) ((l.length : Int) - k) s.1 s.2.1 s.2.2) (1, (k : Int), l) = some r ∧ ∃ p : Nat, r.1 = p ∧ p ≤ r.2.length ∧ r.2.length = l.length ∧ r.2.take p = sdd l := by
  refine inv_loopE (f := fun s => Bk.l2 (k : Int) ((l.length : Int) - k) s.1 s.2.1 s.2.2) 1 (l.length - k) (by omega)
    (fun j t => t.2.length = l.length ∧ ∃ p : Nat, t.1 = p ∧ p ≤ k + j - 1 ∧ t.2.take p = sdd (l.take (k + j)) ∧ t.2.drop (k + j - 1) = l.drop (k + j - 1)) _ ?_ ?_ ((k : Int), l) ⟨rfl, k, rfl, by omega, hd.symm, rfl⟩
  · rintro j ⟨_, t⟩ hj1 hj ⟨ht, p, hp, hpk, htake, hdrop⟩
    simp only at ht hp htake hdrop
    subst hp
    left
    have hkj : k + j < l.length := by omega
    have g1 : t[k + j]'(by omega) = l[k + j] := by
      have h1 := List.getElem_drop (xs := t) (i := k + j - 1) (j := 1) (h := by rw [List.length_drop]; omega)
      have h2 := List.getElem_drop (xs := l) (i := k + j - 1) (j := 1) (h := by rw [List.length_drop]; omega)
      have e : k + j - 1 + 1 = k + j := by omega
      simp only [hdrop, e] at h1 h2
      rw [← h1, ← h2]
    have g2 : t[k + j - 1]'(by omega) = l[k + j - 1] := by
      have h1 := List.getElem_drop (xs := t) (i := k + j - 1) (j := 0) (h := by rw [List.length_drop]; omega)
      have h2 := List.getElem_drop (xs := l) (i := k + j - 1) (j := 0) (h := by rw [List.length_drop]; omega)
      simp only [hdrop, Nat.add_zero] at h1 h2
      rw [← h1, ← h2]
    have a1 : atA? t (k : Int) ((l.length : Int) - k) (j : Int) = some l[k + j] := by
      unfold atA?
      rw [if_pos (by omega), show ((k : Int) + (j : Int)) = ((k + j : Nat) : Int) by omega, Cv (by omega), g1]
    have a2 : atA? t (k : Int) ((l.length : Int) - k) ((j : Int) - 1) = some l[k + j - 1] := by
      unfold atA?
      rw [if_pos (by omega), show ((k : Int) + ((j : Int) - 1)) = ((k + j - 1 : Nat) : Int) by omega, Cv (by omega), g2]
    unfold Bk.l2
    simp only
    rw [Be, if_pos (by omega), a1, Option.bind_some, Ce (by omega) (by omega), Option.bind_some, a2, Option.bind_some, Kl]
    have hdd := sdd_take (l := l) (k := k + j) hkj (by omega)
    unfold Bk.j4
    by_cases hc : l[k + j] = l[k + j - 1]
    · rw [if_pos hc, Ce (by omega) (by omega), Option.bind_some]
      rw [if_pos hc] at hdd
      refine ⟨_, rfl, ht, p, rfl, by omega, ?_, ?_⟩
      · rw [show k + (j + 1) = k + j + 1 by omega, hdd]; exact htake
      · have e : k + (j + 1) - 1 = (k + j - 1) + 1 := by omega
        rw [e, ← List.drop_drop, ← List.drop_drop, hdrop]
    · rw [if_neg hc]
      rw [if_neg hc] at hdd
      simp only [Option.bind_some]
      rw [Cv (by omega), Option.bind_some, Ce (by omega) (by omega), Option.bind_some, Ce (by omega) (by omega), Option.bind_some, Int.toNat_natCast]
      refine ⟨_, rfl, by simpa using ht, p + 1, by omega, by omega, ?_, ?_⟩
      · rw [show k + (j + 1) = k + j + 1 by omega, hdd, ← htake]
        have hpl : p < t.length := by omega
        rw [List.take_succ_eq_append_getElem (by simpa using hpl), List.getElem_set_self, List.take_set_of_le (Nat.le_refl _)]
      · have e : k + (j + 1) - 1 = (k + j - 1) + 1 := by omega
        rw [e, List.drop_set_of_lt (by omega), ← List.drop_drop, ← List.drop_drop, hdrop]
  · rintro ⟨_, t⟩ ⟨ht, p, hp, hpk, htake, hdrop⟩
    simp only at ht hp htake hdrop
    subst hp
    unfold Bk.l2
    simp only
    rw [Be, if_neg (by omega)]
    refine ⟨_, rfl, p, rfl, ?_, ht, ?_⟩
    · simp only; omega
    · have e : k + (l.length - k) = l.length := by omega
      rw [e, List.take_length] at htake
      exact htake
theorem scompact_f {l : List ByteArray} (hl : l.length ≤ 100000) : Bk l = some (sdd l) := by
  unfold Bk
  rw [Be]
  by_cases h2 : l.length < 2
  · rw [if_pos (by omega)]
    congr 1
    match l, h2 with
    | [], _ => rfl
    | [x], _ => rfl
    | _ :: _ :: _, h => simp at h; omega
  rw [if_neg (by omega)]
  have hg : ∀ k (h : k < l.length), scG l k l[k] = if 0 < k ∧ l[k - 1] = l[k] then some (sdd l) else Option.none := by
    intro k h
    unfold scG
    rw [List.getElem?_eq_getElem (by omega)]
    simp only [Option.some.injEq]
  have hi := scn_iter (f := fun s => Bk.l1 l s) (dn := Sum.inl) (e := .inr ()) 1 l (scG l) ?_ ?_ (l.drop 1) 1 rfl (by omega) (Nat.le_refl _) (fun j hj h => by
    have : j = 0 := by omega
    subst this
    unfold scG
    rw [if_neg (by omega)])
  · rw [show ((1 : Nat) : Int) = 1 from rfl] at hi
    rw [hi, Option.bind_some]
    cases hs : scn (scG l) 1 (l.drop 1) with
    | some r =>
      obtain ⟨j, hj, he⟩ := scn_some hs
      unfold scG at he
      split at he
      · cases he; rfl
      · cases he
    | none =>
      show Bk.j1 l = _
      unfold Bk.j1
      have := sdd_none (l := l) l.length (Nat.le_refl _) (fun j hj h0 _ => by
        have := scn_none.1 hs (j - 1) (by rw [List.length_drop]; omega)
        rw [List.getElem_drop] at this
        have e : 1 + (j - 1) = j := by omega
        simp only [e] at this
        rw [hg j hj] at this
        split at this
        · cases this
        · rename_i hn
          exact fun h => hn ⟨h0, h.symm⟩)
      rw [List.take_length] at this
      rw [this]
  · intro k h hk0 hp
    rw [hg k h]
    · unfold Bk.l1
      rw [Be, if_pos (by omega), Cv h, Option.bind_some, Ce (by omega) (by omega), Option.bind_some, show ((k : Int) - 1) = ((k - 1 : Nat) : Int) by omega, Cv (by omega), Option.bind_some, Be]
      by_cases hc : l[k] = l[k - 1]
      · rw [if_pos hc, if_pos ⟨by omega, hc.symm⟩]
        have hd : sdd (l.take (k + 1)) = l.take k := by
          rw [sdd_take h (by omega), if_pos hc, sdd_none k (by omega)]
          intro j hj h0 hjk
          have := hp j hj hjk
          rw [hg j hj] at this
          split at this
          · cases this
          · rename_i hn
            exact fun h => hn ⟨h0, h.symm⟩
        obtain ⟨r, e, p, hr1, hpl, hlen, htk⟩ := sc2_f hl h (by omega) hd
        have e1 : als? l (k : Int) = some ((l.length : Int) - k) := by
          unfold als?; rw [if_pos (by omega)]
        rw [e1, Option.bind_some, e, Option.bind_some]
        unfold Bk.j3
        have e2 : als? r.2 r.1 = some ((r.2.length : Int) - p) := by
          unfold als?; rw [hr1, if_pos (by omega)]
        rw [e2, Option.bind_some]
        have e3 : clr? r.2 r.1 ((r.2.length : Int) - p) ByteArray.empty = some (r.2.take p ++ List.replicate ((r.2.length : Int) - p).toNat ByteArray.empty) := by
          unfold clr?; rw [hr1, if_pos (by omega), Int.toNat_natCast]
        rw [e3, Option.bind_some, hr1, Oq (by omega) (by omega) (by simp; omega), Option.bind_some]
        simp only [Int.toNat_natCast, Int.toNat_zero, List.drop_zero]
        rw [List.take_append_of_le_length (by simp; omega), List.take_take, Nat.min_self, htk]
      · rw [if_neg hc, if_neg (fun h => hc h.2.symm)]
        unfold Bk.j2
        rw [Ce (by omega) (by omega), Option.bind_some]; rfl
  · unfold Bk.l1
    rw [Be, if_neg (by omega)]
theorem sdq_spec : ∀ (l : List ByteArray) (p : ByteArray), (∀ y ∈ l, sLt y p = false) → l.Pairwise (fun x y => sLt y x = false) →
    (sdq p l).Pairwise (fun x y => sLt x y = true) ∧ (∀ z ∈ sdq p l, sLt p z = true) ∧ ∀ z, z ∈ sdq p l ↔ z ∈ l ∧ z ≠ p
  | [], p, _, _ => by simp [sdq]
  | y :: r, p, hge, hs => by
    rw [List.pairwise_cons] at hs
    rw [sdq]
    by_cases h : y = p
    · rw [if_pos h]
      obtain ⟨h1, h2, h3⟩ := sdq_spec r p (fun z hz => hge z (by simp [hz])) hs.2
      refine ⟨h1, h2, fun z => ?_⟩
      rw [h3, List.mem_cons]
      constructor
      · rintro ⟨a, b⟩; exact ⟨.inr a, b⟩
      · rintro ⟨rfl | a, b⟩
        · exact absurd h b
        · exact ⟨a, b⟩
    · rw [if_neg h]
      obtain ⟨h1, h2, h3⟩ := sdq_spec r y (fun z hz => hs.1 z hz) hs.2
      have hpy : sLt p y = true := by
        rcases sLt_not (hge y (by simp)) with h4 | h4
        · exact absurd h4 h
        · exact h4
      refine ⟨List.pairwise_cons.2 ⟨h2, h1⟩, ?_, fun z => ?_⟩
      · intro z hz
        rcases List.mem_cons.1 hz with rfl | hz
        · exact hpy
        · exact Nu hpy (h2 z hz)
      · rw [List.mem_cons, h3, List.mem_cons]
        constructor
        · rintro (rfl | ⟨a, b⟩)
          · exact ⟨.inl rfl, h⟩
          · refine ⟨.inr a, fun e => ?_⟩
            have h4 := h2 z ((h3 z).2 ⟨a, b⟩)
            rw [e, L0 hpy] at h4; cases h4
        · rintro ⟨rfl | a, b⟩
          · exact .inl rfl
          · by_cases e : z = y
            · exact .inl e
            · exact .inr ⟨a, e⟩
theorem sdd_spec {l : List ByteArray} (hs : l.Pairwise (fun x y => sLt y x = false)) : SAsc (sdd l) ∧ ∀ z, z ∈ sdd l ↔ z ∈ l := by
  cases l with
  | nil => simp [sdd, SAsc]
  | cons x r =>
    rw [List.pairwise_cons] at hs
    obtain ⟨h1, h2, h3⟩ := sdq_spec r x hs.1 hs.2
    rw [sdd]
    refine ⟨List.pairwise_cons.2 ⟨h2, h1⟩, fun z => ?_⟩
    rw [List.mem_cons, h3, List.mem_cons]
    constructor
    · rintro (rfl | ⟨a, _⟩)
      · exact .inl rfl
      · exact .inr a
    · rintro (rfl | a)
      · exact .inl rfl
      · by_cases e : z = x
        · exact .inl e
        · exact .inr ⟨a, e⟩
theorem sdq_len : ∀ (l : List ByteArray) (p : ByteArray), (sdq p l).length ≤ l.length
  | [], _ => Nat.le_refl _
  | y :: r, p => by
    rw [sdq]
    split
    · have := sdq_len r p; simp only [List.length_cons]; omega
    · have := sdq_len r y; simp only [List.length_cons]; omega
theorem sdd_len (l : List ByteArray) : (sdd l).length ≤ l.length := by
  cases l with
  | nil => exact Nat.le_refl _
  | cons x r => have := sdq_len r x; simp only [sdd, List.length_cons]; omega
def ksort (l : List ByteArray) : List ByteArray := sdd (Ni l)
theorem ksort_asc (l : List ByteArray) : SAsc (ksort l) := (sdd_spec (sortS_pw l)).1
theorem ksort_mem (l : List ByteArray) (z : ByteArray) : z ∈ ksort l ↔ z ∈ l := by
  unfold ksort
  rw [(sdd_spec (sortS_pw l)).2, (sortS_perm l).mem_iff]
theorem ksort_len (l : List ByteArray) : (ksort l).length ≤ l.length := by
  have := sdd_len (Ni l)
  rw [(sortS_perm l).length_eq] at this
  exact this
end Go.Dc
