/- merge3: merging with what has not changed, or with the same. -/
import Derived.Test.YthpkobkngplbbaaDoorDcJB
set_option linter.unusedSimpArgs false
set_option linter.unusedVariables false
set_option maxRecDepth 4000
namespace Go.Dc
open Go

theorem script_raw {a b : List ByteArray} (ha : OkText a) (hb : OkText b) : rawS (script a b) a 0 = b := by
  have h0 : ScI a b ([], 0, false) 0 0 := ⟨rfl, Nat.le_refl _, by simp [preS, endS], fun h => by simp at h, fun _ => .inl rfl, trivial, fun h hh => by cases hh⟩
  have h := scr_ok _ 0 0 _ rfl (Nat.zero_le _) (Nat.zero_le _) h0
  rw [List.drop_zero, List.drop_zero] at h
  show rawS (script a b) a 0 = b
  rw [rawS_pre]
  have ht := h.txt
  have hl := h.low
  rw [List.take_length, List.take_of_length_le (by simp)] at ht
  exact ht

theorem take_split {t : List ByteArray} {lo mid hi : Nat} (h1 : lo ≤ mid) (h2 : mid ≤ hi) : (t.drop lo).take (hi - lo) = (t.drop lo).take (mid - lo) ++ (t.drop mid).take (hi - mid) := by
  have e : hi - lo = (mid - lo) + (hi - mid) := by omega
  rw [e, List.take_add, List.drop_drop]
  congr 3; omega

theorem drop_split {t : List ByteArray} {lo mid : Nat} (h1 : lo ≤ mid) : t.drop lo = (t.drop lo).take (mid - lo) ++ t.drop mid := by
  have := (List.take_append_drop (mid - lo) (t.drop lo)).symm
  rw [List.drop_drop] at this
  rw [show lo + (mid - lo) = mid from by omega] at this
  exact this

theorem rawS_split {t : List ByteArray} {P : List Hunk} {lo mid : Nat} (h1 : lo ≤ mid) (h2 : ∀ h ∈ P, (mid : Int) ≤ h.At) : rawS P t lo = (t.drop lo).take (mid - lo) ++ rawS P t mid := by
  cases P with
  | nil => rw [rawS, rawS]; exact drop_split h1
  | cons h r =>
    have := h2 h List.mem_cons_self
    rw [rawS, rawS, take_split h1 (show mid ≤ h.At.toNat by omega), List.append_assoc]

def catT (t : List ByteArray) (P : List Hunk) : List RX → Nat → List ByteArray
  | [], at_ => t.drop at_
  | r :: R, at_ => (t.drop at_).take (r.Low.toNat - at_) ++ (AA t P r ++ catT t P R r.High.toNat)

theorem chn_lt : ∀ {P : List Hunk} {e : Int}, Chn e P → (∀ h ∈ P, 0 ≤ h.At) → ∀ h ∈ P, e < h.At
  | [], _, _, _, h, hh => by cases hh
  | x :: P, e, hc, hp, h, hh => by
    obtain ⟨c1, c2⟩ := hc
    rcases List.mem_cons.1 hh with rfl | hh
    · exact c1
    · have := chn_lt c2 (fun y hy => hp y (List.mem_cons_of_mem _ hy)) h hh
      omega

theorem chn_filter {p : Hunk → Bool} : ∀ {P : List Hunk} {e : Int}, Chn e P → Chn e (P.filter p)
  | [], _, _ => trivial
  | x :: P, e, hc => by
    obtain ⟨c1, c2⟩ := hc
    rw [List.filter_cons]
    have := chn_filter (p := p) c2
    cases p x
    · rw [if_neg Bool.false_ne_true]
      have mono : ∀ {Q : List Hunk} {e e' : Int}, e' ≤ e → Chn e Q → Chn e' Q := by
        intro Q e e' hle h
        cases Q with
        | nil => trivial
        | cons y Q => exact ⟨by have := h.1; omega, h.2⟩
      exact mono (by omega) this
    · rw [if_pos rfl]; exact ⟨c1, this⟩

/-- what lies in the first region, and what lies behind it -/
theorem rawS_region {t : List ByteArray} {r : RX} (h0 : 0 ≤ r.High) : ∀ (P : List Hunk) (e : Int) (lo : Nat), Chn e P → (∀ h ∈ P, 0 ≤ h.At) → (∀ h ∈ P, inB r h = true ∨ r.High < h.At) → (lo : Int) ≤ r.High →
    rawS P t lo = rawIn t (wi P r) lo r.High.toNat ++ rawS (P.filter fun h => !inB r h) t r.High.toNat
  | [], e, lo, _, _, _, hlo => by
    show t.drop lo = (t.drop lo).take (r.High.toNat - lo) ++ t.drop r.High.toNat
    exact drop_split (by omega)
  | h :: P, e, lo, hc, hp, hr, hlo => by
    obtain ⟨c1, c2⟩ := hc
    have hp' : ∀ x ∈ P, 0 ≤ x.At := fun x hx => hp x (List.mem_cons_of_mem _ hx)
    have hp0 := hp h List.mem_cons_self
    cases hb : inB r h
    · have hgt : r.High < h.At := by
        rcases hr h List.mem_cons_self with h1 | h1
        · rw [hb] at h1; cases h1
        · exact h1
      have hno : ∀ x ∈ h :: P, inB r x = false := by
        intro x hx
        rcases List.mem_cons.1 hx with rfl | hx
        · exact hb
        · have := chn_lt c2 hp' x hx
          unfold inB
          rw [show decide (x.At + (x.Old.length : Int) ≤ r.High) = false from decide_eq_false (by omega), Bool.and_false]
      have e1 : wi (h :: P) r = [] := by
        unfold wi
        rw [List.filter_eq_nil_iff]
        intro x hx; rw [hno x hx]; simp
      have e2 : (h :: P).filter (fun x => !inB r x) = h :: P := List.filter_eq_self.2 fun x hx => by rw [hno x hx]; rfl
      rw [e1, e2, rawIn]
      refine rawS_split (by omega) fun x hx => ?_
      rcases List.mem_cons.1 hx with rfl | hx
      · omega
      · have := chn_lt c2 hp' x hx; omega
    · have hb2 := hb
      unfold inB at hb2
      simp only [Bool.and_eq_true, decide_eq_true_eq] at hb2
      have e1 : wi (h :: P) r = h :: wi P r := by unfold wi; rw [List.filter_cons, if_pos hb]
      have e2 : (h :: P).filter (fun x => !inB r x) = P.filter fun x => !inB r x := by rw [List.filter_cons, hb]; rfl
      rw [e1, e2, rawS, rawIn, rawS_region h0 P _ (h.At.toNat + h.Old.length) c2 hp' (fun x hx => hr x (List.mem_cons_of_mem _ hx)) (by omega)]
      simp only [List.append_assoc]

theorem catT_raw {t : List ByteArray} : ∀ (R : List RX) (at_ : Nat) (P : List Hunk) (e : Int), R.Pairwise (fun a b => a.High < b.Low) → (∀ r ∈ R, (at_ : Int) ≤ r.Low ∧ r.Low ≤ r.High) → Chn e P → (∀ h ∈ P, 0 ≤ h.At) →
    (∀ h ∈ P, ∃ r ∈ R, r.Low ≤ h.At ∧ h.At + h.Old.length ≤ r.High) → catT t P R at_ = rawS P t at_
  | [], at_, P, e, _, _, _, _, hcov => by
    cases P with
    | nil => rfl
    | cons h P => obtain ⟨r, hr, _⟩ := hcov h List.mem_cons_self; cases hr
  | r :: R, at_, P, e, hsep, hbd, hc, hp, hcov => by
    rw [List.pairwise_cons] at hsep
    obtain ⟨b1, b2⟩ := hbd r List.mem_cons_self
    have hin : ∀ h ∈ P, inB r h = true ∨ r.High < h.At := by
      intro h hh
      obtain ⟨x, hx, h1, h2⟩ := hcov h hh
      rcases List.mem_cons.1 hx with rfl | hx
      · left; unfold inB; simp [h1, h2]
      · right; have := hsep.1 x hx; omega
    have hlow : ∀ h ∈ P, ((r.Low.toNat : Nat) : Int) ≤ h.At := by
      intro h hh
      obtain ⟨x, hx, h1, h2⟩ := hcov h hh
      rcases List.mem_cons.1 hx with rfl | hx
      · omega
      · have := hsep.1 x hx; omega
    have hrest : catT t P R r.High.toNat = catT t (P.filter fun h => !inB r h) R r.High.toNat := by
      have hw : ∀ x ∈ R, AA t P x = AA t (P.filter fun h => !inB r h) x := by
        intro x hx
        have := hsep.1 x hx
        unfold AA
        congr 1
        unfold wi
        rw [List.filter_filter]
        refine List.filter_congr fun h hh => ?_
        cases hb : inB x h
        · rfl
        · unfold inB at hb
          simp only [Bool.and_eq_true, decide_eq_true_eq] at hb
          have : inB r h = false := by
            unfold inB
            rw [show decide (h.At + (h.Old.length : Int) ≤ r.High) = false from decide_eq_false (by omega), Bool.and_false]
          rw [this]; rfl
      have cg : ∀ (R' : List RX) (a : Nat), (∀ x ∈ R', AA t P x = AA t (P.filter fun h => !inB r h) x) → catT t P R' a = catT t (P.filter fun h => !inB r h) R' a := by
        intro R'
        induction R' with
        | nil => intro a _; rfl
        | cons x R' ih => intro a h; rw [catT, catT, h x List.mem_cons_self, ih _ fun y hy => h y (List.mem_cons_of_mem _ hy)]
      exact cg R _ hw
    have ih := catT_raw (t := t) R r.High.toNat (P.filter fun h => !inB r h) e hsep.2 (fun x hx => ⟨by have := hsep.1 x hx; omega, (hbd x (List.mem_cons_of_mem _ hx)).2⟩) (chn_filter hc) (fun h hh => hp h (List.mem_filter.1 hh).1) (fun h hh => by
      obtain ⟨hh1, hh2⟩ := List.mem_filter.1 hh
      obtain ⟨x, hx, h1, h2⟩ := hcov h hh1
      rcases List.mem_cons.1 hx with rfl | hx
      · have : inB x h = true := by unfold inB; simp [h1, h2]
        rw [this] at hh2; cases hh2
      · exact ⟨x, hx, h1, h2⟩)
    rw [catT, hrest, ih, rawS_split (t := t) (P := P) (lo := at_) (mid := r.Low.toNat) (by omega) hlow, rawS_region (by omega) P e r.Low.toNat hc hp hin (by omega)]
    rfl

end Go.Dc
