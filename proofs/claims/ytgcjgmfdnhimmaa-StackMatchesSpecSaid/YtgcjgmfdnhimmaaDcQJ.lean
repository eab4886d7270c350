/- A moved stack does the same; a dropped patch, applied last, undoes the drop. -/
import Derived.Test.YtgcjgmfdnhimmaaDcQI
set_option linter.unusedSimpArgs false
set_option linter.unusedVariables false
namespace Go.Dc
open Go

def Runs : List Patch → List ByteArray → List ByteArray → Prop
  | [], t, u => t = u
  | p :: r, t, u => Fits t p.Hunks ∧ Runs r (rawS p.Hunks t 0) u
theorem runs_append : ∀ (a b : List Patch) (t u : List ByteArray), Runs (a ++ b) t u ↔ ∃ v, Runs a t v ∧ Runs b v u
  | [], b, t, u => ⟨fun h => ⟨t, rfl, h⟩, fun ⟨v, h1, h2⟩ => by cases h1; exact h2⟩
  | p :: r, b, t, u => by
    rw [List.cons_append, Runs, runs_append r b]
    exact ⟨fun ⟨h1, v, h2, h3⟩ => ⟨v, ⟨h1, h2⟩, h3⟩, fun ⟨v, ⟨h1, h2⟩, h3⟩ => ⟨h1, v, h2, h3⟩⟩

theorem stepAt_runs {l l1 : List Patch} {a : Nat} (h : a + 1 < l.length) (hs : stepAt l a = .inr l1) {t u : List ByteArray} (hr : Runs l t u) : Runs l1 t u := by
  obtain ⟨pre, p, q, post, rfl, rfl⟩ := split_two h
  obtain ⟨c1, c2, rfl⟩ := stepAt_inr hs
  obtain ⟨v, v1, v2⟩ := (runs_append _ _ _ _).1 hr
  obtain ⟨f1, f2, f3⟩ := v2
  obtain ⟨e1, e2, e3⟩ := commF_effect c1 c2 v f1 f2
  refine (runs_append _ _ _ _).2 ⟨v, v1, e1, e2, ?_⟩
  rw [e3]; exact f3

theorem upF_runs : ∀ (n : Nat) (l l' : List Patch) (a : Nat), GoodS l → a + n < l.length → upF n l a = .inr l' → ∀ {t u : List ByteArray}, Runs l t u → Runs l' t u
  | 0, l, l', a, _, _, h, _, _, hr => by cases h; exact hr
  | n + 1, l, l', a, hg, hn, h, _, _, hr => by
    rw [upF] at h
    cases hs : stepAt l a with
    | inl r => rw [hs] at h; cases h
    | inr l1 =>
      rw [hs] at h
      obtain ⟨g1, g2⟩ := stepAt_good hg (by omega) hs
      exact upF_runs n l1 l' (a + 1) g1 (by omega) h (stepAt_runs (by omega) hs hr)
theorem downF_runs : ∀ (n : Nat) (l l' : List Patch) (b : Nat), GoodS l → b + n < l.length → downF n l (b + n) = .inr l' → ∀ {t u : List ByteArray}, Runs l t u → Runs l' t u
  | 0, l, l', b, _, _, h, _, _, hr => by cases h; exact hr
  | n + 1, l, l', b, hg, hn, h, _, _, hr => by
    rw [downF, show b + (n + 1) - 1 = b + n by omega] at h
    cases hs : stepAt l (b + n) with
    | inl r => rw [hs] at h; cases h
    | inr l1 =>
      rw [hs] at h
      obtain ⟨g1, g2⟩ := stepAt_good hg (by omega) hs
      exact downF_runs n l1 l' b g1 (by omega) h (stepAt_runs (by omega) hs hr)
theorem moveS_runs {l l' : List Patch} (hg : GoodS l) {a b : Nat} (ha : a < l.length) (hb : b < l.length) (h : moveS l a b = .inr l') {t u : List ByteArray} (hr : Runs l t u) : Runs l' t u := by
  unfold moveS at h
  split at h
  · exact upF_runs (b - a) l l' a hg (by omega) h hr
  · have := @downF_runs (a - b) l l' b hg (by omega)
    rw [show b + (a - b) = a by omega] at this
    exact this h hr

/-! ## with the limits -/
def Lines (t : List ByteArray) : Prop := ∀ s ∈ t, OkLine s
theorem lines_of {t : List ByteArray} (h : (textFault t).Code = 0) : Lines t := ((okText_iff t).2 ((textFault_zero t).2 h)).2
theorem textFault_of {t : List ByteArray} (h1 : Lines t) (h2 : t.length ≤ 120) : (textFault t).Code = 0 := (textFault_zero t).1 ((okText_iff t).1 ⟨h2, h1⟩)
theorem rawS_lines : ∀ (hs : List Hunk) (t : List ByteArray) (b : Nat), Lines t → (∀ h ∈ hs, Lines h.New) → Lines (rawS hs t b)
  | [], t, b, ht, _ => fun s hs => ht s (List.mem_of_mem_drop hs)
  | h :: r, t, b, ht, hn => by
    intro s hs
    rw [rawS] at hs
    rcases List.mem_append.1 hs with hs | hs
    · exact ht s (List.mem_of_mem_drop (List.mem_of_mem_take hs))
    · rcases List.mem_append.1 hs with hs | hs
      · exact hn h (by simp) s hs
      · exact rawS_lines r t _ ht (fun x hx => hn x (List.mem_cons_of_mem _ hx)) s hs
theorem raw_lines {p : Patch} (hp : (patchFault p).Code = 0) {t : List ByteArray} (ht : Lines t) : Lines (rawS p.Hunks t 0) :=
  rawS_lines _ _ _ ht fun h hh => lines_of (good_at ((patchFault_good p).1 hp).2 (by omega) h hh).2.2.2.1

theorem applyF_of {p : Patch} (hp : (patchFault p).Code = 0) {t : List ByteArray} (h1 : Lines t) (h2 : t.length ≤ 120) (hf : Fits t p.Hunks) : applyF p t = if (rawS p.Hunks t 0).length > 120 then ([], ⟨10, -1⟩) else (rawS p.Hunks t 0, ⟨0, 0⟩) := by
  unfold applyF
  rw [if_neg (by omega), if_neg (by rw [textFault_of h1 h2]; simp), (oscan_fits t p.Hunks 0).2 hf]

theorem ascan_ok : ∀ (l : List Patch) (i : Int) (t : List ByteArray), (ascan i l t).2.Code = 0 → Runs l t (ascan i l t).1 ∧ ascan i l t = ((ascan i l t).1, ⟨0, 0⟩) ∧ (t.length ≤ 120 → (ascan i l t).1.length ≤ 120) ∧ (Lines t → Lines (ascan i l t).1)
  | [], i, t, _ => ⟨rfl, rfl, fun h => h, fun h => h⟩
  | p :: r, i, t, h => by
    rw [ascan] at h ⊢
    by_cases hc : (applyF p t).2.Code ≠ 0
    · rw [if_pos hc] at h; exact absurd h hc
    · rw [if_neg hc] at h ⊢
      obtain ⟨a1, a2, a3, a4, a5, a6⟩ := applyF_ok (p := p) (text := t) (by omega)
      have hpf : (patchFault p).Code = 0 := (patchFault_good p).2 ⟨a1, a2⟩
      rw [a6] at h ⊢
      obtain ⟨b1, b2, b3, b4⟩ := ascan_ok r (i + 1) _ h
      exact ⟨⟨a4, b1⟩, b2, fun _ => b3 a5, fun hl => b4 (raw_lines hpf hl)⟩

theorem ascan_of : ∀ (l : List Patch) (i : Int) (t u : List ByteArray), (∀ p ∈ l, (patchFault p).Code = 0) → Lines t → t.length ≤ 120 → Runs l t u → ascan i l t = (u, ⟨0, 0⟩) ∨ (ascan i l t).2.Code = 10
  | [], i, t, u, _, _, _, hr => by cases hr; left; rfl
  | p :: r, i, t, u, hg, h1, h2, hr => by
    have hp := hg p (by simp)
    rw [ascan, applyF_of hp h1 h2 hr.1]
    by_cases hc : (rawS p.Hunks t 0).length > 120
    · rw [if_pos hc]; right; rfl
    · rw [if_neg hc, if_neg (by simp)]
      exact ascan_of r (i + 1) _ u (fun x hx => hg x (List.mem_cons_of_mem _ hx)) (raw_lines hp h1) (by simp only; omega) hr.2

theorem applyS_ok {base : List ByteArray} {l : List Patch} (h : (applyS base l).2.Code = 0) : GoodS l ∧ Lines base ∧ base.length ≤ 120 ∧ Runs l base (applyS base l).1 ∧ (applyS base l).1.length ≤ 120 ∧ Lines (applyS base l).1 ∧ applyS base l = ((applyS base l).1, ⟨0, 0⟩) := by
  unfold applyS at h ⊢
  by_cases h0 : (stackFault l).Code ≠ 0
  · rw [if_pos h0] at h; exact absurd h h0
  · rw [if_neg h0] at h ⊢
    by_cases h1 : (textFault base).Code ≠ 0
    · rw [if_pos h1] at h; exact absurd h h1
    · rw [if_neg h1] at h ⊢
      have hl := textFault_len (l := base) (by omega)
      have hli := lines_of (t := base) (by omega)
      obtain ⟨b1, b2, b3, b4⟩ := ascan_ok l 0 base h
      exact ⟨(stackFault_zero l).1 (by omega), hli, hl, b1, b3 hl, b4 hli, b2⟩
theorem applyS_of {base : List ByteArray} {l : List Patch} (hg : GoodS l) (h1 : Lines base) (h2 : base.length ≤ 120) {u : List ByteArray} (hr : Runs l base u) : applyS base l = (u, ⟨0, 0⟩) ∨ (applyS base l).2.Code = 10 := by
  unfold applyS
  rw [if_neg (by rw [(stackFault_zero l).2 hg]; simp), if_neg (by rw [textFault_of h1 h2]; simp)]
  exact ascan_of l 0 base u hg.2 h1 h2 hr

theorem same_effect (base : List ByteArray) (l : List Patch) (a b : Int) : changeforgelaw2_StackMoveSameEffect base l a b = some true := by
  unfold changeforgelaw2_StackMoveSameEffect
  rw [Move_f, Option.bind_some, sapply_f, Option.bind_some, ite_ndec]
  by_cases h1 : (moveTop l a b).2.2.Code = 0
  · rw [if_pos h1, Option.bind_some]
    by_cases h2 : (applyS base l).2.Code = 0
    · rw [decide_eq_true h2]
      cases h3 : (moveTop l a b).2.1 with
      | false => simp only [Bool.not_true, Bool.false_eq_true, if_false, Bool.not_false, Option.bind_some, if_true, dropped_f]
      | true =>
        obtain ⟨hg, a1, a2, b1, b2, l', e1, e2, e3, e4⟩ := moveTop_ok h1 h3
        obtain ⟨s1, s2, s3, s4, s5, s6, s7⟩ := applyS_ok h2
        rw [e2]
        simp only [Bool.not_true, Bool.false_eq_true, if_false, Option.bind_some, sapply_f]
        rcases applyS_of e3 s2 s3 (moveS_runs hg (by omega) (by omega) e1 s4) with hr | hr
        · rw [hr]
          simp only [show decide ((0 : Int) = 10) = false from rfl, Bool.false_eq_true, if_false, decide_true, if_true, strings_eq _ _ (show (applyS base l).1.length ≤ 1000000 by omega), Option.bind_some, dropped_f]
        · rw [decide_eq_true hr, if_pos rfl, dropped_f]; rfl
    · rw [decide_eq_false h2]
      simp only [Bool.not_false, Option.bind_some, if_true, dropped_f]
  · rw [if_neg h1]
    simp only [Option.bind_some, if_true, dropped_f]

theorem drop_undone (base : List ByteArray) (l : List Patch) (i : Int) (hb : l.length ≤ 9223372036854775807) : changeforgelaw2_StackDropUndone base l i = some true := by
  unfold changeforgelaw2_StackDropUndone
  rw [Drop_f, Option.bind_some, ck_eq (by omega) (by omega), Option.bind_some, Move_f, Option.bind_some, sapply_f, Option.bind_some]
  by_cases h1 : (moveTop l i ((l.length : Int) - 1)).2.2.Code = 0 ∧ (moveTop l i ((l.length : Int) - 1)).2.1 = true ∧ (applyS base l).2.Code = 0
  · obtain ⟨h1, h2, h3⟩ := h1
    obtain ⟨hg, a1, a2, b1, b2, l', e1, e2, e3, e4⟩ := moveTop_ok h1 h2
    obtain ⟨s1, s2, s3, s4, s5, s6, s7⟩ := applyS_ok h3
    have hm : moveF l i.toNat (l.length - 1) = (l', true, ⟨0, 0⟩) := by
      unfold moveF
      rw [show ((l.length : Int) - 1).toNat = l.length - 1 by omega] at e1
      rw [e1]; rfl
    have hd : dropTop l i = (l'.take (l.length - 1), true, ⟨0, 0⟩) := by
      unfold dropTop
      rw [if_neg (by rw [(stackFault_zero l).2 hg]; simp), if_neg (by omega), hm, if_neg (by simp)]
    have hlast : l.length - 1 < l'.length := by omega
    rw [e2, hd]
    have hrun := moveS_runs hg (by omega) (by omega) e1 s4
    have hsp : l' = l'.take (l.length - 1) ++ [l'[l.length - 1]] := by
      rw [List.take_append_getElem hlast, List.take_of_length_le (by omega)]
    rw [hsp] at hrun
    obtain ⟨v, v1, v2⟩ := (runs_append _ _ _ _).1 hrun
    obtain ⟨f1, f2⟩ := v2
    have f2 : rawS l'[l.length - 1].Hunks v 0 = (applyS base l).1 := f2
    simp only [decide_true, Bool.not_true, Bool.false_eq_true, if_false, Option.bind_some, decide_eq_true h3]
    rw [decide_eq_false (show ¬ ((l'.length : Int) = 0) by omega), if_neg (by decide), sapply_f, Option.bind_some]
    rcases applyS_of (goodS_take e3 _) s2 s3 v1 with hr | hr
    · rw [hr]
      simp only [decide_true, Bool.not_true, Bool.false_eq_true, if_false]
      obtain ⟨_, _, _, _, t5, t6, _⟩ := applyS_ok (base := base) (l := l'.take (l.length - 1)) (by rw [hr])
      rw [hr] at t5 t6
      have hp := e3.2 _ (List.getElem_mem hlast)
      have ha : applyF l'[l.length - 1] v = ((applyS base l).1, ⟨0, 0⟩) := by rw [applyF_of hp t6 t5 f1, f2, if_neg (by omega)]
      rw [ck_eq (by omega) (by omega), Option.bind_some, show (l'.length : Int) - 1 = ((l.length - 1 : Nat) : Int) by omega, at_nat hlast, Option.bind_some, apply_f, ha, Option.bind_some]
      simp only [decide_true, if_true, strings_eq _ _ (show (applyS base l).1.length ≤ 1000000 by omega), Option.bind_some, dropped_f]
    · rw [decide_eq_false (by rw [hr]; decide), if_pos (by decide), decide_eq_true hr, if_pos rfl, dropped_f]; rfl
  · -- one of the answers is no
    have key : ∀ (c1 c2 c3 o1 o2 n0 : Bool) (f : Option Bool → Option Bool) (els : Option Bool), (c2 = false ∨ c3 = false ∨ o2 = false) →
        ((if (!c1) = true then some true else some (!c2)).bind fun x1 => (if x1 = true then some true else some (!c3)).bind fun x2 => (if x2 = true then some true else some (!o1)).bind fun x3 => (if x3 = true then some true else some (!o2)).bind fun x4 => (if x4 = true then some true else some n0).bind fun x5 => if x5 = true then f (some true) else els) = f (some true) := by
      intro c1 c2 c3 o1 o2 n0 f els h
      cases c1 <;> cases c2 <;> cases c3 <;> cases o1 <;> cases o2 <;> cases n0 <;> simp at h <;> rfl
    refine (key (decide ((dropTop l i).2.2.Code = 0)) (decide ((moveTop l i ((l.length : Int) - 1)).2.2.Code = 0)) (decide ((applyS base l).2.Code = 0)) (dropTop l i).2.1 (moveTop l i ((l.length : Int) - 1)).2.1 (decide (((moveTop l i ((l.length : Int) - 1)).1.length : Int) = 0)) (fun _ => changeforgelaw2_dropped.bind fun y4 => some y4) _ ?_).trans (by simp only [dropped_f, Option.bind_some])
    by_cases g1 : (moveTop l i ((l.length : Int) - 1)).2.2.Code = 0
    · by_cases g2 : (applyS base l).2.Code = 0
      · right; right
        cases g3 : (moveTop l i ((l.length : Int) - 1)).2.1 with
        | false => rfl
        | true => exact absurd ⟨g1, g3, g2⟩ h1
      · right; left; exact decide_eq_false g2
    · left; exact decide_eq_false g1
end Go.Dc
