/- Equal patches, applying a stack, the standing example; the law that the program's moves are the document's. -/
import Derived.Test.YtgcjgmfdnhimmaaDcQF
set_option linter.unusedSimpArgs false
namespace Go.Dc
open Go

theorem patch_refl {B : Int} (p : Patch) (hp : Sm B p.Hunks) : changeforgeequal_Patch p p = some true := by
  obtain ⟨hl, hs⟩ := hp
  unfold changeforgeequal_Patch
  rw [ite_ndec, if_pos rfl]
  have key : ∀ (rest : List Hunk) (k : Nat), p.Hunks.drop k = rest → iter (fun s => changeforgeequal_Patch.l1 p p s) (k : Int) = some (.inr ()) := by
    intro rest
    induction rest with
    | nil =>
      intro k hk
      have := drop_end hk
      refine iter_done ?_
      unfold changeforgeequal_Patch.l1
      rw [ite_dec, if_neg (by omega)]
    | cons h r ih =>
      intro k hk
      obtain ⟨hlt, hh, hr⟩ := drop_at hk
      obtain ⟨b1, b2, b3, b4⟩ := hs h (hh ▸ List.getElem_mem hlt)
      have e0 : changeforgeequal_Patch.l1 p p (k : Int) = some (.next ((k + 1 : Nat) : Int)) := by
        unfold changeforgeequal_Patch.l1
        rw [ite_dec, if_pos (by omega)]
        simp only [at_nat hlt, Option.bind_some, hh, strings_eq h.Old h.Old (by omega), strings_eq h.New h.New (by omega), decide_true, Bool.not_true, Bool.false_eq_true, if_false]
        rw [ck_eq (by omega) (by omega)]; rfl
      rw [iter_next e0, ih (k + 1) hr]
  rw [show (0 : Int) = ((0 : Nat) : Int) from rfl, key p.Hunks 0 rfl]
  rfl

theorem patches_refl {l : List Patch} (hg : GoodS l) : changeforgeequal_Patches l l = some true := by
  unfold changeforgeequal_Patches
  rw [ite_ndec, if_pos rfl]
  have h12 := hg.1
  have key : ∀ (rest : List Patch) (k : Nat), l.drop k = rest → iter (fun s => changeforgeequal_Patches.l1 l l s) (k : Int) = some (.inr ()) := by
    intro rest
    induction rest with
    | nil =>
      intro k hk
      have := drop_end hk
      refine iter_done ?_
      unfold changeforgeequal_Patches.l1
      rw [ite_dec, if_neg (by omega)]
    | cons p r ih =>
      intro k hk
      obtain ⟨hlt, hh, hr⟩ := drop_at hk
      have e0 : changeforgeequal_Patches.l1 l l (k : Int) = some (.next ((k + 1 : Nat) : Int)) := by
        unfold changeforgeequal_Patches.l1
        rw [ite_dec, if_pos (by omega), at_nat hlt, Option.bind_some, Option.bind_some, hh, patch_refl p (sm_of (hg.2 p (hh ▸ List.getElem_mem hlt))), Option.bind_some, if_neg (by decide), ck_eq (by omega) (by omega)]; rfl
      rw [iter_next e0, ih (k + 1) hr]
  rw [show (0 : Int) = ((0 : Nat) : Int) from rfl, key l 0 rfl]
  rfl

theorem goodS_nil : GoodS [] := ⟨by simp, by simp⟩
theorem goodS_take {l : List Patch} (h : GoodS l) (k : Nat) : GoodS (l.take k) := ⟨by have := h.1; simp; omega, fun p hp => h.2 p (List.mem_of_mem_take hp)⟩

theorem moveTop_good (l : List Patch) (a b : Int) : GoodS (moveTop l a b).1 := by
  unfold moveTop
  by_cases h0 : (stackFault l).Code ≠ 0
  · rw [if_pos h0]; exact goodS_nil
  · rw [if_neg h0]
    have hg := (stackFault_zero l).1 (by omega)
    by_cases h1 : a < 0 ∨ a ≥ l.length
    · rw [if_pos h1]; exact goodS_nil
    · rw [if_neg h1]
      by_cases h2 : b < 0 ∨ b ≥ l.length
      · rw [if_pos h2]; exact goodS_nil
      · rw [if_neg h2]
        rcases moveF_cases hg (a := a.toNat) (b := b.toNat) (by omega) (by omega) with ⟨m1, m2⟩ | ⟨l', m0, m1, m2, m3⟩
        · rw [m1]; exact goodS_nil
        · rw [m1]; exact m2
theorem dropTop_good (l : List Patch) (i : Int) : GoodS (dropTop l i).1 := by
  unfold dropTop
  by_cases h0 : (stackFault l).Code ≠ 0
  · rw [if_pos h0]; exact goodS_nil
  · rw [if_neg h0]
    have hg := (stackFault_zero l).1 (by omega)
    by_cases h1 : i < 0 ∨ i ≥ l.length
    · rw [if_pos h1]; exact goodS_nil
    · rw [if_neg h1]
      rcases moveF_cases hg (a := i.toNat) (b := l.length - 1) (by omega) (by omega) with ⟨m1, m2⟩ | ⟨l', m0, m1, m2, m3⟩
      · rw [if_pos m2]; exact goodS_nil
      · rw [m1, if_neg (by simp)]; exact goodS_take m2 _

/-! ## applying a stack -/
def ascan : Int → List Patch → List ByteArray → List ByteArray × Fault
  | _, [], t => (t, ⟨0, 0⟩)
  | i, p :: r, t => if (applyF p t).2.Code ≠ 0 then ([], ⟨(applyF p t).2.Code, i⟩) else ascan (i + 1) r (applyF p t).1
def applyS (base : List ByteArray) (l : List Patch) : List ByteArray × Fault :=
  if (stackFault l).Code ≠ 0 then ([], stackFault l) else if (textFault base).Code ≠ 0 then ([], ⟨(textFault base).Code, -2⟩) else ascan 0 l base

theorem applyF_flt (p : Patch) (t : List ByteArray) : (applyF p t).2 = ⟨0, 0⟩ ∨ (applyF p t).2.Code ≠ 0 := by
  by_cases h : (applyF p t).2.Code = 0
  · left; rw [(applyF_ok h).2.2.2.2.2]
  · right; exact h

def sumR {α β : Type} : α ⊕ β → (β → α) → α
  | .inl a, _ => a
  | .inr b, f => f b

theorem sapply_f (base : List ByteArray) (l : List Patch) : stack_Apply base l = some (applyS base l) := by
  unfold stack_Apply applyS
  rw [check_f, Option.bind_some, fless (stackFault_ok l), ite_dec]
  by_cases h0 : (stackFault l).Code ≠ 0
  · rw [if_pos h0, if_pos h0]
  · rw [if_neg h0, if_neg h0, second_f, Option.bind_some]
    have hg := (stackFault_zero l).1 (by omega)
    have h12 := hg.1
    by_cases h1 : (textFault base).Code = 0
    · rw [if_pos h1, if_neg (by simp), if_neg (by omega), app_eq (by have := textFault_len h1; simp only [List.length_nil]; omega), Option.bind_some, List.nil_append]
      have key : ∀ (rest : List Patch) (k : Nat) (t : List ByteArray), l.drop k = rest → ∃ y, iter (fun s => stack_Apply.l1 l s.1 s.2) ((k : Int), t) = some y ∧ sumR y (fun t => (t, ⟨0, 0⟩)) = ascan k rest t := by
        intro rest
        induction rest with
        | nil =>
          intro k t hk
          have := drop_end hk
          refine ⟨.inr t, iter_done ?_, rfl⟩
          simp only
          unfold stack_Apply.l1
          rw [ite_dec, if_neg (by omega)]
        | cons p r ih =>
          intro k t hk
          obtain ⟨hlt, hh, hr⟩ := drop_at hk
          rw [ascan]
          by_cases hc : (applyF p t).2.Code ≠ 0
          · rw [if_pos hc]
            refine ⟨.inl ([], ⟨(applyF p t).2.Code, (k : Int)⟩), iter_done ?_, rfl⟩
            simp only
            unfold stack_Apply.l1
            rw [ite_dec, if_pos (by omega), at_nat hlt, Option.bind_some, hh, apply_f, Option.bind_some, fless (applyF_flt p t), ite_dec, if_pos hc]
          · rw [if_neg hc]
            have e0 : stack_Apply.l1 l (k : Int) t = some (.next (((k + 1 : Nat) : Int), (applyF p t).1)) := by
              unfold stack_Apply.l1
              rw [ite_dec, if_pos (by omega), at_nat hlt, Option.bind_some, hh, apply_f, Option.bind_some, fless (applyF_flt p t), ite_dec, if_neg hc, ck_eq (by omega) (by omega)]; rfl
            rw [iter_next e0]
            exact ih (k + 1) _ hr
      obtain ⟨y, y1, y2⟩ := key l 0 base rfl
      rw [show (0 : Int) = ((0 : Nat) : Int) from rfl, y1, Option.bind_some, ← y2]
      cases y <;> rfl
    · rw [if_neg h1, if_pos (by simp [h1]), if_pos h1]

/-! ## the standing example -/
abbrev exA : Patch := ⟨[⟨0, [], [⟨#[97]⟩]⟩]⟩
abbrev exB : Patch := ⟨[⟨1, [], [⟨#[98]⟩]⟩]⟩
theorem exA_ok : (patchFault exA).Code = 0 := by decide +kernel
theorem exB_ok : (patchFault exB).Code = 0 := by decide +kernel
theorem exAB_good : GoodS [exA, exB] := ⟨by decide, fun p hp => by
  rcases List.mem_cons.1 hp with rfl | hp
  · exact exA_ok
  · rcases List.mem_cons.1 hp with rfl | hp
    · exact exB_ok
    · cases hp⟩
theorem exA_good : GoodS [exA] := goodS_take exAB_good 1
theorem dropped_f : changeforgelaw2_dropped = some true := by
  unfold changeforgelaw2_dropped changeforgelaw2_dropped.j1 changeforgelaw2_single
  simp only [Option.bind_some]
  have d1 : stack_Drop [exA, exB] 1 = some ([exA], true, ⟨0, 0⟩) := by
    rw [Drop_f]
    unfold dropTop
    rw [if_neg (by rw [(stackFault_zero _).2 exAB_good]; simp), if_neg (by decide)]; rfl
  have d2 : stack_Apply [] [exA] = some ([⟨#[97]⟩], ⟨0, 0⟩) := by
    rw [sapply_f]
    unfold applyS
    have t0 : (textFault []).Code = 0 := rfl
    rw [if_neg (by rw [(stackFault_zero _).2 exA_good]; simp), if_neg (by rw [t0]; simp)]
    have : applyF exA [] = ([⟨#[97]⟩], ⟨0, 0⟩) := by
      unfold applyF
      rw [if_neg (by rw [exA_ok]; simp), if_neg (by rw [t0]; simp)]
      have : oscan [] 0 exA.Hunks = Option.none := (oscan_fits _ _ _).2 (fun h hh => by
        rcases List.mem_cons.1 hh with rfl | hh
        · exact ⟨by simp, rfl⟩
        · cases hh)
      rw [this]; rfl
    rw [ascan, this, if_neg (by simp), ascan]
  rw [d1, Option.bind_some, d2, Option.bind_some]
  simp only [decide_true, if_true, Option.bind_some]
  rw [patches_refl exA_good, Option.bind_some, Option.bind_some, if_pos rfl, strings_eq _ _ (by simp), Option.bind_some, Option.bind_some, decide_eq_true rfl]

theorem move_matches (l : List Patch) (a b : Int) : changeforgelaw2_StackMoveMatchesSpec l a b = some true := by
  unfold changeforgelaw2_StackMoveMatchesSpec
  rw [Move_f, MoveStack_f, Drop_f, DropStack_f]
  simp only [Option.bind_some, patches_refl (moveTop_good l a b), patches_refl (dropTop_good l a), dropped_f, if_true, decide_true, Bool.and_self]
end Go.Dc
