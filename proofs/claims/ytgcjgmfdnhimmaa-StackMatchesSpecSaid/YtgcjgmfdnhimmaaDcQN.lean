/- Squashing; the law that it keeps what the stack does. -/
import Derived.Test.YtgcjgmfdnhimmaaDcQM
set_option linter.unusedSimpArgs false
set_option linter.unusedVariables false
namespace Go.Dc
open Go

theorem composeF_flt (p q : Patch) : (composeF p q).2 = ⟨0, 0⟩ ∨ (composeF p q).2.Code ≠ 0 := by
  unfold composeF
  split
  · right; assumption
  · split
    · rename_i f hf
      right; rw [cscan_code _ _ _ _ hf]; decide
    · split
      · right; show (10 : Int) ≠ 0; decide
      · left; rfl
theorem composeF_ok {p q : Patch} (h : (composeF p q).2.Code = 0) : (patchFault p).Code = 0 ∧ (patchFault q).Code = 0 ∧ (patchFault (compR p q)).Code = 0 ∧ composeF p q = (compR p q, ⟨0, 0⟩) := by
  unfold composeF at h ⊢
  split at h
  · exact absurd h ‹_›
  · rename_i c0
    rw [if_neg c0]
    obtain ⟨a, b⟩ := pairF_zero (p := p) (q := q) (by omega)
    split at h
    · rename_i f hf
      rw [cscan_code _ _ _ _ hf] at h; cases h
    · rename_i hf
      split at h
      · cases h
      · rename_i c2
        rw [if_neg c2]
        exact ⟨a, b, by omega, rfl⟩

def squashAt (l : List Patch) (a : Nat) : List Patch × Fault :=
  match l[a]?, l[a + 1]? with
  | some p, some q => if (composeF p q).2.Code ≠ 0 then ([], ⟨(composeF p q).2.Code, -3⟩) else (l.take a ++ (composeF p q).1 :: l.drop (a + 2), ⟨0, 0⟩)
  | _, _ => ([], ⟨0, 0⟩)
theorem squashAt_eq {l : List Patch} {a : Nat} (h : a + 1 < l.length) : squashAt l a =
    if (composeF l[a] l[a + 1]).2.Code ≠ 0 then ([], ⟨(composeF l[a] l[a + 1]).2.Code, -3⟩) else (l.take a ++ (composeF l[a] l[a + 1]).1 :: l.drop (a + 2), ⟨0, 0⟩) := by
  unfold squashAt
  rw [List.getElem?_eq_getElem (by omega), List.getElem?_eq_getElem h]
def squashTop (l : List Patch) (i : Int) : List Patch × Fault :=
  if (stackFault l).Code ≠ 0 then ([], stackFault l) else if i < 0 ∨ i ≥ (l.length : Int) - 1 then ([], ⟨3, -2⟩) else squashAt l i.toNat

theorem goodS_drop {l : List Patch} (h : GoodS l) (k : Nat) : GoodS (l.drop k) := ⟨by have := h.1; simp; omega, fun p hp => h.2 p (List.mem_of_mem_drop hp)⟩

theorem Squash_f (l : List Patch) (i : Int) : stack_Squash l i = some (squashTop l i) := by
  unfold stack_Squash stack_Squash.j1 stack_Squash.j2 squashTop
  rw [check_f, Option.bind_some, fless (stackFault_ok l), ite_dec]
  by_cases h0 : (stackFault l).Code ≠ 0
  · rw [if_pos h0, if_pos h0]
  · rw [if_neg h0, if_neg h0]
    have hg := (stackFault_zero l).1 (by omega)
    have h12 := hg.1
    rw [ck_eq (by omega) (by omega), Option.bind_some, bool_or, Option.bind_some]
    simp only [dec_or]
    by_cases h1 : i < 0 ∨ i ≥ (l.length : Int) - 1
    · rw [if_pos h1, if_pos h1]
    · rw [if_neg h1, if_neg h1]
      have ha : i.toNat + 1 < l.length := by omega
      have hi : i = (i.toNat : Int) := by omega
      rw [squashAt_eq ha]
      generalize i.toNat = a at ha hi
      subst hi
      rw [at_nat (show a < l.length by omega), Option.bind_some, ck_eq (by omega) (by omega), Option.bind_some, show (a : Int) + 1 = ((a + 1 : Nat) : Int) from rfl, at_nat ha, Option.bind_some, compose_f, Option.bind_some, fless (composeF_flt _ _), ite_dec]
      by_cases h2 : (composeF l[a] l[a + 1]).2.Code ≠ 0
      · rw [if_pos h2, if_pos h2]
      · rw [if_neg h2, if_neg h2, cut_eq (by omega) (by omega) (by omega), Option.bind_some, Int.toNat_natCast, show ((0 : Int)).toNat = 0 from rfl, List.drop_zero, sclone_f (goodS_take hg a), Option.bind_some,
          app_eq (by rw [List.length_take, List.length_singleton]; omega), Option.bind_some, ck_eq (by omega) (by omega), Option.bind_some, cut_eq (by omega) (by omega) (by omega), Option.bind_some, show ((l.length : Nat) : Int).toNat = l.length from rfl, List.take_length, show ((a : Int) + 2).toNat = a + 2 by omega,
          sclone_f (goodS_drop hg (a + 2)), Option.bind_some, app_eq (by rw [List.length_append, List.length_take, List.length_singleton, List.length_drop]; omega), Option.bind_some, List.append_assoc]
        rfl

theorem squash_effect (base : List ByteArray) (l : List Patch) (i : Int) (hb : l.length ≤ 9223372036854775807) : changeforgelaw2_StackSquashSameEffect base l i = some true := by
  unfold changeforgelaw2_StackSquashSameEffect
  rw [Squash_f, Option.bind_some, sapply_f, Option.bind_some, ite_ndec]
  by_cases h1 : (squashTop l i).2.Code = 0
  · rw [if_pos h1, Option.bind_some]
    by_cases h2 : (applyS base l).2.Code = 0
    · rw [decide_eq_true h2, if_neg (by decide), sapply_f, Option.bind_some]
      obtain ⟨s1, s2, s3, s4, s5, s6, s7⟩ := applyS_ok h2
      have hst : squashTop l i = squashAt l i.toNat ∧ ¬ (i < 0 ∨ i ≥ (l.length : Int) - 1) := by
        unfold squashTop at h1 ⊢
        rw [if_neg (by rw [(stackFault_zero l).2 s1]; simp)] at h1 ⊢
        split at h1
        · cases h1
        · rename_i c; exact ⟨by rw [if_neg c], c⟩
      obtain ⟨e1, e2⟩ := hst
      have ha : i.toNat + 1 < l.length := by omega
      rw [e1, squashAt_eq ha] at h1
      split at h1
      · rename_i c; exact absurd h1 c
      · rename_i c
        obtain ⟨k1, k2, k3, k4⟩ := composeF_ok (p := l[i.toNat]) (q := l[i.toNat + 1]) (by omega)
        have e3 : squashTop l i = (l.take i.toNat ++ compR l[i.toNat] l[i.toNat + 1] :: l.drop (i.toNat + 2), ⟨0, 0⟩) := by
          rw [e1, squashAt_eq ha, if_neg c, k4]
        -- what the stack does
        have hsp : l = l.take i.toNat ++ l[i.toNat] :: l[i.toNat + 1] :: l.drop (i.toNat + 2) := by
          rw [List.getElem_cons_drop, List.getElem_cons_drop, List.take_append_drop]
        -- applied, step by step
        have key : ∀ (pre : List Patch) (p q : Patch) (post : List Patch) (k : Int) (t : List ByteArray), (patchFault p).Code = 0 → (patchFault q).Code = 0 → (patchFault (compR p q)).Code = 0 → t.length ≤ 120 → (ascan k (pre ++ p :: q :: post) t).2.Code = 0 → ∀ k' : Int, (ascan k' (pre ++ compR p q :: post) t) = (ascan k (pre ++ p :: q :: post) t) := by
          intro pre
          induction pre with
          | nil =>
            intro p q post k t hp hq hr ht h k'
            rw [List.nil_append, ascan, ascan] at h
            rw [List.nil_append, List.nil_append, ascan, ascan, ascan]
            by_cases c1 : (applyF p t).2.Code ≠ 0
            · rw [if_pos c1] at h; exact absurd h c1
            · rw [if_neg c1] at h ⊢
              by_cases c2 : (applyF q (applyF p t).1).2.Code ≠ 0
              · rw [if_pos c2] at h; exact absurd h c2
              · rw [if_neg c2] at h ⊢
                obtain ⟨_, _, a3, a4, a5, a6⟩ := applyF_ok (p := p) (text := t) (by omega)
                obtain ⟨_, _, b3, b4, b5, b6⟩ := applyF_ok (p := q) (text := (applyF p t).1) (by omega)
                rw [a6] at b3 b4 b5 b6 h ⊢
                obtain ⟨f1, f2⟩ := compR_effect hp hq ht a4 b4
                rw [b6] at h ⊢
                have : applyF (compR p q) t = (rawS q.Hunks (rawS p.Hunks t 0) 0, ⟨0, 0⟩) := by
                  rw [applyF_of hr a3.2 ht f1, f2, if_neg (by simp only at b5; omega)]
                rw [this, if_neg (by simp)]
                obtain ⟨_, x1, _, _⟩ := ascan_ok post (k + 1 + 1) _ h
                have : ∀ (l : List Patch) (i j : Int) (t : List ByteArray), (ascan i l t).2.Code = 0 → ascan j l t = ascan i l t := by
                  intro l
                  induction l with
                  | nil => intro i j t _; rfl
                  | cons x l ih =>
                    intro i j t h
                    rw [ascan] at h ⊢
                    rw [ascan]
                    by_cases c : (applyF x t).2.Code ≠ 0
                    · rw [if_pos c] at h; exact absurd h c
                    · rw [if_neg c] at h ⊢
                      rw [if_neg c]
                      exact ih _ _ _ h
                exact this post _ _ _ h
          | cons x pre ih =>
            intro p q post k t hp hq hr ht h k'
            rw [List.cons_append, ascan] at h
            rw [List.cons_append, List.cons_append, ascan, ascan]
            by_cases c1 : (applyF x t).2.Code ≠ 0
            · rw [if_pos c1] at h; exact absurd h c1
            · rw [if_neg c1] at h ⊢
              rw [if_neg c1]
              obtain ⟨_, _, _, _, a5, a6⟩ := applyF_ok (p := x) (text := t) (by omega)
              exact ih p q post (k + 1) _ hp hq hr (by rw [a6]; exact a5) h _
        have hgood : GoodS (l.take i.toNat ++ compR l[i.toNat] l[i.toNat + 1] :: l.drop (i.toNat + 2)) := by
          refine ⟨by have := s1.1; rw [List.length_append, List.length_cons, List.length_take, List.length_drop]; omega, fun p hp => ?_⟩
          rcases List.mem_append.1 hp with hp | hp
          · exact s1.2 p (List.mem_of_mem_take hp)
          · rcases List.mem_cons.1 hp with rfl | hp
            · exact k3
            · exact s1.2 p (List.mem_of_mem_drop hp)
        have happ : applyS base (l.take i.toNat ++ compR l[i.toNat] l[i.toNat + 1] :: l.drop (i.toNat + 2)) = ((applyS base l).1, ⟨0, 0⟩) := by
          have hl : applyS base l = ascan 0 l base := by
            unfold applyS
            rw [if_neg (by rw [(stackFault_zero l).2 s1]; simp), if_neg (by rw [textFault_of s2 s3]; simp)]
          have hh : (ascan 0 (l.take i.toNat ++ l[i.toNat] :: l[i.toNat + 1] :: l.drop (i.toNat + 2)) base).2.Code = 0 := by rw [← hsp, ← hl]; exact h2
          have := key (l.take i.toNat) l[i.toNat] l[i.toNat + 1] (l.drop (i.toNat + 2)) 0 base k1 k2 k3 s3 hh 0
          rw [← hsp, ← hl] at this
          unfold applyS
          rw [if_neg (by rw [(stackFault_zero _).2 hgood]; simp), if_neg (by rw [textFault_of s2 s3]; simp), this]
          exact s7
        rw [e3]
        simp only [happ, decide_true, if_true, strings_eq _ _ (show (applyS base l).1.length ≤ 1000000 by omega), Option.bind_some]
        rw [ck_eq (by omega) (by omega), Option.bind_some]
        have hlen : decide (((l.take i.toNat ++ compR l[i.toNat] l[i.toNat + 1] :: l.drop (i.toNat + 2)).length : Int) = (l.length : Int) - 1) = true := by
          rw [decide_eq_true_eq, List.length_append, List.length_cons, List.length_take, List.length_drop]; omega
        rw [hlen, Option.bind_some, if_pos rfl, dropped_f]; rfl
    · rw [decide_eq_false h2, if_pos (by decide), dropped_f]; rfl
  · rw [if_neg h1, Option.bind_some, if_pos rfl, dropped_f]; rfl
end Go.Dc
