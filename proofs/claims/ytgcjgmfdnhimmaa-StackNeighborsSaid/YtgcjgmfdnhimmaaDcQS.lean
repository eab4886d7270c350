/- Moving a patch by one position: the plain law of StackNeighbors. -/
import Derived.Test.YtgcjgmfdnhimmaaDcQG
namespace Go.Dc
open Go

theorem wr_len {n : Nat} (h : n ≤ 12) : wr .i64 ((n : Int) - 1) = (n : Int) - 1 := wr_eq (by omega) (by omega)

theorem set_pair {l : List Patch} {a : Nat} (h : a + 1 < l.length) (p q : Patch) : (l.set a p).set (a + 1) q = l.take a ++ [p, q] ++ l.drop (a + 2) := by
  apply List.ext_getElem
  · simp; omega
  · intro j h1 h2
    simp only [List.getElem_set, List.append_assoc, List.cons_append, List.nil_append]
    by_cases c1 : a + 1 = j
    · subst c1
      rw [if_pos rfl, List.getElem_append_right (by simp; omega)]
      simp [show a + 1 - min a l.length = 1 by omega]
    · rw [if_neg c1]
      by_cases c2 : a = j
      · subst c2
        rw [if_pos rfl, List.getElem_append_right (by simp; omega)]
        simp [show a - min a l.length = 0 by omega]
      · rw [if_neg c2]
        rcases Nat.lt_or_ge j a with c3 | c3
        · rw [List.getElem_append_left (by simp; omega)]; simp
        · rw [List.getElem_append_right (by simp; omega)]
          obtain ⟨m, rfl⟩ : ∃ m, j = a + 2 + m := ⟨j - (a + 2), by omega⟩
          simp [show a + 2 + m - min a l.length = m + 2 by omega]

theorem neighbors (l : List Patch) (i : Int) : changeforgelaw2_StackNeighbors l i = some true := by
  unfold changeforgelaw2_StackNeighbors
  rw [Move_f, Option.bind_some, ite_ndec]
  by_cases hc : (moveTop l i (wr .i64 (i + 1))).2.2.Code = 0
  · rw [if_pos hc, Option.bind_some, ite_dec]
    by_cases h0 : i < 0
    · rw [if_pos h0, Option.bind_some, if_pos rfl, dropped_f]; rfl
    · rw [if_neg h0, Option.bind_some, ite_dec]
      have hg : GoodS l := by
        by_cases hs : (stackFault l).Code ≠ 0
        · unfold moveTop at hc; rw [if_pos hs] at hc; exact absurd hc hs
        · exact (stackFault_zero l).1 (by omega)
      rw [wr_len hg.1]
      by_cases h1 : i ≥ (l.length : Int) - 1
      · rw [if_pos h1, dropped_f]; rfl
      · rw [if_neg h1]
        have h12 := hg.1
        have hw : wr .i64 (i + 1) = i + 1 := wr_eq (by omega) (by omega)
        rw [hw] at hc ⊢
        have ha : i.toNat + 1 < l.length := by omega
        have hi : i = (i.toNat : Int) := by omega
        generalize i.toNat = a at ha hi
        subst hi
        have hs : ¬ (stackFault l).Code ≠ 0 := by rw [(stackFault_zero l).2 hg]; simp
        have hm : moveTop l (a : Int) ((a : Int) + 1) = asM (stepAt l a) := by
          unfold moveTop
          rw [if_neg hs, if_neg (by omega), if_neg (by omega), show ((a : Int)).toNat = a from rfl, show ((a : Int) + 1).toNat = a + 1 by omega]
          unfold moveF moveS
          rw [if_pos (by omega), show a + 1 - a = 0 + 1 by omega, upF]
          cases stepAt l a <;> rfl
        rw [hm] at hc ⊢
        rw [at_nat (by omega), Option.bind_some, show (a : Int) + 1 = ((a + 1 : Nat) : Int) from rfl, at_nat ha, Option.bind_some, comm_f, Option.bind_some]
        unfold changeforgelaw2_StackNeighbors.j1
        rw [stepAt_eq ha] at hc ⊢
        by_cases c1 : (commF l[a] l[a + 1]).2.2.2.Code ≠ 0
        · rw [if_pos c1] at hc
          exact absurd hc c1
        · rw [if_neg c1] at hc ⊢
          rw [ite_ndec, if_pos (by omega)]
          by_cases c2 : (commF l[a] l[a + 1]).2.2.1 = false
          · rw [if_pos c2, c2]
            simp only [asM, decide_true, Bool.not_true, Option.bind_some, Bool.false_eq_true, if_false, Bool.not_false, if_true, dropped_f, changeforgelaw2_StackNeighbors.j2]
          · rw [if_neg c2]
            have c3 : (commF l[a] l[a + 1]).2.2.1 = true := by simpa using c2
            rw [c3]
            simp only [asM, decide_true, Bool.not_true, Option.bind_some, Bool.false_eq_true, if_false]
            have hgood : GoodS (((l.set a (commF l[a] l[a + 1]).1).set (a + 1) (commF l[a] l[a + 1]).2.1)) := by
              have := moveTop_good l (a : Int) ((a : Int) + 1)
              rw [hm, stepAt_eq ha, if_neg c1, if_neg c2] at this
              exact this
            rw [set_pair ha] at hgood ⊢
            rw [cut_eq (by omega) (by omega) (by omega), Option.bind_some, Int.toNat_natCast, show ((0 : Int)).toNat = 0 from rfl, List.drop_zero,
              show wr .i64 ((a : Int) + 2) = (a : Int) + 2 from wr_eq (by omega) (by omega), cut_eq (by omega) (by omega) (by omega), Option.bind_some, show ((l.length : Nat) : Int).toNat = l.length from rfl, List.take_length, show ((a : Int) + 2).toNat = a + 2 by omega,
              app_eq (by rw [List.length_take, List.length_nil]; omega), Option.bind_some, List.nil_append]
            unfold changeforgelaw2_StackNeighbors.j3
            rw [app_eq (by rw [List.length_take]; simp only [List.length_cons, List.length_nil]; omega), Option.bind_some,
              app_eq (by rw [List.length_append, List.length_take, List.length_drop]; simp only [List.length_cons, List.length_nil]; omega), Option.bind_some, patches_refl hgood, Option.bind_some, if_pos rfl, dropped_f]
            rfl
  · rw [if_neg hc, Option.bind_some, if_pos rfl, Option.bind_some, if_pos rfl, dropped_f]; rfl
end Go.Dc
