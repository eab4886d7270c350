/- Replicated sequences: the document's Visible is the program's. -/
import Derived.Test.YtibigfejalemjaaDcGD
set_option linter.unusedSimpArgs false
set_option linter.unusedVariables false
namespace Go.Dc
open Go

theorem Rooted.pre {A B : List SeqOp} (h : Rooted (A ++ B)) : Rooted A := fun L x R e => h L x (R ++ B) (by rw [e]; simp)

/-- the last place of an element in a row -/
def LastI (p : K2) (row : List SeqOp) (k : Nat) (j : Int) : Prop :=
  (j = 0 ∧ ∀ i (h : i < row.length), i < k → own row[i] ≠ p) ∨ ∃ i : Nat, j = ((i + 1 : Nat) : Int) ∧ i < k ∧ ∃ h : i < row.length, own row[i] = p ∧ ∀ i' (h' : i' < row.length), i < i' → i' < k → own row[i'] ≠ p

theorem last_f {s row : List SeqOp} {k : Nat} (hk : k < s.length) (hr : row.length ≤ 1000) (hs : s.length ≤ 1000) : ∃ j, iter (fun t => changeforgeref2_Visible.l5 s (k : Int) row t.1 t.2) (0, 0) = some j ∧ LastI (aft s[k]) row row.length j := by
  refine inv_loop (f := fun t : Int × Int => changeforgeref2_Visible.l5 s (k : Int) row t.1 t.2) row.length (fun i j => LastI (aft s[k]) row i j) (fun j => LastI (aft s[k]) row row.length j) ?_ ?_ 0 (.inl ⟨rfl, fun i _ h => absurd h (by omega)⟩)
  · intro i j hi hI
    unfold changeforgeref2_Visible.l5 changeforgeref2_Visible.j8
    simp (disch := omega) only [decide_eq_true_eq, if_pos, at_nat hi, at_nat hk, Option.bind_some, ck_eq]
    have e1 : (if row[i].Counter = s[k].AfterCounter then some (decide (row[i].Replica = s[k].AfterReplica)) else some false) = some (decide (own row[i] = aft s[k])) := by
      unfold own aft
      by_cases h : row[i].Counter = s[k].AfterCounter
      · rw [if_pos h]; congr 1; rw [Bool.eq_iff_iff]; simp [Prod.ext_iff, h]
      · rw [if_neg h]; congr 1; rw [Bool.eq_iff_iff]; simp [Prod.ext_iff, h]
    rw [e1, Option.bind_some]
    by_cases h : own row[i] = aft s[k]
    · rw [if_pos (decide_eq_true h)]
      exact ⟨_, rfl, .inr ⟨i, rfl, by omega, hi, h, fun i' h' h1 h2 => absurd h1 (by omega)⟩⟩
    · rw [if_neg (by simp [h])]
      refine ⟨_, rfl, ?_⟩
      rcases hI with ⟨rfl, h1⟩ | ⟨q, rfl, h1, h2, h3, h4⟩
      · refine .inl ⟨rfl, fun i' h' hi' => ?_⟩
        by_cases he : i' = i
        · subst he; exact h
        · exact h1 i' h' (by omega)
      · refine .inr ⟨q, rfl, by omega, h2, h3, fun i' h' h5 h6 => ?_⟩
        by_cases he : i' = i
        · subst he; exact h
        · exact h4 i' h' h5 (by omega)
  · intro j hI
    unfold changeforgeref2_Visible.l5
    rw [ite_dec, if_neg (by omega)]
    exact ⟨_, rfl, hI⟩

theorem split_last {p : K2} {x : SeqOp} {row r1 r2 : List SeqOp} {j : Int} (h0 : ∀ o ∈ row, own o ≠ (0, 0)) (e : row = r1 ++ r2) (h : (p = (0, 0) ∧ r1 = []) ∨ ∃ r0 o, r1 = r0 ++ [o] ∧ own o = p ∧ ∀ y ∈ r2, own y ≠ p) (hj : LastI p row row.length j) :
    ∃ q : Nat, j = (q : Int) ∧ q ≤ row.length ∧ row.take q = r1 ∧ row.drop q = r2 := by
  rcases h with ⟨rfl, rfl⟩ | ⟨r0, o, rfl, ho, hr2⟩
  · rcases hj with ⟨rfl, _⟩ | ⟨i, _, _, h2, h3, _⟩
    · exact ⟨0, rfl, Nat.zero_le _, by simp, by rw [e]; rfl⟩
    · exact absurd h3 (h0 _ (List.getElem_mem _))
  · subst e
    have hlt : r0.length < ((r0 ++ [o]) ++ r2).length := by simp
    have hget : ((r0 ++ [o]) ++ r2)[r0.length] = o := by
      rw [List.getElem_append_left (by simp)]; simp
    rcases hj with ⟨_, h1⟩ | ⟨i, rfl, _, h2, h3, h4⟩
    · exact absurd (by rw [hget]; exact ho) (h1 r0.length hlt hlt)
    · have hi : i = r0.length := by
        rcases Nat.lt_trichotomy i r0.length with h5 | h5 | h5
        · exact absurd (by rw [hget]; exact ho) (h4 r0.length hlt h5 hlt)
        · exact h5
        · exfalso
          rw [List.getElem_append_right (by simp; omega)] at h3
          exact hr2 _ (List.getElem_mem _) h3
      subst hi
      refine ⟨r0.length + 1, rfl, by simp, ?_, ?_⟩
      · rw [List.take_append_of_le_length (by simp), List.take_of_length_le (by simp)]
      · rw [List.drop_append_of_le_length (by simp), List.drop_of_length_le (by simp)]; rfl

theorem foldl_or {α : Type} (p : α → Bool) : ∀ (l : List α) (b : Bool), l.foldl (fun b o => b || p o) b = (b || l.any p)
  | [], b => by simp
  | x :: l, b => by rw [List.foldl_cons, foldl_or p l, List.any_cons, Bool.or_assoc]

theorem insL_take {s : List SeqOp} {k : Nat} (hk : k < s.length) : insL (s.take (k + 1)) = insL (s.take k) ++ if s[k].Delete then [] else [s[k]] := by
  unfold insL
  rw [filter_take _ hk]
  cases s[k].Delete <;> rfl

theorem insL_prefix (s : List SeqOp) (k : Nat) : ∃ B, insL s = insL (s.take k) ++ B := ⟨insL (s.drop k), by unfold insL; rw [← List.filter_append, List.take_append_drop]⟩

theorem RVisible_f {ops : List SeqOp} (hv : Val ops) : changeforgeref2_Visible ops = some (vis ops) := by
  have hl := hv.len
  obtain ⟨s, hs, hp, hsr⟩ := Sorted_f ops (by omega)
  have hsrt : Srt s := hsr (by rw [show okey = (fun o => (own o, o.Delete)) from rfl]; exact hv.nd)
  have hsl : s.length ≤ 60 := by rw [hp.length_eq]; exact hl
  have hA : insL s = asc ops := by
    have h1 : (insL s).Perm (asc ops) := (hp.filter _).trans (asc_perm ops).symm
    have h2 : (insL s).Pairwise fun a b => (!kLt (own b) (own a)) = true := by
      refine (hsrt.sublist List.filter_sublist).imp_of_mem fun {a b} ha hb hab => ?_
      have hda : a.Delete = false := by simpa [insL] using (List.mem_filter.1 ha).2
      have hdb : b.Delete = false := by simpa [insL] using (List.mem_filter.1 hb).2
      unfold oLt at hab
      rw [hda, hdb] at hab
      simp only [Bool.not_false, Bool.and_false, Bool.or_false] at hab
      rw [kLt_asymm hab]; rfl
    refine List.Perm.eq_of_pairwise (le := fun x y => (!kLt (own y) (own x)) = true) ?_ h2 (asc_pw ops) h1
    intro x y hx hy h3 h4
    simp only [Bool.not_eq_true'] at h3 h4
    exact nodup_inj (asc_asc hv).nodup (h1.mem_iff.1 hx) hy (kLt_anti h4 h3)
  unfold changeforgeref2_Visible
  rw [hs, Option.bind_some]
  -- the row
  have pre : ∀ k, ∃ B, asc ops = insL (s.take k) ++ B := fun k => by rw [← hA]; exact insL_prefix s k
  have hrow : ∀ k, (rowF (insL (s.take k))).Perm (insL (s.take k)) ∧ Asc (insL (s.take k)) := by
    intro k
    obtain ⟨B, hB⟩ := pre k
    have ha := asc_asc hv
    have hr := asc_root hv
    have hn := asc_ne hv
    rw [hB] at ha hr hn
    exact ⟨rowF_perm _ _ rfl ha.left hr.pre fun o ho => hn o (by simp [ho]), ha.left⟩
  obtain ⟨r, hr, rfl⟩ := inv_loop (f := fun t : Int × List SeqOp => changeforgeref2_Visible.l3 s t.1 t.2) s.length
    (fun k row => row = rowF (insL (s.take k))) (fun r => r = rowF (asc ops))
    (by
      rintro k row hk rfl
      obtain ⟨hperm, hasc⟩ := hrow k
      have hrl : (rowF (insL (s.take k))).length ≤ 60 := by
        rw [hperm.length_eq]
        refine Nat.le_trans (List.length_filter_le _ _) ?_
        rw [List.length_take]; omega
      unfold changeforgeref2_Visible.l3
      simp (disch := omega) only [decide_eq_true_eq, if_pos, at_nat hk, Option.bind_some]
      cases hd : s[k].Delete with
      | true =>
        unfold changeforgeref2_Visible.j5
        simp (disch := omega) only [if_true, ck_eq, Option.bind_some]
        refine ⟨_, rfl, ?_⟩
        rw [insL_take hk, hd]; simp
      | false =>
        simp only [Bool.false_eq_true, if_false]
        obtain ⟨j, ej, hj⟩ := last_f (row := rowF (insL (s.take k))) hk (by omega) (by omega)
        rw [ej, Option.bind_some]
        have e1 : insL (s.take (k + 1)) = insL (s.take k) ++ [s[k]] := by rw [insL_take hk, hd]; simp
        obtain ⟨B, hB⟩ := pre (k + 1)
        have hrt := asc_root hv
        have hne := asc_ne hv
        rw [hB, e1] at hrt hne
        have hne' : ∀ o ∈ rowF (insL (s.take k)), own o ≠ (0, 0) := fun o ho => hne o (by simp [hperm.mem_iff.1 ho])
        obtain ⟨r1, r2, e2, e3, e4⟩ := insX_split (p := aft s[k]) (x := s[k]) ((hperm.map own).nodup_iff.2 hasc.nodup) hne' (by
          rcases hrt.pre.last with h1 | ⟨o, ho, h1⟩
          · exact .inl h1
          · exact .inr ⟨o, hperm.mem_iff.2 ho, h1⟩)
        obtain ⟨q, rfl, hq, hq1, hq2⟩ := split_last (x := s[k]) hne' e2 e4 hj
        generalize hrowdef : rowF (insL (s.take k)) = row at *
        unfold changeforgeref2_Visible.j6
        rw [app_eq (by simp only [List.length_cons, List.length_nil]; omega), Option.bind_some]
        have e5 : ((row ++ [({ Delete := false, Replica := 0, Counter := 0, AfterReplica := 0, AfterCounter := 0, Line := ByteArray.empty } : SeqOp)]).length : Int) - 1 = (row.length : Int) := by simp
        rw [e5, ck_eq (by omega) (by omega), Option.bind_some]
        obtain ⟨L, e6, hL, hset⟩ := shift_loop (f := fun t : Int × List SeqOp => changeforgeref2_Visible.l4 (q : Int) t.1 t.2) (out := row) (z := ({ Delete := false, Replica := 0, Counter := 0, AfterReplica := 0, AfterCounter := 0, Line := ByteArray.empty } : SeqOp)) hq
          (fun i L hi hLl h => by
            unfold changeforgeref2_Visible.l4
            have e4 : ((i + 1 : Nat) : Int) - 1 = (i : Int) := by omega
            have hi0 : i < L.length := by omega
            simp (disch := omega) only [decide_eq_true_eq, if_pos, e4, ck_eq, Option.bind_some, at_nat h, at_nat hi0]
            rfl)
          (fun L => by unfold changeforgeref2_Visible.l4; simp)
        rw [e6, Option.bind_some]
        unfold changeforgeref2_Visible.j7 changeforgeref2_Visible.j5
        have hqL : q < L.length := by omega
        simp (disch := omega) only [at_nat hk, at_nat hqL, Option.bind_some, Int.toNat_natCast, hset, ck_eq]
        refine ⟨_, rfl, ?_⟩
        rw [e1, rowF_snoc, hrowdef, e3, hq1, hq2])
    (by
      rintro row rfl
      unfold changeforgeref2_Visible.l3
      rw [ite_dec, if_neg (by omega), List.take_length, hA]
      exact ⟨_, rfl, rfl⟩)
    [] rfl
  rw [hr, Option.bind_some]
  -- the lines
  unfold changeforgeref2_Visible.j1
  have hpr := row_perm hv
  have hrl : (rowF (asc ops)).length ≤ 60 := by
    rw [hpr.length_eq]; exact Nat.le_trans (List.length_filter_le _ _) hl
  unfold vis
  generalize rowF (asc ops) = row at hrl ⊢
  obtain ⟨r, hr2, rfl⟩ := inv_loop (f := fun t : Int × List ByteArray => changeforgeref2_Visible.l1 ops row t.1 t.2) row.length
    (fun k out => out = vlines (delM ops) (row.take k)) (fun r => r = vlines (delM ops) row)
    (by
      rintro k out hk rfl
      unfold changeforgeref2_Visible.l1
      simp only
      rw [ite_dec, if_pos (by omega)]
      have hfold := fold_loop0 (f := fun t : Int × Bool => changeforgeref2_Visible.l2 ops row (k : Int) t.1 t.2) ops (fun b o => b || (o.Delete && decide (own o = own row[k]))) (fun b => b) false
        (fun i hi b => by
          unfold changeforgeref2_Visible.l2
          simp (disch := omega) only [decide_eq_true_eq, if_pos, at_nat hi, at_nat hk, Option.bind_some, Same_f, ck_eq]
          cases b with
          | true => simp (disch := omega) only [if_true, Option.bind_some, ck_eq]; rfl
          | false =>
            cases hd : ops[i].Delete with
            | true => simp (disch := omega) only [Bool.false_eq_true, if_false, if_true, Option.bind_some, ck_eq]; rfl
            | false => simp (disch := omega) only [Bool.false_eq_true, if_false, Option.bind_some, ck_eq]; rfl)
        (fun b => by unfold changeforgeref2_Visible.l2; rw [ite_dec, if_neg (by omega)])
      rw [hfold, Option.bind_some, foldl_or, Bool.false_or]
      rw [show (ops.any fun o => o.Delete && decide (own o = own row[k])) = delM ops (own row[k]) from rfl]
      unfold changeforgeref2_Visible.j4 changeforgeref2_Visible.j3
      have hvl := vlines_len (delM ops) (row.take k)
      rw [List.length_take] at hvl
      have hnext : vlines (delM ops) (row.take (k + 1)) = vlines (delM ops) (row.take k) ++ vlines (delM ops) [row[k]] := by
        rw [List.take_succ_eq_append_getElem hk, vlines_append]
      rw [vlines_one] at hnext
      cases hd : delM ops (own row[k]) with
      | true =>
        rw [hd, if_pos rfl, List.append_nil] at hnext
        simp (disch := omega) only [Bool.not_true, Bool.false_eq_true, if_false, ck_eq, Option.bind_some]
        exact ⟨_, rfl, hnext.symm⟩
      | false =>
        rw [hd, if_neg (by decide)] at hnext
        simp (disch := omega) only [Bool.not_false, if_true, at_nat hk, Option.bind_some]
        rw [app_eq (by simp only [List.length_cons, List.length_nil]; omega), Option.bind_some]
        simp (disch := omega) only [ck_eq, Option.bind_some]
        exact ⟨_, rfl, hnext.symm⟩)
    (by
      rintro out rfl
      unfold changeforgeref2_Visible.l1
      rw [ite_dec, if_neg (by omega), List.take_length]
      exact ⟨_, rfl, rfl⟩)
    [] rfl
  rw [hr2]; rfl
end Go.Dc
