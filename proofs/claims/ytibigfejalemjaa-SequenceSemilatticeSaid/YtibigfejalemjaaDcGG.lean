/- Replicated sequences: the statements. -/
import Derived.Test.YtibigfejalemjaaDcGF
import Derived.Test.YtibigfejalemjaaDcI
set_option linter.unusedSimpArgs false
set_option linter.unusedVariables false
namespace Go.Dc
open Go

theorem ops_refl (a : List SeqOp) (h : a.length ≤ 1000) : changeforgeequal_Ops a a = some true := by
  unfold changeforgeequal_Ops
  rw [ite_ndec, if_pos rfl]
  have := scn_loop (f := fun s => changeforgeequal_Ops.l1 a a s) (fun r : Unit => (.inl false : Bool ⊕ Unit)) (.inr ()) a (fun _ _ => Option.none)
    (fun k hk _ => by
      unfold changeforgeequal_Ops.l1
      simp (disch := omega) only [decide_eq_true_eq, if_pos, at_nat hk, Option.bind_some, ck_eq]
      rw [if_neg (by simp)]; rfl)
    (by unfold changeforgeequal_Ops.l1; rw [ite_dec, if_neg (by omega)])
  rw [this, Option.bind_some]
  have h2 : scn (fun (_ : Nat) (_ : SeqOp) => (Option.none : Option Unit)) 0 a = Option.none := scn_none.2 fun _ _ => rfl
  rw [h2]; rfl

/-! ## orders of arrival -/
theorem delM_congr {a b : List SeqOp} (h : ∀ o, o ∈ a ↔ o ∈ b) (k : K2) : delM a k = delM b k := by
  rw [Bool.eq_iff_iff, delM_iff, delM_iff]; simp only [h]
theorem insM_congr {a b : List SeqOp} (h : ∀ o, o ∈ a ↔ o ∈ b) (k : K2) : insM a k = insM b k := by
  rw [Bool.eq_iff_iff, insM_iff, insM_iff]; simp only [h]

theorem Val.perm {a b : List SeqOp} (h : Val a) (hp : a.Perm b) : Val b :=
  ⟨by rw [← hp.length_eq]; exact h.len, fun o ho => h.chk o (hp.mem_iff.2 ho), (hp.map _).nodup_iff.1 h.nd, fun o ho => by
    rw [← insM_congr (a := a) (b := b) (fun o => hp.mem_iff)]; exact h.made o (hp.mem_iff.2 ho)⟩

theorem vis_perm {a b : List SeqOp} (h : Val a) (hp : a.Perm b) : vis a = vis b := by
  unfold vis
  rw [asc_eq h hp, show delM a = delM b from funext fun k => delM_congr (fun o => hp.mem_iff) k]

theorem vis_len {a : List SeqOp} (h : Val a) : (vis a).length ≤ 60 := by
  refine Nat.le_trans (vlines_len _ _) ?_
  rw [(row_perm h).length_eq]
  exact Nat.le_trans (List.length_filter_le _ _) h.len

theorem seq_zero {a : List SeqOp} : (seqFault a).Code = 0 ↔ Val a := by
  rcases seqFault_cases a with ⟨h, hv⟩ | ⟨h, hv⟩
  · rw [h]; exact ⟨fun _ => hv, fun _ => rfl⟩
  · exact ⟨fun h2 => absurd h2 h, fun h2 => absurd h2 hv⟩

theorem Vis_ok {a : List SeqOp} (h : Val a) : sequence_Visible a = some (vis a, ⟨0, 0⟩) := by
  rw [Visible_f, if_pos (seq_zero.2 h)]
theorem Vis_bad {a : List SeqOp} (h : ¬ Val a) : sequence_Visible a = some ([], seqFault a) := by
  rw [Visible_f, if_neg (fun h2 => h (seq_zero.1 h2))]

theorem asc_of {ops B : List SeqOp} (h : Val ops) (hp : B.Perm (insL ops)) (hs : B.Pairwise fun a b => (!kLt (own b) (own a)) = true) : asc ops = B := by
  have hb := hp.trans (asc_perm ops).symm
  refine (List.Perm.eq_of_pairwise (le := fun x y => (!kLt (own y) (own x)) = true) ?_ hs (asc_pw ops) hb).symm
  intro x y hx hy h3 h4
  simp only [Bool.not_eq_true'] at h3 h4
  exact nodup_inj (asc_asc h).nodup (hb.mem_iff.1 hx) hy (kLt_anti h4 h3)

/-! ## the example that stands behind each statement -/
def ex1 : SeqOp := { Delete := false, Replica := 0, Counter := 1, AfterReplica := 0, AfterCounter := 0, Line := ⟨#[97]⟩ }
def ex2 : SeqOp := { Delete := false, Replica := 0, Counter := 2, AfterReplica := 0, AfterCounter := 0, Line := ⟨#[98]⟩ }

theorem ex_val : Val [ex1, ex2] := by
  refine ⟨by decide, fun o ho => ?_, by decide, fun o ho => ?_⟩
  · rcases List.mem_cons.1 ho with rfl | ho
    · decide
    · rcases List.mem_cons.1 ho with rfl | ho
      · decide
      · cases ho
  · left
    rcases List.mem_cons.1 ho with rfl | ho
    · rfl
    · rcases List.mem_cons.1 ho with rfl | ho
      · rfl
      · cases ho

theorem ex_vis : vis [ex1, ex2] = [⟨#[98]⟩, ⟨#[97]⟩] := by
  unfold vis
  rw [asc_of (B := [ex1, ex2]) ex_val (List.Perm.refl _) (by simp [kLt, own, ex1, ex2])]
  rfl

theorem latest_f : changeforgelaw2_latest = some true := by
  unfold changeforgelaw2_latest changeforgelaw2_insert
  simp only [Option.bind_some]
  rw [show ([{ Delete := false, Replica := 0, Counter := 1, AfterReplica := 0, AfterCounter := 0, Line := ⟨#[97]⟩ }, { Delete := false, Replica := 0, Counter := 2, AfterReplica := 0, AfterCounter := 0, Line := ⟨#[98]⟩ }] : List SeqOp) = [ex1, ex2] from rfl]
  rw [Vis_ok ex_val, ex_vis]
  simp only [Option.bind_some, decide_true, if_true]
  rw [strings_eq _ _ (by decide)]
  simp

/-! ## all as specified -/
theorem uni_empty {a b : List SeqOp} (h : (uni a b).2.Code ≠ 0) : (uni a b).1 = [] := by
  revert h
  unfold uni
  by_cases h1 : (seqFault a).Code ≠ 0
  · rw [if_pos h1]; exact fun _ => rfl
  · rw [if_neg h1]
    by_cases h2 : (seqFault b).Code ≠ 0
    · rw [if_pos h2]; exact fun _ => rfl
    · rw [if_neg h2]
      cases hs : scn (fun k o => if clash a o then some (([], ⟨19, (k : Int)⟩) : List SeqOp × Fault) else Option.none) 0 b with
      | some f =>
        obtain ⟨j, hj, e⟩ := scn_some hs
        intro _
        split at e
        · cases e; rfl
        · cases e
      | none =>
        simp only
        by_cases h60 : (a ++ news a b).length > 60
        · rw [if_pos h60]; exact fun _ => rfl
        · rw [if_neg h60]; exact fun h => absurd rfl h

theorem matches_spec (a b : List SeqOp) : changeforgelaw2_SequenceMatchesSpec a b = some true := by
  unfold changeforgelaw2_SequenceMatchesSpec
  rw [Merge_f, Union_f, SeqFault_f, Validate_f]
  have hul : (uni a b).1.length ≤ 1000 := by
    by_cases h : MergeOk a b
    · have := (uni_val h).len; omega
    · have h2 : (uni a b).2.Code ≠ 0 := fun h2 => h (uni_ok.1 h2)
      have h3 : (uni a b).1 = [] := uni_empty h2
      rw [h3]; simp
  by_cases hv : Val a
  · rw [Vis_ok hv, seqFault_ok hv, RVisible_f hv]
    simp only [Option.bind_some, decide_true, Bool.and_self, Bool.not_true, Bool.false_eq_true, if_false, ops_refl _ hul, strings_eq _ _ (Nat.le_trans (vis_len hv) (by omega)), latest_f, if_true]
  · rw [Vis_bad hv]
    have hc : (seqFault a).Code ≠ 0 := fun h => hv (seq_zero.1 h)
    simp only [Option.bind_some, decide_true, Bool.and_self, Bool.not_true, Bool.false_eq_true, if_false, ops_refl _ hul, latest_f, if_true, decide_eq_false hc, Bool.not_false, List.length_nil]
    rfl

/-! ## the order of arrival -/
theorem turned_f (a : List SeqOp) (h : a.length * 56 ≤ 140737488355328) : changeforgelaw2_turned a = some a.reverse := by
  unfold changeforgelaw2_turned
  rw [ck_eq (by omega) (by omega), Option.bind_some]
  obtain ⟨r, hr, rfl⟩ := iter_rule (m := fun s : Int × List SeqOp => changeforgelaw2_turned.l1 a s.1 s.2) (fun s => ∃ k : Nat, k ≤ a.length ∧ s = ((k : Int) - 1, (a.drop k).reverse)) (fun s => (s.1 + 1).toNat) (fun r => r = a.reverse) (by
    rintro s ⟨k, hk, rfl⟩
    unfold changeforgelaw2_turned.l1
    simp only
    cases k with
    | zero =>
      rw [ite_dec, if_neg (by omega)]
      exact .inr ⟨_, rfl, by simp⟩
    | succ k =>
      have hk2 : k < a.length := by omega
      rw [ite_dec, if_pos (by omega), show ((k + 1 : Nat) : Int) - 1 = (k : Int) by omega, at_nat hk2, Option.bind_some, app_eq (by simp only [List.length_reverse, List.length_drop, List.length_cons, List.length_nil]; omega), Option.bind_some,
        ck_eq (by omega) (by omega), Option.bind_some]
      refine .inl ⟨_, rfl, ⟨k, by omega, ?_⟩, by first | omega | (simp; done) | (simp; omega)⟩
      rw [List.drop_eq_getElem_cons hk2, List.reverse_cons]) ((a.length : Int) - 1, []) ⟨a.length, Nat.le_refl _, by simp⟩
  rw [hr, Option.bind_some]; rfl

theorem order_free (a : List SeqOp) (k : Int) (h : a.length * 56 ≤ 140737488351232) : changeforgelaw2_SequenceOrderFree a k = some true := by
  unfold changeforgelaw2_SequenceOrderFree
  rw [turned_f a (by omega)]
  have hrev : Val a.reverse ↔ Val a := ⟨fun h => h.perm (List.reverse_perm a), fun h => h.perm (List.reverse_perm a).symm⟩
  by_cases hv : Val a
  · have hvr := hrev.2 hv
    rw [Vis_ok hv, Option.bind_some, Option.bind_some, Vis_ok hvr]
    simp only [Option.bind_some, decide_true, Bool.not_true, Bool.false_eq_true, if_false]
    have hl := hv.len
    by_cases h1 : k < 0
    · rw [decide_eq_true h1]; simp only [if_true, Option.bind_some, latest_f]
    · by_cases h2 : k > (a.length : Int)
      · rw [decide_eq_false h1, decide_eq_true h2]; simp only [Bool.false_eq_true, if_false, if_true, Option.bind_some, latest_f]
      · rw [decide_eq_false h1, decide_eq_false h2]
        simp only [Bool.false_eq_true, if_false, Option.bind_some]
        rw [cut_eq (by omega) (by omega) (by omega), Option.bind_some, cut_eq (by omega) (by omega) (by omega), Option.bind_some]
        obtain ⟨q, rfl⟩ : ∃ q : Nat, k = (q : Int) := ⟨k.toNat, by omega⟩
        have e1 : ((a.take ((a.length : Int)).toNat).drop ((q : Int)).toNat) = a.drop q := by simp
        have e2 : ((a.take ((q : Int)).toNat).drop ((0 : Int)).toNat) = a.take q := by simp
        rw [e1, e2, app_eq (by simp only [List.length_nil, List.length_drop]; omega), Option.bind_some, List.nil_append, app_eq (by simp only [List.length_take, List.length_drop]; omega), Option.bind_some]
        have hp : a.Perm (a.drop q ++ a.take q) := by
          have := List.perm_append_comm (l₁ := a.take q) (l₂ := a.drop q)
          rwa [List.take_append_drop] at this
        have hvq := hv.perm hp
        rw [Vis_ok hvq, Option.bind_some]
        unfold changeforgelaw2_SequenceOrderFree.j1
        rw [← vis_perm hv hp, ← vis_perm hv (List.reverse_perm a).symm]
        simp only [Option.bind_some, decide_true, if_true, strings_eq _ _ (Nat.le_trans (vis_len hv) (by omega)), latest_f]
  · have hvr : ¬ Val a.reverse := fun h => hv (hrev.1 h)
    rw [Vis_bad hv, Option.bind_some, Option.bind_some, Vis_bad hvr]
    have hc : (seqFault a).Code ≠ 0 := fun h => hv (seq_zero.1 h)
    have hc2 : (seqFault a.reverse).Code ≠ 0 := fun h => hvr (seq_zero.1 h)
    simp only [Option.bind_some, decide_eq_false hc, decide_eq_false hc2, Bool.not_false, if_true, latest_f, decide_true]

/-! ## a line that comes in, a line that goes -/
theorem subl_skip {α : Type} {x y : α} {l m : List α} (h : List.Sublist (x :: l) (y :: m)) (he : y ≠ x) : List.Sublist (x :: l) m := by
  cases h with
  | cons _ h3 => exact h3
  | cons_cons _ _ => exact absurd rfl he

theorem follows_f {l m : List ByteArray} (h : List.Sublist l m) (hm : m.length ≤ 1000) : changeforgelaw2_follows l m = some true := by
  unfold changeforgelaw2_follows
  have hl := h.length_le
  obtain ⟨r, hr, rfl⟩ := iter_rule (m := fun s : Int × Int => changeforgelaw2_follows.l1 l m s.1 s.2) (fun s => ∃ i k : Nat, s = ((i : Int), (k : Int)) ∧ i ≤ m.length ∧ k ≤ l.length ∧ List.Sublist (l.drop k) (m.drop i)) (fun s => m.length - s.1.toNat) (fun r => r = (l.length : Int)) (by
    rintro s ⟨i, k, rfl, hi, hk, hs⟩
    unfold changeforgelaw2_follows.l1
    simp only
    by_cases h1 : i < m.length
    · by_cases h2 : k < l.length
      · rw [show (if decide ((i : Int) < (m.length : Int)) = true then some (decide ((k : Int) < (l.length : Int))) else some false) = some true by rw [if_pos (decide_eq_true (by omega)), decide_eq_true (by omega)]]
        rw [Option.bind_some, if_pos rfl, at_nat h1, Option.bind_some, at_nat h2, Option.bind_some]
        rw [List.drop_eq_getElem_cons h2, List.drop_eq_getElem_cons h1] at hs
        unfold changeforgelaw2_follows.j2
        by_cases he : m[i] = l[k]
        · rw [if_pos (decide_eq_true he), ck_eq (by omega) (by omega), Option.bind_some, ck_eq (by omega) (by omega), Option.bind_some]
          refine .inl ⟨_, rfl, ⟨i + 1, k + 1, rfl, by omega, by omega, ?_⟩, by omega⟩
          rw [he] at hs
          exact List.cons_sublist_cons.1 hs
        · rw [if_neg (by simp [he]), ck_eq (by omega) (by omega), Option.bind_some]
          refine .inl ⟨_, rfl, ⟨i + 1, k, rfl, by omega, by omega, ?_⟩, by omega⟩
          rw [List.drop_eq_getElem_cons h2]
          exact subl_skip hs he
      · rw [show (if decide ((i : Int) < (m.length : Int)) = true then some (decide ((k : Int) < (l.length : Int))) else some false) = some false by rw [if_pos (decide_eq_true (by omega)), decide_eq_false (by omega)]]
        rw [Option.bind_some, if_neg (by decide)]
        exact .inr ⟨_, rfl, by omega⟩
    · rw [show (if decide ((i : Int) < (m.length : Int)) = true then some (decide ((k : Int) < (l.length : Int))) else some false) = some false by rw [if_neg (by simp; omega)]]
      rw [Option.bind_some, if_neg (by decide)]
      refine .inr ⟨_, rfl, ?_⟩
      rw [List.drop_eq_nil_of_le (by omega : m.length ≤ i)] at hs
      have := List.sublist_nil.1 hs
      have := List.drop_eq_nil_iff.1 this
      omega) (0, 0) ⟨0, 0, rfl, Nat.zero_le _, Nat.zero_le _, by simpa using h⟩
  rw [hr, Option.bind_some]
  unfold changeforgelaw2_follows.j1
  rw [decide_eq_true rfl]

theorem flt_insA {p k : K2} (hp : p ≠ k) (x : SeqOp) : ∀ row : List SeqOp, (insA p x row).filter (fun o => !decide (own o = k)) = if own x = k then row.filter (fun o => !decide (own o = k)) else insA p x (row.filter fun o => !decide (own o = k))
  | [] => by split <;> rfl
  | o :: row => by
    rw [insA_cons, List.filter_append, flt_insA hp x row, List.filter_cons]
    by_cases ho : own o = k
    · have : own o ≠ p := fun e => hp (e.symm.trans ho)
      rw [if_neg this]
      simp [ho]
    · by_cases hop : own o = p
      · rw [if_pos hop]
        by_cases hx : own x = k
        · simp [ho, hx]
        · simp only [hx, if_false]
          rw [if_pos (by simp [ho]), insA_cons, if_pos hop]
          simp [ho, hx]
      · rw [if_neg hop]
        by_cases hx : own x = k
        · simp [ho, hx]
        · simp only [hx, if_false]
          rw [if_pos (by simp [ho]), insA_cons, if_neg hop]
          simp [ho]

theorem row_filter {k : K2} : ∀ (n : Nat) (L : List SeqOp), L.length = n → (∀ x ∈ L, aft x ≠ k) → (rowF L).filter (fun o => !decide (own o = k)) = rowF (L.filter fun o => !decide (own o = k)) := by
  intro n
  induction n with
  | zero =>
    intro L hL _
    have : L = [] := List.eq_nil_of_length_eq_zero hL
    subst this; rfl
  | succ n ih =>
    intro L hL h
    rcases List.eq_nil_or_concat L with rfl | ⟨M, x, rfl⟩
    · simp at hL
    · rw [List.concat_eq_append] at *
      have hM := ih M (by simpa using hL) fun y hy => h y (by simp [hy])
      rw [rowF_snoc, List.filter_append]
      unfold insX
      rw [List.filter_append, flt_insA (h x (by simp)) x]
      by_cases hx : own x = k
      · rw [if_pos hx, hM]
        simp only [List.filter_cons, hx, decide_true, Bool.not_true, Bool.false_eq_true, if_false, List.filter_nil, List.append_nil]
        split <;> simp [hx]
      · rw [if_neg hx, hM]
        have e : [x].filter (fun o => !decide (own o = k)) = [x] := by simp [hx]
        rw [e, rowF_snoc]
        unfold insX
        congr 1
        split <;> simp [hx]

theorem vlines_sub {del : K2 → Bool} {a b : List SeqOp} (h : List.Sublist a b) : List.Sublist (vlines del a) (vlines del b) := (h.filter _).map _

theorem vlines_cnt (del : K2 → Bool) (l : List SeqOp) : (vlines del l).length = l.countP fun o => !del (own o) := by
  unfold vlines; rw [List.length_map, List.countP_eq_length_filter]

theorem vis_cnt {a : List SeqOp} (h : Val a) : (vis a).length = (insL a).countP fun o => !delM a (own o) := by
  unfold vis; rw [vlines_cnt, (row_perm h).countP_eq]

theorem insL_app (a : List SeqOp) (o : SeqOp) : insL (a ++ [o]) = insL a ++ if o.Delete then [] else [o] := by
  unfold insL; rw [List.filter_append]; cases h : o.Delete <;> simp [h]
theorem delM_app (a : List SeqOp) (o : SeqOp) (k : K2) : delM (a ++ [o]) k = (delM a k || (o.Delete && decide (own o = k))) := by
  unfold delM; rw [List.any_append]; simp

theorem fresh_del {a : List SeqOp} {o : SeqOp} (ha : Val a) (h : Val (a ++ [o])) (hd : o.Delete = false) : delM a (own o) = false := by
  cases hx : delM a (own o) with
  | false => rfl
  | true =>
    exfalso
    obtain ⟨x, hx1, hx2, hx3⟩ := delM_iff.1 hx
    have hn := ha.made x hx1
    unfold need at hn
    rw [if_pos hx2] at hn
    rcases hn with hn | hn
    · exact inR_ne (chk_del (ha.chk x hx1)) hn
    · obtain ⟨y, hy1, hy2, hy3⟩ := insM_iff.1 hn
      have hnd := h.ok
      rw [List.map_append, List.nodup_append] at hnd
      exact hnd.2.2 (okey y) (List.mem_map_of_mem hy1) (okey o) (by simp) (by unfold okey; rw [hy2, hd, hy3, hx3])

theorem ins_row {a : List SeqOp} {o : SeqOp} (ha : Val a) (h : Val (a ++ [o])) (hd : o.Delete = false) : rowF (asc a) = (rowF (asc (a ++ [o]))).filter fun x => !decide (own x = own o) := by
  have hnd := h.ok
  rw [List.map_append, List.nodup_append] at hnd
  have hno : ∀ y ∈ a, y.Delete = false → own y ≠ own o := fun y hy hyd e => hnd.2.2 (okey y) (List.mem_map_of_mem hy) (okey o) (by simp) (by unfold okey; rw [hyd, hd, e])
  have hoR := inR_ne (chk_del (h.chk o (by simp)))
  rw [row_filter _ _ rfl fun x hx => ?_]
  · rw [asc_of (B := (asc (a ++ [o])).filter fun x => !decide (own x = own o)) ha ?_ ((asc_pw _).sublist List.filter_sublist)]
    refine ((asc_perm _).filter _).trans ?_
    rw [insL_app, hd]
    simp only [Bool.false_eq_true, if_false, List.filter_append]
    have e1 : (insL a).filter (fun x => !decide (own x = own o)) = insL a := List.filter_eq_self.2 fun y hy => by
      obtain ⟨h1, h2⟩ := List.mem_filter.1 hy
      simp [hno y h1 (by simpa using h2)]
    rw [e1]; simp
  · obtain ⟨hx1, hx2⟩ := mem_asc.1 hx
    rcases List.mem_append.1 hx1 with h1 | h1
    · have hn := ha.made x h1
      unfold need at hn
      rw [if_neg (by simp [hx2])] at hn
      rcases hn with hn | hn
      · rw [hn]; exact fun e => hoR e.symm
      · obtain ⟨y, hy1, hy2, hy3⟩ := insM_iff.1 hn
        rw [← hy3]; exact hno y hy1 hy2
    · have : x = o := by simpa using h1
      subst this
      exact kLt_ne (chk_lt (h.chk x (by simp)) hd)

theorem inserts_f (a : List SeqOp) (o : SeqOp) (h : a.length * 56 ≤ 140737488351232) : changeforgelaw2_SequenceInserts a o = some true := by
  unfold changeforgelaw2_SequenceInserts
  have a1 : app? 56 ([] : List SeqOp) a = some a := by rw [app_eq (by simp only [List.length_nil]; omega), List.nil_append]
  have a2 : app? 56 a [o] = some (a ++ [o]) := app_eq (by simp only [List.length_cons, List.length_nil]; omega)
  simp only [a1, a2, Option.bind_some]
  by_cases hv : Val a
  rotate_left
  · rw [Vis_bad hv, Visible_f]
    have hc : (seqFault a).Code ≠ 0 := fun h => hv (seq_zero.1 h)
    unfold changeforgelaw2_SequenceInserts.j1
    simp only [Option.bind_some, decide_eq_false hc, Bool.not_false, if_true, latest_f]
  by_cases hv2 : Val (a ++ [o])
  rotate_left
  · rw [Vis_ok hv, Vis_bad hv2]
    have hc : (seqFault (a ++ [o])).Code ≠ 0 := fun h => hv2 (seq_zero.1 h)
    unfold changeforgelaw2_SequenceInserts.j1
    simp only [Option.bind_some, decide_true, Bool.not_true, Bool.false_eq_true, if_false, decide_eq_false hc, Bool.not_false, if_true, latest_f]
  rw [Vis_ok hv, Vis_ok hv2]
  unfold changeforgelaw2_SequenceInserts.j1
  simp only [Option.bind_some, decide_true, Bool.not_true, Bool.false_eq_true, if_false]
  cases hd : o.Delete with
  | true => simp only [if_true, latest_f, Option.bind_some]
  | false =>
    simp only [Bool.false_eq_true, if_false]
    have hl := hv.len
    have hfold := fold_loop0 (f := fun t : Int × Bool => changeforgelaw2_SequenceInserts.l1 a o t.1 t.2) a (fun b x => b || (x.Delete && decide (own x = own o))) (fun b => b) false
      (fun i hi b => by
        unfold changeforgelaw2_SequenceInserts.l1
        simp (disch := omega) only [decide_eq_true_eq, if_pos, at_nat hi, Option.bind_some, Same_f, ck_eq]
        cases b with
        | true => simp (disch := omega) only [if_true, Option.bind_some, ck_eq]; rfl
        | false =>
          cases hdi : a[i].Delete with
          | true => simp (disch := omega) only [Bool.false_eq_true, if_false, if_true, Option.bind_some, ck_eq]; rfl
          | false => simp (disch := omega) only [Bool.false_eq_true, if_false, Option.bind_some, ck_eq]; rfl)
      (fun b => by unfold changeforgelaw2_SequenceInserts.l1; rw [ite_dec, if_neg (by omega)])
    rw [hfold, Option.bind_some, foldl_or, Bool.false_or]
    rw [show (a.any fun x => x.Delete && decide (own x = own o)) = delM a (own o) from rfl]
    have hfd := fresh_del hv hv2 hd
    rw [hfd]
    have hdel : delM (a ++ [o]) = delM a := funext fun k => by rw [delM_app, hd]; simp
    have hlen : (vis (a ++ [o])).length = (vis a).length + 1 := by
      rw [vis_cnt hv2, vis_cnt hv, hdel, insL_app, hd, List.countP_append]
      simp [hfd]
    have hsub : List.Sublist (vis a) (vis (a ++ [o])) := by
      unfold vis
      rw [hdel, ins_row hv hv2 hd]
      exact vlines_sub List.filter_sublist
    have hvl := vis_len hv2
    unfold changeforgelaw2_SequenceInserts.j2
    dsimp only
    rw [ck_eq (by omega) (by omega)]
    simp only [Bool.not_false, if_true, Option.bind_some]
    rw [decide_eq_true (by omega), if_pos rfl, follows_f hsub (by omega)]
    simp only [Option.bind_some, if_true, latest_f]

theorem cnt_one {del : K2 → Bool} {k0 : K2} : ∀ {l : List SeqOp}, (l.map own).Nodup → (∃ x ∈ l, own x = k0) → del k0 = false → (l.countP fun o => !del (own o)) = (l.countP fun o => !(del (own o) || decide (k0 = own o))) + 1
  | [], _, h, _ => by obtain ⟨x, hx, _⟩ := h; cases hx
  | y :: l, hn, h, hd => by
    rw [List.map_cons, List.nodup_cons] at hn
    rw [List.countP_cons, List.countP_cons]
    by_cases hy : own y = k0
    · have he : (l.countP fun o => !(del (own o) || decide (k0 = own o))) = l.countP fun o => !del (own o) := by
        refine List.countP_congr fun x hx => ?_
        have : k0 ≠ own x := fun e => hn.1 (by rw [hy, e]; exact List.mem_map_of_mem hx)
        simp [this]
      rw [he, hy, hd]; simp
    · obtain ⟨x, hx, hk⟩ := h
      have hx' : x ∈ l := by
        rcases List.mem_cons.1 hx with rfl | hx
        · exact absurd hk hy
        · exact hx
      rw [cnt_one hn.2 ⟨x, hx', hk⟩ hd]
      have : ¬ k0 = own y := fun e => hy e.symm
      simp only [this, decide_false, Bool.or_false]
      omega

theorem deletes_f (a : List SeqOp) (o : SeqOp) (h : a.length * 56 ≤ 140737488351232) : changeforgelaw2_SequenceDeletes a o = some true := by
  unfold changeforgelaw2_SequenceDeletes changeforgelaw2_SequenceDeletes.j1
  have a1 : app? 56 ([] : List SeqOp) a = some a := by rw [app_eq (by simp only [List.length_nil]; omega), List.nil_append]
  have a2 : app? 56 a [o] = some (a ++ [o]) := app_eq (by simp only [List.length_cons, List.length_nil]; omega)
  have a3 : app? 56 ([] : List SeqOp) (a ++ [o]) = some (a ++ [o]) := by rw [app_eq (by simp only [List.length_append, List.length_cons, List.length_nil]; omega), List.nil_append]
  have a4 : app? 56 (a ++ [o]) [o] = some (a ++ [o] ++ [o]) := app_eq (by simp only [List.length_append, List.length_cons, List.length_nil]; omega)
  simp only [a1, a2, a3, a4, Option.bind_some]
  by_cases hv : Val a
  rotate_left
  · rw [Vis_bad hv, Visible_f, Visible_f]
    have hc : (seqFault a).Code ≠ 0 := fun h => hv (seq_zero.1 h)
    unfold changeforgelaw2_SequenceDeletes.j2
    simp only [Option.bind_some, decide_eq_false hc, Bool.not_false, if_true, latest_f]
  by_cases hv2 : Val (a ++ [o])
  rotate_left
  · rw [Vis_ok hv, Vis_bad hv2, Visible_f]
    have hc : (seqFault (a ++ [o])).Code ≠ 0 := fun h => hv2 (seq_zero.1 h)
    unfold changeforgelaw2_SequenceDeletes.j2
    simp only [Option.bind_some, decide_true, Bool.not_true, Bool.false_eq_true, if_false, decide_eq_false hc, Bool.not_false, if_true, latest_f]
  rw [Vis_ok hv, Vis_ok hv2, Visible_f]
  unfold changeforgelaw2_SequenceDeletes.j2
  simp only [Option.bind_some, decide_true, Bool.not_true, Bool.false_eq_true, if_false]
  cases hd : o.Delete with
  | false => simp only [Bool.not_false, if_true, latest_f, Option.bind_some]
  | true =>
    simp only [Bool.not_true, Bool.false_eq_true, if_false]
    have hl := hv.len
    have hl2 := hv2.len
    have hasc : asc (a ++ [o]) = asc a := by unfold asc; rw [insL_app, hd]; simp
    have hins : insL (a ++ [o]) = insL a := by rw [insL_app, hd]; simp
    have hdel : ∀ k, delM (a ++ [o]) k = (delM a k || decide (own o = k)) := fun k => by rw [delM_app, hd, Bool.true_and]
    have hnd := hv2.ok
    rw [List.map_append, List.nodup_append] at hnd
    have hfd : delM a (own o) = false := by
      cases hx : delM a (own o) with
      | false => rfl
      | true =>
        exfalso
        obtain ⟨x, hx1, hx2, hx3⟩ := delM_iff.1 hx
        exact hnd.2.2 (okey x) (List.mem_map_of_mem hx1) (okey o) (by simp) (by unfold okey; rw [hx2, hd, hx3])
    have hmk : ∃ x ∈ insL a, own x = own o := by
      have hn := hv2.made o (by simp)
      unfold need at hn
      rw [if_pos hd] at hn
      rcases hn with hn | hn
      · exact absurd hn (inR_ne (chk_del (hv2.chk o (by simp))))
      · obtain ⟨y, hy1, hy2, hy3⟩ := insM_iff.1 hn
        refine ⟨y, ?_, hy3⟩
        rw [← hins]; unfold insL; exact List.mem_filter.2 ⟨hy1, by rw [hy2]; rfl⟩
    have hlen : (vis a).length = (vis (a ++ [o])).length + 1 := by
      rw [vis_cnt hv, vis_cnt hv2, hins, cnt_one (insL_nodup hv.nd) hmk hfd]
      congr 1
      refine List.countP_congr fun x hx => ?_
      rw [hdel]
    have hsub : List.Sublist (vis (a ++ [o])) (vis a) := by
      unfold vis vlines
      rw [hasc]
      refine List.Sublist.map _ ?_
      have : (rowF (asc a)).filter (fun x => !delM (a ++ [o]) (own x)) = ((rowF (asc a)).filter fun x => !delM a (own x)).filter fun x => !decide (own o = own x) := by
        rw [List.filter_filter]
        congr 1; funext x; rw [hdel]; cases delM a (own x) <;> simp
      rw [this]
      exact List.filter_sublist
    have hvl := vis_len hv
    rw [ck_eq (by omega) (by omega), Option.bind_some, if_pos (decide_eq_true (by omega)), follows_f hsub (by omega)]
    -- the second deletion
    have hcode : (seqFault (a ++ [o] ++ [o])).Code = 7 ∨ ((a ++ [o]).length = 60 ∧ (seqFault (a ++ [o] ++ [o])).Code = 2) := by
      by_cases h60 : (a ++ [o]).length = 60
      · right
        refine ⟨h60, ?_⟩
        unfold seqFault
        rw [if_pos (by rw [List.length_append, h60]; simp)]
      · left
        unfold seqFault
        have hlt : ¬ ((a ++ [o]) ++ [o]).length > 60 := by simp only [List.length_append, List.length_cons, List.length_nil] at hl2 h60 ⊢; omega
        rw [if_neg hlt]
        have hb : ∀ (j : Nat) (hj : j < (a ++ [o]).length), fault1 ((a ++ [o]) ++ [o]) (0 + j) (((a ++ [o]) ++ [o])[j]'(by rw [List.length_append]; omega)) = Option.none := by
          intro j hj
          have h1 := scn_none.1 (fault1_none.2 ⟨hv2.chk, hv2.nd⟩) j hj
          rw [List.getElem_append_left hj]
          unfold fault1 at h1 ⊢
          rw [List.take_append_of_le_length (by omega)]
          exact h1
        have hlast : fault1 ((a ++ [o]) ++ [o]) (0 + (a ++ [o]).length) (((a ++ [o]) ++ [o])[(a ++ [o]).length]'(by simp)) = some ⟨7, (((0 + (a ++ [o]).length : Nat)) : Int)⟩ := by
          rw [List.getElem_append_right (by omega)]
          simp only [Nat.sub_self, List.getElem_cons_zero]
          unfold fault1
          rw [if_neg (by rw [hv2.chk o (by simp)]; decide), if_pos]
          rw [Nat.zero_add, List.take_append_of_le_length (by omega), List.take_length, List.any_eq_true]
          exact ⟨o, by simp, sameO_iff.2 rfl⟩
        rw [scn_at (g := fault1 ((a ++ [o]) ++ [o])) (k := 0) (l := (a ++ [o]) ++ [o]) (a ++ [o]).length (by simp) (fun j hj hjl => hb j hjl) hlast]
    have hcode2 : (if (seqFault (a ++ [o] ++ [o])).Code = 0 then (vis (a ++ [o] ++ [o]), (⟨0, 0⟩ : Fault)) else ([], seqFault (a ++ [o] ++ [o]))).2.Code = (seqFault (a ++ [o] ++ [o])).Code := by
      split
      · rename_i h0; rw [h0]
      · rfl
    rw [hcode2]
    simp only [Option.bind_some, if_true]
    rcases hcode with h7 | ⟨h60, h2⟩
    · rw [h7]; simp only [decide_true, if_true, Option.bind_some, latest_f]
    · rw [h2, h60]
      simp only [show decide ((2 : Int) = 7) = false from rfl, Bool.false_eq_true, if_false, show decide (((60 : Nat) : Int) = 60) = true from rfl, if_true, decide_true, Option.bind_some, latest_f]

/-! ## merging -/
theorem semilattice (a b c : List SeqOp) : changeforgelaw2_SequenceSemilattice a b c = some true := by
  unfold changeforgelaw2_SequenceSemilattice
  simp only [Merge_f, Option.bind_some, latest_f]
  by_cases h1 : (uni a b).2.Code = 0
  rotate_left
  · rw [decide_eq_false h1]; simp only [Bool.not_false, if_true, Option.bind_some]
  by_cases h2 : (uni b a).2.Code = 0
  rotate_left
  · rw [decide_eq_true h1, decide_eq_false h2]; simp only [Bool.not_true, Bool.false_eq_true, if_false, Bool.not_false, if_true, Option.bind_some]
  have k1 := uni_ok.1 h1
  have k2 := uni_ok.1 h2
  have e1 : (uni a b).1 = (uni b a).1 := srt_uniq (uni_srt k1) (uni_srt k2) fun o => by rw [uni_mem k1, uni_mem k2, or_comm]
  have vx := uni_val k1
  have mx := uni_mem k1
  -- merging once more
  have k3 : MergeOk (uni a b).1 a := by
    have hcl : ∀ o ∈ a, ∀ x ∈ (uni a b).1, okey x = okey o → x = o := by
      intro o ho x hx hk
      exact okey_nd (srt_nodup (uni_srt k1)) hx ((mx o).2 (.inl ho)) hk
    refine ⟨vx, k1.va, hcl, ?_⟩
    have : news (uni a b).1 a = [] := by
      unfold news
      rw [List.filter_eq_nil_iff]
      intro o ho
      have : known (uni a b).1 o = true := List.any_eq_true.2 ⟨o, (mx o).2 (.inl ho), sameO_iff.2 rfl⟩
      rw [this]; simp
    rw [this, List.append_nil]; exact vx.len
  have e3 : (uni (uni a b).1 a).1 = (uni a b).1 := srt_uniq (uni_srt k3) (uni_srt k1) fun o => by
    rw [uni_mem k3, mx]
    constructor
    · rintro (h | h)
      · exact h
      · exact .inl h
    · exact .inl
  have h3 := uni_ok.2 k3
  have l1 : (uni a b).1.length ≤ 1000 := by have := vx.len; omega
  rw [decide_eq_true h1, decide_eq_true h2]
  simp only [Bool.not_true, Bool.false_eq_true, if_false, Option.bind_some]
  rw [← e1, ops_refl _ l1, decide_eq_true h3, e3, ops_refl _ l1]
  simp only [Bool.not_true, Bool.false_eq_true, if_false, Option.bind_some]
  by_cases h4 : (uni (uni a b).1 c).2.Code = 0
  rotate_left
  · rw [decide_eq_false h4]; simp only [Bool.not_false, if_true, Option.bind_some]
  by_cases h5 : (uni b c).2.Code = 0
  rotate_left
  · rw [decide_eq_true h4, decide_eq_false h5]; simp only [Bool.not_true, Bool.false_eq_true, if_false, Bool.not_false, if_true, Option.bind_some]
  by_cases h6 : (uni a (uni b c).1).2.Code = 0
  rotate_left
  · rw [decide_eq_true h4, decide_eq_true h5, decide_eq_false h6]; simp only [Bool.not_true, Bool.false_eq_true, if_false, Bool.not_false, if_true, Option.bind_some]
  have k4 := uni_ok.1 h4
  have k5 := uni_ok.1 h5
  have k6 := uni_ok.1 h6
  have e6 : (uni (uni a b).1 c).1 = (uni a (uni b c).1).1 := srt_uniq (uni_srt k4) (uni_srt k6) fun o => by
    rw [uni_mem k4, mx, uni_mem k6, uni_mem k5, or_assoc]
  rw [decide_eq_true h4, decide_eq_true h5, decide_eq_true h6]
  simp only [Bool.not_true, Bool.false_eq_true, if_false, Option.bind_some]
  rw [e6, ops_refl _ (by have := (uni_val k6).len; omega)]
  simp only [Option.bind_some, if_true]
end Go.Dc
