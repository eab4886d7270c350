/- Replicated sequences: lines that are typed one after the other. -/
import Derived.Test.YtibigfejalemjaaDcGG
set_option linter.unusedSimpArgs false
set_option linter.unusedVariables false
namespace Go.Dc
open Go

def tOp (rep : Int) (i : Nat) (s : ByteArray) : SeqOp := { Delete := false, Replica := rep, Counter := (i : Int) + 1, AfterReplica := if i = 0 then 0 else rep, AfterCounter := (i : Int), Line := s }
def tOps (rep : Int) : Nat → List ByteArray → List SeqOp
  | _, [] => []
  | i, s :: r => tOp rep i s :: tOps rep (i + 1) r

theorem tOps_snoc (rep : Int) (s : ByteArray) : ∀ (l : List ByteArray) (i : Nat), tOps rep i (l ++ [s]) = tOps rep i l ++ [tOp rep (i + l.length) s]
  | [], i => by simp [tOps]
  | x :: l, i => by
    rw [List.cons_append, tOps, tOps, tOps_snoc rep s l (i + 1), List.length_cons, show i + 1 + l.length = i + (l.length + 1) by omega]; rfl

theorem tOps_len (rep : Int) : ∀ (l : List ByteArray) (i : Nat), (tOps rep i l).length = l.length
  | [], _ => rfl
  | x :: l, i => by rw [tOps, List.length_cons, tOps_len rep l, List.length_cons]

theorem tOps_get (rep : Int) : ∀ (l : List ByteArray) (i j : Nat) (h : j < (tOps rep i l).length), (tOps rep i l)[j] = tOp rep (i + j) (l[j]'(by rwa [tOps_len] at h))
  | [], _, _, h => absurd h (by simp [tOps])
  | x :: l, i, 0, h => rfl
  | x :: l, i, j + 1, h => by
    have h' : j < (tOps rep (i + 1) l).length := by simpa [tOps] using h
    have := tOps_get rep l (i + 1) j h'
    simp only [tOps, List.getElem_cons_succ]
    rw [this, show i + 1 + j = i + (j + 1) by omega]

theorem tOps_mem {rep : Int} {l : List ByteArray} {o : SeqOp} (h : o ∈ tOps rep 0 l) : ∃ j, ∃ hj : j < l.length, o = tOp rep j l[j] := by
  obtain ⟨j, hj, rfl⟩ := List.getElem_of_mem h
  refine ⟨j, by rwa [tOps_len] at hj, ?_⟩
  rw [tOps_get, Nat.zero_add]

theorem mem_tOps {rep : Int} {l : List ByteArray} {j : Nat} (hj : j < l.length) : tOp rep j l[j] ∈ tOps rep 0 l := by
  have h : j < (tOps rep 0 l).length := by rw [tOps_len]; exact hj
  have := tOps_get rep l 0 j h
  rw [Nat.zero_add] at this
  rw [← this]; exact List.getElem_mem _

theorem tOp_own (rep : Int) (i : Nat) (s : ByteArray) : own (tOp rep i s) = ((i : Int) + 1, rep) := rfl

theorem tOps_up (rep : Int) (l : List ByteArray) : (tOps rep 0 l).Pairwise fun a b => kLt (own a) (own b) = true := by
  rw [List.pairwise_iff_getElem]
  intro i j hi hj hij
  rw [tOps_get, tOps_get, tOp_own, tOp_own]
  unfold kLt
  simp only [Bool.or_eq_true, decide_eq_true_eq]
  left; omega

theorem okText_one {l : List ByteArray} (h : OkText l) {s : ByteArray} (hs : s ∈ l) : textFault [s] = ⟨0, 0⟩ :=
  (okText_iff _).1 ⟨by simp, fun t ht => by rw [List.mem_singleton.1 ht]; exact h.2 s hs⟩

theorem tOp_chk {rep : Int} (h0 : 0 ≤ rep) (h6 : rep < 6) {i : Nat} (hi : i < 1000) {s : ByteArray} (hs : textFault [s] = ⟨0, 0⟩) : chk (tOp rep i s) = 0 := by
  unfold chk
  have e1 : inR (own (tOp rep i s)) = true := by
    rw [tOp_own]; unfold inR
    simp only [Bool.and_eq_true, decide_eq_true_eq]; omega
  have e2 : aft (tOp rep i s) ≠ (0, 0) → inR (aft (tOp rep i s)) = true := by
    intro hne
    unfold aft tOp at hne ⊢
    simp only at hne ⊢
    cases i with
    | zero => simp at hne
    | succ i =>
      unfold inR
      simp only [Bool.and_eq_true, decide_eq_true_eq, Nat.add_eq_zero_iff, Nat.succ_ne_zero, and_false, if_false]; omega
  have e3 : kLt (aft (tOp rep i s)) (own (tOp rep i s)) = true := by
    unfold kLt aft own tOp
    simp only [Bool.or_eq_true, decide_eq_true_eq]; left; omega
  have e4 : (tOp rep i s).Line = s := rfl
  have e5 : (tOp rep i s).Delete = false := rfl
  rw [e1, e3, e4, e5, hs]
  simp only [Bool.true_eq_false, if_false, Bool.false_eq_true, false_and, true_and]
  rw [if_neg]
  rintro ⟨h1, h2⟩
  rw [e2 h1] at h2; cases h2

theorem tOps_made {rep : Int} {l : List ByteArray} : ∀ o ∈ tOps rep 0 l, aft o = (0, 0) ∨ ∃ y ∈ tOps rep 0 l, own y = aft o := by
  intro o ho
  obtain ⟨j, hj, rfl⟩ := tOps_mem ho
  cases j with
  | zero => left; rfl
  | succ j =>
    right
    refine ⟨_, mem_tOps (j := j) (by omega), ?_⟩
    rw [tOp_own]
    unfold aft tOp
    simp

theorem tOps_row {rep : Int} : ∀ (n : Nat) (l : List ByteArray), l.length = n → (∀ o ∈ tOps rep 0 l, own o ≠ (0, 0)) → rowF (tOps rep 0 l) = tOps rep 0 l := by
  intro n
  induction n with
  | zero =>
    intro l hl _
    have : l = [] := List.eq_nil_of_length_eq_zero hl
    subst this; rfl
  | succ n ih =>
    intro l hl h0
    rcases List.eq_nil_or_concat l with rfl | ⟨m, s, rfl⟩
    · simp at hl
    · rw [List.concat_eq_append] at *
      have hm : m.length = n := by simpa using hl
      rw [tOps_snoc, Nat.zero_add] at h0 ⊢
      rw [rowF_snoc, ih m hm fun o ho => h0 o (by simp [ho])]
      unfold insX
      rcases List.eq_nil_or_concat m with rfl | ⟨m', t, rfl⟩
      · rfl
      · rw [List.concat_eq_append] at *
        have hlen : (m' ++ [t]).length = m'.length + 1 := by simp
        have ha : aft (tOp rep (m' ++ [t]).length s) = own (tOp rep m'.length t) := by
          rw [hlen, tOp_own]; unfold aft tOp; simp
        have hz : aft (tOp rep (m' ++ [t]).length s) ≠ (0, 0) := by
          rw [hlen]; unfold aft tOp; simp only [ne_eq, Prod.mk.injEq, not_and]; omega
        rw [if_neg hz, List.nil_append, ha]
        rw [tOps_snoc, Nat.zero_add, insA_append, insA_cons, if_pos rfl]
        have hnone : insA (own (tOp rep m'.length t)) (tOp rep (m' ++ [t]).length s) (tOps rep 0 m') = tOps rep 0 m' := insA_none fun o ho e => by
          obtain ⟨j, hj, rfl⟩ := tOps_mem ho
          rw [tOp_own, tOp_own, Prod.mk.injEq] at e; omega
        rw [hnone]
        simp [insA]

theorem tOps_lines (rep : Int) : ∀ (l : List ByteArray) (i : Nat), (tOps rep i l).map (·.Line) = l
  | [], _ => rfl
  | x :: l, i => by rw [tOps, List.map_cons, tOps_lines rep l]; rfl

theorem tOps_ins (rep : Int) (l : List ByteArray) : insL (tOps rep 0 l) = tOps rep 0 l := List.filter_eq_self.2 fun o ho => by
  obtain ⟨j, hj, rfl⟩ := tOps_mem ho; rfl

theorem tOps_val {rep : Int} (h0 : 0 ≤ rep) (h6 : rep < 6) {l : List ByteArray} (hl : l.length ≤ 60) (ht : OkText l) : Val (tOps rep 0 l) := by
  refine ⟨by rw [tOps_len]; exact hl, fun o ho => ?_, ?_, fun o ho => ?_⟩
  · obtain ⟨j, hj, rfl⟩ := tOps_mem ho
    exact tOp_chk h0 h6 (by omega) (okText_one ht (List.getElem_mem _))
  · rw [List.nodup_iff_pairwise_ne, List.pairwise_map]
    refine (tOps_up rep l).imp fun {a b} hab e => ?_
    simp only [Prod.mk.injEq] at e
    exact kLt_ne hab e.1
  · obtain ⟨j, hj, rfl⟩ := tOps_mem ho
    rw [show need (tOp rep j l[j]) = aft (tOp rep j l[j]) from rfl]
    rcases tOps_made _ ho with h | ⟨y, hy, he⟩
    · exact .inl h
    · refine .inr (insM_iff.2 ⟨y, hy, ?_, he⟩)
      obtain ⟨j', hj', rfl⟩ := tOps_mem hy; rfl

theorem tOps_vis {rep : Int} {l : List ByteArray} (hv : Val (tOps rep 0 l)) : vis (tOps rep 0 l) = l := by
  have ha : asc (tOps rep 0 l) = tOps rep 0 l := asc_of hv (by rw [tOps_ins]) ((tOps_up rep l).imp fun {a b} hab => by rw [kLt_asymm hab]; rfl)
  have hr := tOps_row (rep := rep) _ l rfl fun o ho => inR_ne (chk_del (hv.chk o ho))
  unfold vis vlines
  rw [ha, hr]
  have hd : (tOps rep 0 l).filter (fun o => !delM (tOps rep 0 l) (own o)) = tOps rep 0 l := List.filter_eq_self.2 fun o ho => by
    cases hx : delM (tOps rep 0 l) (own o) with
    | false => rfl
    | true =>
      obtain ⟨y, hy, h1, _⟩ := delM_iff.1 hx
      obtain ⟨j, hj, rfl⟩ := tOps_mem hy
      cases h1
  rw [hd, tOps_lines]

theorem tOps_of_val {rep : Int} {l : List ByteArray} (hv : Val (tOps rep 0 l)) (hne : 0 < l.length) : 0 ≤ rep ∧ rep < 6 ∧ l.length ≤ 60 ∧ OkText l := by
  have hl : l.length ≤ 60 := by have := hv.len; rwa [tOps_len] at this
  have h1 := chk_del (hv.chk _ (mem_tOps hne))
  rw [tOp_own] at h1
  unfold inR at h1
  simp only [Bool.and_eq_true, decide_eq_true_eq] at h1
  refine ⟨h1.1.2, h1.2, hl, by omega, fun s hs => ?_⟩
  obtain ⟨j, hj, rfl⟩ := List.getElem_of_mem hs
  have h2 := hv.chk _ (mem_tOps hj)
  have h3 : (textFault [l[j]]).Code = 0 := by
    have hd := chk_lt h2 rfl
    have hi := chk_del h2
    unfold chk at h2
    rw [hi, hd, show (tOp rep j l[j]).Delete = false from rfl] at h2
    simp only [Bool.true_eq_false, if_false, Bool.false_eq_true, false_and, true_and, and_false] at h2
    split at h2
    · cases h2
    · exact h2
  have h4 := (okText_iff [l[j]]).2 ((textFault_zero _).2 h3)
  exact h4.2 _ (by simp)

theorem typed_loop (l : List ByteArray) (rep : Int) (hl : l.length ≤ 1048576) : iter (fun s => changeforgelaw2_SequenceTyped.l1 l rep s.1 s.2) (0, []) = some (tOps rep 0 l) := by
  obtain ⟨r, hr, rfl⟩ := inv_loop (f := fun s : Int × List SeqOp => changeforgelaw2_SequenceTyped.l1 l rep s.1 s.2) l.length
    (fun k out => out = tOps rep 0 (l.take k)) (fun r => r = tOps rep 0 l)
    (by
      rintro k out hk rfl
      unfold changeforgelaw2_SequenceTyped.l1 changeforgelaw2_insert changeforgelaw2_SequenceTyped.j2
      simp (disch := omega) only [decide_eq_true_eq, if_pos, ck_eq, at_nat hk, Option.bind_some]
      have hlen : (tOps rep 0 (l.take k)).length = k := by rw [tOps_len, List.length_take]; omega
      have hnext : tOps rep 0 (l.take (k + 1)) = tOps rep 0 (l.take k) ++ [tOp rep k l[k]] := by
        rw [List.take_succ_eq_append_getElem hk, tOps_snoc, Nat.zero_add, List.length_take, Nat.min_eq_left (by omega)]
      by_cases h0 : (k : Int) = 0
      · rw [if_pos h0, app_eq (by simp only [hlen, List.length_cons, List.length_nil]; omega), Option.bind_some]
        refine ⟨_, rfl, ?_⟩
        rw [hnext]; unfold tOp; rw [if_pos (by omega)]
      · rw [if_neg h0, app_eq (by simp only [hlen, List.length_cons, List.length_nil]; omega), Option.bind_some]
        refine ⟨_, rfl, ?_⟩
        rw [hnext]; unfold tOp; rw [if_neg (by omega)])
    (by
      rintro out rfl
      unfold changeforgelaw2_SequenceTyped.l1
      rw [ite_dec, if_neg (by omega), List.take_length]
      exact ⟨_, rfl, rfl⟩)
    [] rfl
  exact hr

theorem msum_len1 : ∀ l : List ByteArray, l.length ≤ msum l
  | [] => Nat.le_refl _
  | x :: l => by
    have h1 : 1 ≤ Msr.m x := Nat.le_add_left _ _
    have := msum_len1 l
    simp only [msum, List.length_cons]; omega

theorem typed_f (l : List ByteArray) (rep : Int) (h : Msr.m l + Msr.m rep ≤ 1048576) : changeforgelaw2_SequenceTyped l rep = some true := by
  have e : Msr.m l = msum l + 1 := rfl
  have hl : l.length ≤ 1048576 := by have := msum_len1 l; omega
  unfold changeforgelaw2_SequenceTyped
  rw [typed_loop l rep hl, Option.bind_some]
  unfold changeforgelaw2_SequenceTyped.j1
  have hbad : ∀ hn : ¬ (0 ≤ rep ∧ rep < 6 ∧ l.length ≤ 60 ∧ OkText l), (sequence_Visible (tOps rep 0 l)).bind (fun y1 =>
      (if decide ((!decide (y1.2.Code = 0)) = decide ((l.length : Int) > 0)) = true then (changeforgelaw2_latest).bind fun y3 => some y3 else some false).bind fun x5 => some x5) = some true := by
    intro hn
    by_cases hz : l = []
    · subst hz
      have hv : Val (tOps rep 0 []) := ⟨by simp [tOps], fun o ho => (by cases ho), by simp [tOps], fun o ho => (by cases ho)⟩
      rw [Vis_ok hv]
      simp [latest_f]
    · have hpos : 0 < l.length := List.length_pos_iff.2 hz
      have hv : ¬ Val (tOps rep 0 l) := fun hv => hn (tOps_of_val hv hpos)
      rw [Vis_bad hv]
      have hc : (seqFault (tOps rep 0 l)).Code ≠ 0 := fun h => hv (seq_zero.1 h)
      simp only [Option.bind_some, decide_eq_false hc, Bool.not_false]
      rw [decide_eq_true (show (l.length : Int) > 0 by omega)]
      simp [latest_f]
  simp only [validate_f, Option.bind_some]
  by_cases h0 : rep < 0
  · rw [decide_eq_true h0]
    simp only [if_true, Option.bind_some]
    exact hbad fun hh => by omega
  by_cases h6 : rep ≥ 6
  · rw [decide_eq_false h0, decide_eq_true h6]
    simp only [Bool.false_eq_true, if_false, if_true, Option.bind_some]
    exact hbad fun hh => by omega
  by_cases h60 : (l.length : Int) > 60
  · rw [decide_eq_false h0, decide_eq_false h6, decide_eq_true h60]
    simp only [Bool.false_eq_true, if_false, if_true, Option.bind_some]
    exact hbad fun hh => by omega
  by_cases ht : (textFault l).Code = 0
  rotate_left
  · rw [decide_eq_false h0, decide_eq_false h6, decide_eq_false h60, decide_eq_false ht]
    simp only [Bool.false_eq_true, if_false, Bool.not_false, if_true, Option.bind_some]
    exact hbad fun hh => ht ((textFault_zero l).1 ((okText_iff l).1 hh.2.2.2))
  · rw [decide_eq_false h0, decide_eq_false h6, decide_eq_false h60, decide_eq_true ht]
    have hv : Val (tOps rep 0 l) := tOps_val (by omega) (by omega) (by omega) ((okText_iff l).2 ((textFault_zero l).2 ht))
    rw [Vis_ok hv, tOps_vis hv]
    simp only [Bool.false_eq_true, if_false, Bool.not_true, Option.bind_some, decide_true, if_true]
    rw [strings_eq _ _ (by omega)]
    simp [latest_f]
end Go.Dc
