/- Composing two patches: the walk, and the answer. -/
import Derived.Test.YtgcjgmfdnhimmaaDcQK
set_option linter.unusedSimpArgs false
set_option linter.unusedVariables false
namespace Go.Dc
open Go

theorem Cs.del_nil (s : Cs) : s.del [] = s := by unfold Cs.del; rw [List.append_nil]
theorem Cs.del_del (s : Cs) (a b : List ByteArray) : (s.del a).del b = s.del (a ++ b) := by unfold Cs.del; rw [List.append_assoc]
theorem Cs.ins_nil (s : Cs) : s.ins [] = s := by unfold Cs.ins; rw [List.append_nil]
theorem Cs.ins_ins (s : Cs) (a b : List ByteArray) : (s.ins a).ins b = s.ins (a ++ b) := by unfold Cs.ins; rw [List.append_assoc]
def Cs.step (s : Cs) (m : Mid) : Cs := if m.inserted = true then (s.del m.before).ins [m.line] else (s.del m.before).keep
def Cs.eat (s : Cs) (m : Mid) (x : ByteArray) : Cs := if m.inserted = true then s.del m.before else s.del (m.before ++ [x])
def eats : List Mid → List ByteArray → Cs → Cs
  | m :: ms, x :: xs, s => eats ms xs (s.eat m x)
  | _, _, s => s
def wlk : Nat → List Hunk → List Mid → Cs → Cs
  | _, [], M, s => M.foldl Cs.step s
  | e, h :: r, M, s => wlk (h.At.toNat + h.Old.length) r (M.drop (h.At.toNat - e + h.Old.length)) (eats (M.drop (h.At.toNat - e)) h.Old (((M.take (h.At.toNat - e)).foldl Cs.step s).ins h.New))
def cost : List Mid → Nat
  | [] => 0
  | m :: r => m.before.length + 2 + cost r
theorem cost_append : ∀ a b : List Mid, cost (a ++ b) = cost a + cost b
  | [], b => by simp [cost]
  | m :: r, b => by rw [List.cons_append, cost, cost, cost_append r b]; omega
theorem cost_drop (l : List Mid) (k : Nat) : cost (l.take k) + cost (l.drop k) = cost l := by rw [← cost_append, List.take_append_drop]
theorem cost_at {l : List Mid} {k : Nat} (h : k < l.length) : cost (l.drop k) = l[k].before.length + 2 + cost (l.drop (k + 1)) := by rw [List.drop_eq_getElem_cons h, cost]
theorem Cs.step_sz (s : Cs) (m : Mid) (h : 0 ≤ s.pos) : 0 ≤ (s.step m).pos ∧ (s.step m).sz ≤ s.sz + (m.before.length + 2) := by
  unfold Cs.step
  split
  · exact ⟨h, by rw [Cs.sz_ins, Cs.sz_del, List.length_singleton]; omega⟩
  · refine ⟨by show 0 ≤ s.pos + ((s.pd ++ m.before).length : Int) + 1; omega, ?_⟩
    have := (s.del m.before).sz_keep h
    rw [Cs.sz_del] at this; omega
theorem Cs.eat_sz (s : Cs) (m : Mid) (x : ByteArray) (h : 0 ≤ s.pos) : 0 ≤ (s.eat m x).pos ∧ (s.eat m x).sz ≤ s.sz + (m.before.length + 2) := by
  unfold Cs.eat
  split
  · exact ⟨h, by rw [Cs.sz_del]; omega⟩
  · exact ⟨h, by rw [Cs.sz_del, List.length_append, List.length_singleton]; omega⟩
theorem fold_sz : ∀ (l : List Mid) (s : Cs), 0 ≤ s.pos → 0 ≤ (l.foldl Cs.step s).pos ∧ (l.foldl Cs.step s).sz ≤ s.sz + cost l
  | [], s, h => ⟨h, by simp [cost]⟩
  | m :: r, s, h => by
    obtain ⟨a, b⟩ := s.step_sz m h
    obtain ⟨c, d⟩ := fold_sz r (s.step m) a
    rw [List.foldl_cons, cost]; exact ⟨c, by omega⟩
theorem eats_sz : ∀ (l : List Mid) (xs : List ByteArray) (s : Cs), xs.length ≤ l.length → 0 ≤ s.pos → 0 ≤ (eats l xs s).pos ∧ (eats l xs s).sz ≤ s.sz + cost (l.take xs.length)
  | [], [], s, _, h => ⟨h, by simp [eats]⟩
  | m :: r, [], s, _, h => ⟨h, by simp [eats]⟩
  | [], x :: xs, s, hl, h => by simp at hl
  | m :: r, x :: xs, s, hl, h => by
    obtain ⟨a, b⟩ := s.eat_sz m x h
    obtain ⟨c, d⟩ := eats_sz r xs (s.eat m x) (by simpa using hl) a
    rw [eats, List.length_cons, List.take_succ_cons, cost]; exact ⟨c, by omega⟩

theorem wd2 (y : Mid) (hy : y.before.length ≤ 1000000) : ∀ (rest : List ByteArray) (k : Nat) (s : Cs), y.before.drop k = rest → 0 ≤ s.pos → s.sz + rest.length ≤ 1000000 → iter (fun t => textpatch_walk.l2 y t.1 t.2.1 t.2.2.1 t.2.2.2) ((k : Int), s.t3) = some (s.del rest).t3 := by
  intro rest
  induction rest with
  | nil =>
    intro k s hk _ _
    have := drop_end hk
    refine iter_done ?_
    simp only
    unfold textpatch_walk.l2
    rw [ite_dec, if_neg (by omega), Cs.del_nil]
  | cons x r ih =>
    intro k s hk h0 hs
    obtain ⟨hlt, hh, hr⟩ := drop_at hk
    rw [List.length_cons] at hs
    have e0 : textpatch_walk.l2 y (k : Int) s.enc.hunks s.enc.at_ s.enc.open_ = some (.next (((k + 1 : Nat) : Int), (s.del [x]).t3)) := by
      unfold textpatch_walk.l2
      rw [ite_dec, if_pos (by omega), at_nat hlt, Option.bind_some, hh]
      show ((diff_Collector__Delete s.enc x).bind _) = _
      rw [coll_del s x h0 (by omega), Option.bind_some, ck_eq (by omega) (by omega)]; rfl
    rw [iter_next (m := fun t : Int × List Hunk × Int × Bool => textpatch_walk.l2 y t.1 t.2.1 t.2.2.1 t.2.2.2) (s := ((k : Int), s.t3)) e0, ih (k + 1) (s.del [x]) hr h0 (by rw [Cs.sz_del, List.length_singleton]; omega), Cs.del_del]; rfl

theorem wd5 (y : Mid) (hy : y.before.length ≤ 1000000) : ∀ (rest : List ByteArray) (k : Nat) (s : Cs), y.before.drop k = rest → 0 ≤ s.pos → s.sz + rest.length ≤ 1000000 → iter (fun t => textpatch_walk.l5 y t.1 t.2.1 t.2.2.1 t.2.2.2) ((k : Int), s.t3) = some (s.del rest).t3 := by
  intro rest
  induction rest with
  | nil =>
    intro k s hk _ _
    have := drop_end hk
    refine iter_done ?_
    simp only
    unfold textpatch_walk.l5
    rw [ite_dec, if_neg (by omega), Cs.del_nil]
  | cons x r ih =>
    intro k s hk h0 hs
    obtain ⟨hlt, hh, hr⟩ := drop_at hk
    rw [List.length_cons] at hs
    have e0 : textpatch_walk.l5 y (k : Int) s.enc.hunks s.enc.at_ s.enc.open_ = some (.next (((k + 1 : Nat) : Int), (s.del [x]).t3)) := by
      unfold textpatch_walk.l5
      rw [ite_dec, if_pos (by omega), at_nat hlt, Option.bind_some, hh]
      show ((diff_Collector__Delete s.enc x).bind _) = _
      rw [coll_del s x h0 (by omega), Option.bind_some, ck_eq (by omega) (by omega)]; rfl
    rw [iter_next (m := fun t : Int × List Hunk × Int × Bool => textpatch_walk.l5 y t.1 t.2.1 t.2.2.1 t.2.2.2) (s := ((k : Int), s.t3)) e0, ih (k + 1) (s.del [x]) hr h0 (by rw [Cs.sz_del, List.length_singleton]; omega), Cs.del_del]; rfl

theorem wd8 (y : Mid) (hy : y.before.length ≤ 1000000) : ∀ (rest : List ByteArray) (k : Nat) (s : Cs), y.before.drop k = rest → 0 ≤ s.pos → s.sz + rest.length ≤ 1000000 → iter (fun t => textpatch_walk.l8 y t.1 t.2.1 t.2.2.1 t.2.2.2) ((k : Int), s.t3) = some (s.del rest).t3 := by
  intro rest
  induction rest with
  | nil =>
    intro k s hk _ _
    have := drop_end hk
    refine iter_done ?_
    simp only
    unfold textpatch_walk.l8
    rw [ite_dec, if_neg (by omega), Cs.del_nil]
  | cons x r ih =>
    intro k s hk h0 hs
    obtain ⟨hlt, hh, hr⟩ := drop_at hk
    rw [List.length_cons] at hs
    have e0 : textpatch_walk.l8 y (k : Int) s.enc.hunks s.enc.at_ s.enc.open_ = some (.next (((k + 1 : Nat) : Int), (s.del [x]).t3)) := by
      unfold textpatch_walk.l8
      rw [ite_dec, if_pos (by omega), at_nat hlt, Option.bind_some, hh]
      show ((diff_Collector__Delete s.enc x).bind _) = _
      rw [coll_del s x h0 (by omega), Option.bind_some, ck_eq (by omega) (by omega)]; rfl
    rw [iter_next (m := fun t : Int × List Hunk × Int × Bool => textpatch_walk.l8 y t.1 t.2.1 t.2.2.1 t.2.2.2) (s := ((k : Int), s.t3)) e0, ih (k + 1) (s.del [x]) hr h0 (by rw [Cs.sz_del, List.length_singleton]; omega), Cs.del_del]; rfl

theorem wi6 (h : Hunk) (hn : h.New.length ≤ 120) : ∀ (rest : List ByteArray) (k : Nat) (s : Cs), h.New.drop k = rest → 0 ≤ s.pos → s.sz + rest.length ≤ 1000000 → iter (fun t => textpatch_walk.l6 h t.1 t.2.1 t.2.2.1 t.2.2.2) ((k : Int), s.t3) = some (s.ins rest).t3 := by
  intro rest
  induction rest with
  | nil =>
    intro k s hk _ _
    have := drop_end hk
    refine iter_done ?_
    simp only
    unfold textpatch_walk.l6
    rw [ite_dec, if_neg (by omega), Cs.ins_nil]
  | cons x r ih =>
    intro k s hk h0 hs
    obtain ⟨hlt, hh, hr⟩ := drop_at hk
    rw [List.length_cons] at hs
    have e0 : textpatch_walk.l6 h (k : Int) s.enc.hunks s.enc.at_ s.enc.open_ = some (.next (((k + 1 : Nat) : Int), (s.ins [x]).t3)) := by
      unfold textpatch_walk.l6
      rw [ite_dec, if_pos (by omega), at_nat hlt, Option.bind_some, hh]
      show ((diff_Collector__Insert s.enc x).bind _) = _
      rw [coll_ins s x h0 (by omega), Option.bind_some, ck_eq (by omega) (by omega)]; rfl
    rw [iter_next (m := fun t : Int × List Hunk × Int × Bool => textpatch_walk.l6 h t.1 t.2.1 t.2.2.1 t.2.2.2) (s := ((k : Int), s.t3)) e0, ih (k + 1) (s.ins [x]) hr h0 (by rw [Cs.sz_ins, List.length_singleton]; omega), Cs.ins_ins]; rfl

theorem ws7 (mid : List Mid) (hm : cost mid ≤ 900000) (h : Hunk) (hA : h.At ≤ 120) : ∀ (n k : Nat) (s : Cs), (k : Int) + n = h.At → k + n ≤ mid.length → 0 ≤ s.pos → s.sz + cost (mid.drop k) ≤ 1000000 → iter (fun t => textpatch_walk.l7 mid h t.1 t.2.1 t.2.2.1 t.2.2.2) ((k : Int), s.t3) = some (h.At, (((mid.drop k).take n).foldl Cs.step s).t3) := by
  intro n
  induction n with
  | zero =>
    intro k s hk hl _ _
    refine iter_done ?_
    simp only
    unfold textpatch_walk.l7
    rw [ite_dec, if_neg (by omega), List.take_zero]
    rw [show h.At = (k : Int) by omega]; rfl
  | succ n ih =>
    intro k s hk hl h0 hs
    have hlt : k < mid.length := by omega
    have hc := cost_at hlt
    have hcd := cost_drop mid k
    have hkl : k + 1 ≤ 9000000 := by
      have : ∀ l : List Mid, 2 * l.length ≤ cost l := by
        intro l
        induction l with
        | nil => simp [cost]
        | cons m r ih => rw [cost, List.length_cons]; omega
      have := this mid
      omega
    obtain ⟨p0, p1⟩ := s.step_sz mid[k] h0
    have d0 := wd8 mid[k] (by omega) mid[k].before 0 s rfl h0 (by omega)
    have e0 : textpatch_walk.l7 mid h (k : Int) s.enc.hunks s.enc.at_ s.enc.open_ = some (.next (((k + 1 : Nat) : Int), (s.step mid[k]).t3)) := by
      unfold textpatch_walk.l7
      rw [ite_dec, if_pos (by omega), at_nat hlt, Option.bind_some, show (0 : Int) = ((0 : Nat) : Int) from rfl, d0, Option.bind_some]
      unfold textpatch_walk.j13 Cs.step
      by_cases hi : mid[k].inserted = true
      · rw [if_pos hi, if_pos hi]
        show ((diff_Collector__Insert (s.del mid[k].before).enc mid[k].line).bind _) = _
        rw [coll_ins (s.del mid[k].before) _ h0 (by rw [Cs.sz_del]; omega), Option.bind_some]
        unfold textpatch_walk.j12
        rw [ck_eq (by omega) (by omega)]; rfl
      · rw [if_neg hi, if_neg hi]
        show ((diff_Collector__Keep (s.del mid[k].before).enc 1).bind _) = _
        rw [coll_keep (s.del mid[k].before) h0 (by rw [Cs.sz_del]; omega), Option.bind_some]
        unfold textpatch_walk.j12
        rw [ck_eq (by omega) (by omega)]; rfl
    rw [iter_next (m := fun t : Int × List Hunk × Int × Bool => textpatch_walk.l7 mid h t.1 t.2.1 t.2.2.1 t.2.2.2) (s := ((k : Int), s.t3)) e0, ih (k + 1) (s.step mid[k]) (by omega) (by omega) p0 (by omega), List.drop_eq_getElem_cons hlt, List.take_succ_cons, List.foldl_cons]

theorem ws1 (mid : List Mid) (hm : cost mid ≤ 900000) (h : Hunk) (hA : h.At ≤ 120) : ∀ (n k : Nat) (s : Cs), k + n = mid.length → k + n ≤ mid.length → 0 ≤ s.pos → s.sz + cost (mid.drop k) ≤ 1000000 → iter (fun t => textpatch_walk.l1 mid t.1 t.2.1 t.2.2.1 t.2.2.2) ((k : Int), s.t3) = some (((mid.drop k).take n).foldl Cs.step s).t3 := by
  intro n
  induction n with
  | zero =>
    intro k s hk hl _ _
    refine iter_done ?_
    simp only
    unfold textpatch_walk.l1
    rw [ite_dec, if_neg (by omega), List.take_zero]
    rfl
  | succ n ih =>
    intro k s hk hl h0 hs
    have hlt : k < mid.length := by omega
    have hc := cost_at hlt
    have hcd := cost_drop mid k
    have hkl : k + 1 ≤ 9000000 := by
      have : ∀ l : List Mid, 2 * l.length ≤ cost l := by
        intro l
        induction l with
        | nil => simp [cost]
        | cons m r ih => rw [cost, List.length_cons]; omega
      have := this mid
      omega
    obtain ⟨p0, p1⟩ := s.step_sz mid[k] h0
    have d0 := wd2 mid[k] (by omega) mid[k].before 0 s rfl h0 (by omega)
    have e0 : textpatch_walk.l1 mid (k : Int) s.enc.hunks s.enc.at_ s.enc.open_ = some (.next (((k + 1 : Nat) : Int), (s.step mid[k]).t3)) := by
      unfold textpatch_walk.l1
      rw [ite_dec, if_pos (by omega), at_nat hlt, Option.bind_some, show (0 : Int) = ((0 : Nat) : Int) from rfl, d0, Option.bind_some]
      unfold textpatch_walk.j4 Cs.step
      by_cases hi : mid[k].inserted = true
      · rw [if_pos hi, if_pos hi]
        show ((diff_Collector__Insert (s.del mid[k].before).enc mid[k].line).bind _) = _
        rw [coll_ins (s.del mid[k].before) _ h0 (by rw [Cs.sz_del]; omega), Option.bind_some]
        unfold textpatch_walk.j3
        rw [ck_eq (by omega) (by omega)]; rfl
      · rw [if_neg hi, if_neg hi]
        show ((diff_Collector__Keep (s.del mid[k].before).enc 1).bind _) = _
        rw [coll_keep (s.del mid[k].before) h0 (by rw [Cs.sz_del]; omega), Option.bind_some]
        unfold textpatch_walk.j3
        rw [ck_eq (by omega) (by omega)]; rfl
    rw [iter_next (m := fun t : Int × List Hunk × Int × Bool => textpatch_walk.l1 mid t.1 t.2.1 t.2.2.1 t.2.2.2) (s := ((k : Int), s.t3)) e0, ih (k + 1) (s.step mid[k]) (by omega) (by omega) p0 (by omega), List.drop_eq_getElem_cons hlt, List.take_succ_cons, List.foldl_cons]

theorem we4 (mid : List Mid) (hm : cost mid ≤ 900000) (h : Hunk) (ho : h.Old.length ≤ 120) : ∀ (rest : List ByteArray) (i k : Nat) (s : Cs), h.Old.drop i = rest → k ≤ 120 → k + rest.length ≤ mid.length → 0 ≤ s.pos → s.sz + cost (mid.drop k) ≤ 1000000 →
    iter (fun t => textpatch_walk.l4 mid h t.1 t.2.1 t.2.2.1 t.2.2.2.1 t.2.2.2.2) ((i : Int), (k : Int), s.t3) = some (((k + rest.length : Nat) : Int), (eats (mid.drop k) rest s).t3) := by
  intro rest
  have key : ∀ (rest : List ByteArray) (i k : Nat) (s : Cs), h.Old.drop i = rest → k ≤ 120 + i → k + rest.length ≤ mid.length → 0 ≤ s.pos → s.sz + cost (mid.drop k) ≤ 1000000 →
    iter (fun t => textpatch_walk.l4 mid h t.1 t.2.1 t.2.2.1 t.2.2.2.1 t.2.2.2.2) ((i : Int), (k : Int), s.t3) = some (((k + rest.length : Nat) : Int), (eats (mid.drop k) rest s).t3) := by
    intro rest
    induction rest with
    | nil =>
      intro i k s hk _ _ _ _
      have := drop_end hk
      refine iter_done ?_
      simp only
      unfold textpatch_walk.l4
      rw [ite_dec, if_neg (by omega), show eats (mid.drop k) [] s = s by cases mid.drop k <;> rfl]; rfl
    | cons x r ih =>
      intro i k s hk hk2 hl h0 hs
      obtain ⟨hlt, hh, hr⟩ := drop_at hk
      rw [List.length_cons] at hl
      have hkm : k < mid.length := by omega
      have hc := cost_at hkm
      have hcd := cost_drop mid k
      obtain ⟨p0, p1⟩ := s.eat_sz mid[k] x h0
      have d0 := wd5 mid[k] (by omega) mid[k].before 0 s rfl h0 (by omega)
      have e0 : textpatch_walk.l4 mid h (i : Int) (k : Int) s.enc.hunks s.enc.at_ s.enc.open_ = some (.next (((i + 1 : Nat) : Int), ((k + 1 : Nat) : Int), (s.eat mid[k] x).t3)) := by
        unfold textpatch_walk.l4
        rw [ite_dec, if_pos (by omega), at_nat hlt, Option.bind_some, hh, at_nat hkm, Option.bind_some, show (0 : Int) = ((0 : Nat) : Int) from rfl, d0, Option.bind_some]
        unfold textpatch_walk.j10 Cs.eat
        rw [at_nat hkm, Option.bind_some]
        by_cases hi : mid[k].inserted = true
        · rw [if_pos hi, hi, if_neg (by decide)]
          unfold textpatch_walk.j11
          rw [ck_eq (by omega) (by omega), Option.bind_some]
          unfold textpatch_walk.j9
          rw [ck_eq (by omega) (by omega)]; rfl
        · rw [if_neg hi, if_pos (by simpa using hi)]
          show ((diff_Collector__Delete (s.del mid[k].before).enc x).bind _) = _
          rw [coll_del (s.del mid[k].before) _ h0 (by rw [Cs.sz_del]; omega), Option.bind_some]
          unfold textpatch_walk.j11
          rw [ck_eq (by omega) (by omega), Option.bind_some]
          unfold textpatch_walk.j9
          rw [ck_eq (by omega) (by omega), Cs.del_del]; rfl
      rw [iter_next (m := fun t : Int × Int × List Hunk × Int × Bool => textpatch_walk.l4 mid h t.1 t.2.1 t.2.2.1 t.2.2.2.1 t.2.2.2.2) (s := ((i : Int), (k : Int), s.t3)) e0, ih (i + 1) (k + 1) (s.eat mid[k] x) hr (by omega) (by omega) p0 (by omega), List.drop_eq_getElem_cons hkm, eats, List.length_cons, show k + 1 + r.length = k + (r.length + 1) by omega]
  intro i k s hk hk2 hl h0 hs
  exact key rest i k s hk (by omega) hl h0 hs

theorem walk_f (mid : List Mid) (hm : cost mid ≤ 900000) (hl : 240 ≤ mid.length) (q : Patch) (hn : q.Hunks.length ≤ 130) (hg : Good (-1) q.Hunks) : textpatch_walk mid q = some ⟨(wlk 0 q.Hunks mid ⟨[], 0, [], []⟩).fl⟩ := by
  have key : ∀ (rest : List Hunk) (k e : Nat) (s : Cs) (e' : Int), q.Hunks.drop k = rest → Good e' rest → (e : Int) ≤ e' + 1 → e ≤ 120 → 0 ≤ s.pos → s.sz + cost (mid.drop e) + 120 * rest.length ≤ 1000000 →
      ∃ (e2 : Nat) (s2 : Cs), iter (fun t => textpatch_walk.l3 mid q t.1 t.2.1 t.2.2.1 t.2.2.2.1 t.2.2.2.2) ((k : Int), (e : Int), s.t3) = some ((e2 : Int), s2.t3) ∧ (mid.drop e2).foldl Cs.step s2 = wlk e rest (mid.drop e) s ∧ e2 ≤ 120 ∧ 0 ≤ s2.pos ∧ s2.sz + cost (mid.drop e2) ≤ 1000000 := by
    intro rest
    induction rest with
    | nil =>
      intro k e s e' hk _ _ he h0 hs
      have := drop_end hk
      refine ⟨e, s, iter_done ?_, rfl, he, h0, by simpa using hs⟩
      simp only
      unfold textpatch_walk.l3
      rw [ite_dec, if_neg (by omega)]
    | cons h r ih =>
      intro k e s e' hk hgg he he2 h0 hs
      obtain ⟨hlt, hh, hr⟩ := drop_at hk
      obtain ⟨hc, hg'⟩ := hgg
      obtain ⟨z1, z2, z3, z4, z5, z6⟩ := hcode_zero hc
      have l1 := textFault_len z2
      have l2 := textFault_len z3
      rw [List.length_cons] at hs
      have hA : ((h.At.toNat : Nat) : Int) = h.At := by omega
      have w7 := ws7 mid hm h (by omega) (h.At.toNat - e) e s (by omega) (by omega) h0 (by omega)
      obtain ⟨a1, a2⟩ := fold_sz ((mid.drop e).take (h.At.toNat - e)) s h0
      have hcd := cost_drop (mid.drop e) (h.At.toNat - e)
      rw [List.drop_drop, show e + (h.At.toNat - e) = h.At.toNat by omega] at hcd
      have w6 := wi6 h l2 h.New 0 (((mid.drop e).take (h.At.toNat - e)).foldl Cs.step s) rfl a1 (by omega)
      have hi := Cs.sz_ins (((mid.drop e).take (h.At.toNat - e)).foldl Cs.step s) h.New
      have w4 := we4 mid hm h l1 h.Old 0 h.At.toNat ((((mid.drop e).take (h.At.toNat - e)).foldl Cs.step s).ins h.New) rfl (by omega) (by omega) a1 (by omega)
      obtain ⟨b1, b2⟩ := eats_sz (mid.drop h.At.toNat) h.Old ((((mid.drop e).take (h.At.toNat - e)).foldl Cs.step s).ins h.New) (by rw [List.length_drop]; omega) a1
      have hcd2 := cost_drop (mid.drop h.At.toNat) h.Old.length
      rw [List.drop_drop] at hcd2
      have e0 : textpatch_walk.l3 mid q (k : Int) (e : Int) s.enc.hunks s.enc.at_ s.enc.open_ = some (.next (((k + 1 : Nat) : Int), ((h.At.toNat + h.Old.length : Nat) : Int), (eats (mid.drop h.At.toNat) h.Old ((((mid.drop e).take (h.At.toNat - e)).foldl Cs.step s).ins h.New)).t3)) := by
        unfold textpatch_walk.l3
        rw [ite_dec, if_pos (by omega), at_nat hlt, Option.bind_some, hh, w7, Option.bind_some]
        unfold textpatch_walk.j6
        rw [show (0 : Int) = ((0 : Nat) : Int) from rfl, w6, Option.bind_some]
        unfold textpatch_walk.j7
        simp only
        rw [hA] at w4
        rw [show (0 : Int) = ((0 : Nat) : Int) from rfl, w4, Option.bind_some]
        unfold textpatch_walk.j8 textpatch_walk.j5
        rw [ck_eq (by omega) (by omega)]; rfl
      obtain ⟨e2, s2, c1, c2, c3, c4, c5⟩ := ih (k + 1) (h.At.toNat + h.Old.length) _ (h.At + h.Old.length) hr hg' (by omega) (by omega) b1 (by omega)
      refine ⟨e2, s2, by rw [iter_next (m := fun t : Int × Int × List Hunk × Int × Bool => textpatch_walk.l3 mid q t.1 t.2.1 t.2.2.1 t.2.2.2.1 t.2.2.2.2) (s := ((k : Int), (e : Int), s.t3)) e0]; exact c1, ?_, c3, c4, c5⟩
      rw [c2, wlk, List.drop_drop, List.drop_drop, show e + (h.At.toNat - e + h.Old.length) = h.At.toNat + h.Old.length by omega, show e + (h.At.toNat - e) = h.At.toNat by omega]
  obtain ⟨e2, s2, c1, c2, c3, c4, c5⟩ := key q.Hunks 0 0 ⟨[], 0, [], []⟩ (-1) rfl hg (by omega) (by omega) (by simp) (by simp [Cs.sz]; omega)
  have w1 := ws1 mid hm ⟨0, [], []⟩ (by simp) (mid.length - e2) e2 s2 (by omega) (by omega) c4 c5
  unfold textpatch_walk
  rw [show ((0 : Nat) : Int) = 0 from rfl] at c1
  have c1' : iter (fun t => textpatch_walk.l3 mid q t.1 t.2.1 t.2.2.1 t.2.2.2.1 t.2.2.2.2) (0, 0, [], 0, false) = some ((e2 : Int), s2.t3) := c1
  rw [c1', Option.bind_some]
  unfold textpatch_walk.j1
  simp only
  rw [show ((e2 : Int), s2.enc.hunks, s2.enc.at_, s2.enc.open_) = ((e2 : Int), s2.t3) from rfl, w1, Option.bind_some, List.take_of_length_le (by rw [List.length_drop]; omega), c2]
  unfold textpatch_walk.j2
  simp only [List.drop_zero]
  congr 2
  unfold Cs.enc Cs.fl
  split <;> rfl
end Go.Dc
