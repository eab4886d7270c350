/- Composing two patches: the Collector, the lines between, the walk. -/
import Derived.Test.YtgcjgmfdnhimmaaDcQJ
set_option linter.unusedSimpArgs false
set_option linter.unusedVariables false
namespace Go.Dc
open Go

/-- what a Collector holds: closed hunks, where the open one begins, what it takes and gives -/
structure Cs where
  hs : List Hunk
  pos : Int
  pd : List ByteArray
  pi : List ByteArray
def Cs.fl (s : Cs) : List Hunk := if s.pd.length + s.pi.length = 0 then s.hs else s.hs ++ [⟨s.pos, s.pd, s.pi⟩]
def Cs.enc (s : Cs) : Collector_diff := if s.pd.length + s.pi.length = 0 then ⟨s.hs, s.pos, false⟩ else ⟨s.hs ++ [⟨s.pos, s.pd, s.pi⟩], s.pos + s.pd.length, true⟩
def Cs.del (s : Cs) (l : List ByteArray) : Cs := ⟨s.hs, s.pos, s.pd ++ l, s.pi⟩
def Cs.ins (s : Cs) (l : List ByteArray) : Cs := ⟨s.hs, s.pos, s.pd, s.pi ++ l⟩
def Cs.keep (s : Cs) : Cs := ⟨s.fl, s.pos + s.pd.length + 1, [], []⟩
def Cs.sz (s : Cs) : Nat := s.hs.length + s.pos.toNat + s.pd.length + s.pi.length
abbrev Cs.t3 (s : Cs) : List Hunk × Int × Bool := (s.enc.hunks, s.enc.at_, s.enc.open_)

theorem Cs.fl_len (s : Cs) : s.fl.length ≤ s.hs.length + 1 := by unfold Cs.fl; split <;> simp
theorem Cs.sz_keep (s : Cs) (h : 0 ≤ s.pos) : s.keep.sz ≤ s.sz + 2 := by
  have := s.fl_len
  unfold Cs.keep Cs.sz
  simp only [List.length_nil]
  omega
theorem Cs.sz_del (s : Cs) (l : List ByteArray) : (s.del l).sz = s.sz + l.length := by
  unfold Cs.del Cs.sz; simp only [List.length_append]; omega
theorem Cs.sz_ins (s : Cs) (l : List ByteArray) : (s.ins l).sz = s.sz + l.length := by
  unfold Cs.ins Cs.sz; simp only [List.length_append]; omega

theorem coll_del (s : Cs) (x : ByteArray) (h0 : 0 ≤ s.pos) (h : s.sz ≤ 1000000) : diff_Collector__Delete s.enc x = some (s.del [x]).enc := by
  unfold Cs.sz at h
  unfold diff_Collector__Delete Cs.enc
  have e2 : ¬ ((s.del [x]).pd.length + (s.del [x]).pi.length = 0) := by unfold Cs.del; simp
  rw [if_neg e2]
  by_cases hc : s.pd.length + s.pi.length = 0
  · rw [if_pos hc]
    have p1 : s.pd = [] := List.eq_nil_of_length_eq_zero (by omega)
    have p2 : s.pi = [] := List.eq_nil_of_length_eq_zero (by omega)
    simp only [Bool.not_false, if_true]
    rw [app_eq (by simp only [List.length_singleton]; omega), Option.bind_some]
    unfold diff_Collector__Delete.j1
    rw [ck_eq (by simp only [List.length_append, List.length_singleton]; omega) (by simp only [List.length_append, List.length_singleton]; omega), Option.bind_some, show ((s.hs ++ [(⟨s.pos, [], []⟩ : Hunk)]).length : Int) - 1 = ((s.hs.length : Nat) : Int) by simp, at_mid rfl, Option.bind_some, app_eq (by simp), Option.bind_some, ck_eq (by simp only; omega) (by simp only; omega), Option.bind_some, Option.bind_some, Int.toNat_natCast, set_mid rfl]
    simp only [Cs.del, p1, p2, List.nil_append, List.length_singleton]
    rfl
  · rw [if_neg hc]
    simp only [Bool.not_true, Bool.false_eq_true, if_false]
    unfold diff_Collector__Delete.j1
    rw [ck_eq (by simp only [List.length_append, List.length_singleton]; omega) (by simp only [List.length_append, List.length_singleton]; omega), Option.bind_some, show ((s.hs ++ [(⟨s.pos, s.pd, s.pi⟩ : Hunk)]).length : Int) - 1 = ((s.hs.length : Nat) : Int) by simp, at_mid rfl, Option.bind_some, app_eq (by simp only [List.length_singleton]; omega), Option.bind_some, ck_eq (by simp only; omega) (by simp only; omega), Option.bind_some, Option.bind_some, Int.toNat_natCast, set_mid rfl]
    simp only [Cs.del, List.length_append, List.length_singleton, Int.natCast_add, Int.add_assoc]
    rfl

theorem coll_ins (s : Cs) (x : ByteArray) (h0 : 0 ≤ s.pos) (h : s.sz ≤ 1000000) : diff_Collector__Insert s.enc x = some (s.ins [x]).enc := by
  unfold Cs.sz at h
  unfold diff_Collector__Insert Cs.enc
  have e2 : ¬ ((s.ins [x]).pd.length + (s.ins [x]).pi.length = 0) := by unfold Cs.ins; simp
  rw [if_neg e2]
  by_cases hc : s.pd.length + s.pi.length = 0
  · rw [if_pos hc]
    have p1 : s.pd = [] := List.eq_nil_of_length_eq_zero (by omega)
    have p2 : s.pi = [] := List.eq_nil_of_length_eq_zero (by omega)
    simp only [Bool.not_false, if_true]
    rw [app_eq (by simp only [List.length_singleton]; omega), Option.bind_some]
    unfold diff_Collector__Insert.j1
    rw [ck_eq (by simp only [List.length_append, List.length_singleton]; omega) (by simp only [List.length_append, List.length_singleton]; omega), Option.bind_some, show ((s.hs ++ [(⟨s.pos, [], []⟩ : Hunk)]).length : Int) - 1 = ((s.hs.length : Nat) : Int) by simp, at_mid rfl, Option.bind_some, app_eq (by simp), Option.bind_some, Option.bind_some, Int.toNat_natCast, set_mid rfl]
    simp only [Cs.ins, p1, p2, List.nil_append, List.length_nil, Int.natCast_zero, Int.add_zero]
  · rw [if_neg hc]
    simp only [Bool.not_true, Bool.false_eq_true, if_false]
    unfold diff_Collector__Insert.j1
    rw [ck_eq (by simp only [List.length_append, List.length_singleton]; omega) (by simp only [List.length_append, List.length_singleton]; omega), Option.bind_some, show ((s.hs ++ [(⟨s.pos, s.pd, s.pi⟩ : Hunk)]).length : Int) - 1 = ((s.hs.length : Nat) : Int) by simp, at_mid rfl, Option.bind_some, app_eq (by simp only [List.length_singleton]; omega), Option.bind_some, Option.bind_some, Int.toNat_natCast, set_mid rfl]
    rfl

theorem coll_keep (s : Cs) (h0 : 0 ≤ s.pos) (h : s.sz ≤ 1000000) : diff_Collector__Keep s.enc 1 = some s.keep.enc := by
  unfold Cs.sz at h
  unfold diff_Collector__Keep
  rw [ite_dec, if_pos (by decide)]
  have e2 : s.keep.enc = ⟨s.fl, s.pos + s.pd.length + 1, false⟩ := by unfold Cs.enc Cs.keep; simp
  rw [e2]
  unfold Cs.enc Cs.fl
  by_cases hc : s.pd.length + s.pi.length = 0
  · rw [if_pos hc, if_pos hc]
    simp only
    rw [ck_eq (by omega) (by omega), Option.bind_some, show s.pd.length = 0 by omega]
    simp
  · rw [if_neg hc, if_neg hc]
    simp only
    rw [ck_eq (by omega) (by omega), Option.bind_some]

/-! ## the lines between -/
abbrev Mid := Middle_textpatch
def kept (l : List ByteArray) : Mid := ⟨false, ByteArray.empty, l⟩
def krun : Nat → List ByteArray → List Mid
  | 0, _ => []
  | n + 1, pend => kept pend :: krun n []
def kpend (n : Nat) (pend : List ByteArray) : List ByteArray := if n = 0 then pend else []
def irun : List ByteArray → List ByteArray → List Mid
  | [], _ => []
  | x :: l, pend => ⟨true, x, pend⟩ :: irun l []
def ipend (l pend : List ByteArray) : List ByteArray := if l.length = 0 then pend else []
/-- the lines after the first patch, from a position, with what was taken just before -/
def mids (tail : Nat) : Nat → List Hunk → List ByteArray → List Mid
  | _, [], pend => krun tail pend
  | e, h :: r, pend => krun (h.At.toNat - e) pend ++ (irun h.New (kpend (h.At.toNat - e) pend ++ h.Old) ++ mids tail (h.At.toNat + h.Old.length) r (ipend h.New (kpend (h.At.toNat - e) pend ++ h.Old)))

theorem krun_len : ∀ (n : Nat) (p : List ByteArray), (krun n p).length = n
  | 0, _ => rfl
  | n + 1, p => by rw [krun, List.length_cons, krun_len n]
theorem irun_len : ∀ (l p : List ByteArray), (irun l p).length = l.length
  | [], _ => rfl
  | x :: l, p => by rw [irun, List.length_cons, irun_len l, List.length_cons]

theorem mid_k1 : ∀ (n k : Nat) (pend : List ByteArray) (out : List Mid), k + n = 480 → out.length ≤ 100000 + k → iter (fun s => textpatch_midway.l1 s.1 s.2.1 s.2.2) ((k : Int), pend, out) = some (out ++ krun n pend) := by
  intro n
  induction n with
  | zero =>
    intro k pend out hk ho
    refine iter_done ?_
    simp only
    unfold textpatch_midway.l1
    rw [ite_dec, if_neg (by omega), krun, List.append_nil]
  | succ n ih =>
    intro k pend out hk ho
    have e0 : textpatch_midway.l1 (k : Int) pend out = some (.next (((k + 1 : Nat) : Int), [], out ++ [kept pend])) := by
      unfold textpatch_midway.l1
      rw [ite_dec, if_pos (by omega), app_eq (by simp only [List.length_singleton]; omega), Option.bind_some, ck_eq (by omega) (by omega)]; rfl
    rw [iter_next (m := fun s : Int × List ByteArray × List Mid => textpatch_midway.l1 s.1 s.2.1 s.2.2) (s := ((k : Int), pend, out)) e0, ih (k + 1) [] _ (by omega) (by simp; omega), krun, List.append_assoc]; rfl

theorem mid_k4 (h : Hunk) (hA : h.At ≤ 120) : ∀ (n k : Nat) (pend : List ByteArray) (out : List Mid), (k : Int) + n = h.At → out.length ≤ 100000 → iter (fun s => textpatch_midway.l4 h s.1 s.2.1 s.2.2) ((k : Int), pend, out) = some (kpend n pend, out ++ krun n pend) := by
  intro n
  induction n with
  | zero =>
    intro k pend out hk ho
    refine iter_done ?_
    simp only
    unfold textpatch_midway.l4
    rw [ite_dec, if_neg (by omega), krun, List.append_nil]; rfl
  | succ n ih =>
    intro k pend out hk ho
    have e0 : textpatch_midway.l4 h (k : Int) pend out = some (.next (((k + 1 : Nat) : Int), [], out ++ [kept pend])) := by
      unfold textpatch_midway.l4
      rw [ite_dec, if_pos (by omega), app_eq (by simp only [List.length_singleton]; omega), Option.bind_some, ck_eq (by omega) (by omega)]; rfl
    have key : ∀ (n k : Nat) (out : List Mid), (k : Int) + n = h.At → out.length ≤ 100000 + k → iter (fun s => textpatch_midway.l4 h s.1 s.2.1 s.2.2) ((k : Int), ([] : List ByteArray), out) = some (([] : List ByteArray), out ++ krun n []) := by
      intro n
      induction n with
      | zero =>
        intro k out hk ho
        refine iter_done ?_
        simp only
        unfold textpatch_midway.l4
        rw [ite_dec, if_neg (by omega), krun, List.append_nil]
      | succ n ih =>
        intro k out hk ho
        have e0 : textpatch_midway.l4 h (k : Int) [] out = some (.next (((k + 1 : Nat) : Int), [], out ++ [kept []])) := by
          unfold textpatch_midway.l4
          rw [ite_dec, if_pos (by omega), app_eq (by simp only [List.length_singleton]; omega), Option.bind_some, ck_eq (by omega) (by omega)]; rfl
        rw [iter_next e0, ih (k + 1) _ (by omega) (by simp; omega), krun, List.append_assoc]; rfl
    rw [iter_next e0, key n (k + 1) _ (by omega) (by simp; omega), krun, List.append_assoc]; rfl

theorem mid_i3 (h : Hunk) (hn : h.New.length ≤ 120) : ∀ (rest : List ByteArray) (k : Nat) (pend : List ByteArray) (out : List Mid), h.New.drop k = rest → out.length ≤ 200000 + k → iter (fun s => textpatch_midway.l3 h s.1 s.2.1 s.2.2) ((k : Int), pend, out) = some (ipend rest pend, out ++ irun rest pend) := by
  intro rest
  induction rest with
  | nil =>
    intro k pend out hk ho
    have := drop_end hk
    refine iter_done ?_
    simp only
    unfold textpatch_midway.l3
    rw [ite_dec, if_neg (by omega), irun, List.append_nil]; rfl
  | cons x r ih =>
    intro k pend out hk ho
    obtain ⟨hlt, hh, hr⟩ := drop_at hk
    have e0 : textpatch_midway.l3 h (k : Int) pend out = some (.next (((k + 1 : Nat) : Int), [], out ++ [⟨true, x, pend⟩])) := by
      unfold textpatch_midway.l3
      rw [ite_dec, if_pos (by omega), at_nat hlt, Option.bind_some, hh, app_eq (by simp only [List.length_singleton]; omega), Option.bind_some, ck_eq (by omega) (by omega)]; rfl
    rw [iter_next e0, ih (k + 1) [] _ hr (by simp; omega), irun, List.append_assoc, show ipend r [] = ipend (x :: r) pend by unfold ipend; simp]; rfl

theorem pend_len (h : Hunk) (n : Nat) (pend : List ByteArray) (h1 : pend.length ≤ 120) (h2 : h.Old.length ≤ 120) (h3 : n = 0 → pend = []) : kpend n pend = [] ∧ (ipend h.New (kpend n pend ++ h.Old)).length ≤ 120 := by
  have : kpend n pend = [] := by
    unfold kpend
    split
    · exact h3 ‹_›
    · rfl
  refine ⟨this, ?_⟩
  rw [this]
  unfold ipend
  split <;> simp <;> omega

theorem midway_f (p : Patch) (hn : p.Hunks.length ≤ 130) (hg : Good (-1) p.Hunks) : textpatch_midway p = some (mids 480 0 p.Hunks []) := by
  have key : ∀ (rest : List Hunk) (k e : Nat) (pend : List ByteArray) (out : List Mid) (e' : Int), p.Hunks.drop k = rest → Good e' rest → (e : Int) ≤ e' + 1 → (pend = [] ∨ (e : Int) ≤ e') → e ≤ 120 → pend.length ≤ 120 → k ≤ 130 → out.length ≤ k * 400 →
      ∃ pe o, iter (fun s => textpatch_midway.l2 p s.1 s.2.1 s.2.2.1 s.2.2.2) ((k : Int), (e : Int), pend, out) = some (pe, o) ∧ o ++ krun 480 pe = out ++ mids 480 e rest pend ∧ o.length ≤ 52000 := by
    intro rest
    induction rest with
    | nil =>
      intro k e pend out e' hk _ _ _ _ _ h130 ho
      have := drop_end hk
      refine ⟨pend, out, iter_done ?_, rfl, ?_⟩
      · simp only
        unfold textpatch_midway.l2
        rw [ite_dec, if_neg (by omega)]
      · have : k * 400 ≤ 130 * 400 := Nat.mul_le_mul_right 400 h130
        exact Nat.le_trans ho this
    | cons h r ih =>
      intro k e pend out e' hk hgg he hpe he2 hpd h130 ho
      obtain ⟨hlt, hh, hr⟩ := drop_at hk
      obtain ⟨hc, hg'⟩ := hgg
      obtain ⟨z1, z2, z3, z4, z5, z6⟩ := hcode_zero hc
      have l1 := textFault_len z2
      have l2 := textFault_len z3
      have hk130 : k < 130 := by omega
      have ho2 : out.length ≤ 52000 := Nat.le_trans ho (Nat.mul_le_mul_right 400 h130)
      obtain ⟨pk1, pk2⟩ := pend_len h (h.At.toNat - e) pend hpd l1 (fun h0 => by
        rcases hpe with hp | hp
        · exact hp
        · omega)
      have k4 := mid_k4 h (by omega) (h.At.toNat - e) e pend out (by omega) (by omega)
      have i3 := mid_i3 h l2 h.New 0 (kpend (h.At.toNat - e) pend ++ h.Old) (out ++ krun (h.At.toNat - e) pend) rfl (by rw [List.length_append, krun_len]; omega)
      have e0 : textpatch_midway.l2 p (k : Int) (e : Int) pend out = some (.next (((k + 1 : Nat) : Int), ((h.At.toNat + h.Old.length : Nat) : Int), ipend h.New (kpend (h.At.toNat - e) pend ++ h.Old), out ++ krun (h.At.toNat - e) pend ++ irun h.New (kpend (h.At.toNat - e) pend ++ h.Old))) := by
        unfold textpatch_midway.l2
        rw [ite_dec, if_pos (by omega), at_nat hlt, Option.bind_some, hh, k4, Option.bind_some]
        unfold textpatch_midway.j4
        rw [app_eq (by rw [pk1, List.length_nil]; omega), Option.bind_some, show (0 : Int) = ((0 : Nat) : Int) from rfl, i3, Option.bind_some]
        unfold textpatch_midway.j5
        rw [end_f h (by omega) (by omega) (by omega), Option.bind_some]
        unfold textpatch_midway.j3
        rw [ck_eq (by omega) (by omega), Option.bind_some, show h.At + (h.Old.length : Int) = ((h.At.toNat + h.Old.length : Nat) : Int) by omega]
        rfl
      obtain ⟨pe, o, a1, a2, a3⟩ := ih (k + 1) (h.At.toNat + h.Old.length) (ipend h.New (kpend (h.At.toNat - e) pend ++ h.Old)) (out ++ krun (h.At.toNat - e) pend ++ irun h.New (kpend (h.At.toNat - e) pend ++ h.Old)) (h.At + h.Old.length) hr hg' (by omega) (Or.inr (by omega)) (by omega)
        pk2 (by omega) (by rw [List.length_append, List.length_append, krun_len, irun_len]; omega)
      refine ⟨pe, o, by rw [iter_next e0]; exact a1, ?_, a3⟩
      rw [a2, mids]
      simp only [List.append_assoc]
  obtain ⟨pe, o, a1, a2, a3⟩ := key p.Hunks 0 0 [] [] (-1) rfl hg (by omega) (Or.inl rfl) (by omega) (by simp) (by omega) (by simp)
  have k1 := mid_k1 480 0 pe o rfl (by omega)
  unfold textpatch_midway
  rw [show ((0 : Nat) : Int) = 0 from rfl] at a1 k1
  rw [a1, Option.bind_some]
  unfold textpatch_midway.j1
  simp only
  rw [k1, Option.bind_some, a2]
  rfl
end Go.Dc
