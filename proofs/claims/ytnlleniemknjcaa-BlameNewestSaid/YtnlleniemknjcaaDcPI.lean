/- diff.Script: the hunks of an alignment; and the law on the newest lines. -/
import Derived.Test.YtnlleniemknjcaaDcPH
set_option linter.unusedSimpArgs false
namespace Go.Dc
open Go

/-- what a Collector holds: hunks, the line it stands at, whether the last hunk is open -/
abbrev Cst := List Hunk × Int × Bool
def setLast (hs : List Hunk) (f : Hunk → Hunk) : List Hunk := match hs.getLast? with
  | some h => hs.dropLast ++ [f h]
  | Option.none => hs
def cKeep (s : Cst) : Cst := (s.1, s.2.1 + 1, false)
def cOpen (s : Cst) : List Hunk := if s.2.2 then s.1 else s.1 ++ [⟨s.2.1, [], []⟩]
def cDel (x : ByteArray) (s : Cst) : Cst := (setLast (cOpen s) fun h => { h with Old := h.Old ++ [x] }, s.2.1 + 1, true)
def cIns (y : ByteArray) (s : Cst) : Cst := (setLast (cOpen s) fun h => { h with New := h.New ++ [y] }, s.2.1, true)

/-- the hunks of the alignment -/
def scr : List ByteArray → List ByteArray → Cst → Cst
  | [], [], s => s
  | [], y :: b, s => scr [] b (cIns y s)
  | x :: a, [], s => scr a [] (cDel x s)
  | x :: a, y :: b, s => if x = y then scr a b (cKeep s) else if lcs a (y :: b) ≥ lcs (x :: a) b then scr a (y :: b) (cDel x s) else scr (x :: a) b (cIns y s)
 termination_by a b => a.length + b.length

theorem set_last_eq {hs : List Hunk} {h : Hunk} (hl : hs.getLast? = some h) (f : Hunk → Hunk) : ∃ hlt : hs.length - 1 < hs.length, hs[hs.length - 1] = h ∧ hs.set (hs.length - 1) (f h) = setLast hs f := by
  have hne : hs ≠ [] := by intro e; subst e; cases hl
  have hlt : hs.length - 1 < hs.length := by have := List.length_pos_iff.2 hne; omega
  have hgl : hs[hs.length - 1] = h := by
    rw [List.getLast?_eq_some_getLast hne] at hl
    simp only [Option.some.injEq] at hl
    rw [← hl, List.getLast_eq_getElem]
  refine ⟨hlt, hgl, ?_⟩
  unfold setLast
  rw [hl]
  simp only
  rw [List.set_eq_take_append_cons_drop, if_pos hlt, List.dropLast_eq_take]
  have : hs.drop (hs.length - 1 + 1) = [] := List.drop_eq_nil_of_le (by omega)
  rw [this]

theorem cOpen_last (s : Cst) (h : s.2.2 = true → s.1 ≠ []) : ∃ q, (cOpen s).getLast? = some q := by
  unfold cOpen
  cases hb : s.2.2 with
  | true => rw [if_pos rfl]; exact ⟨_, List.getLast?_eq_some_getLast (h hb)⟩
  | false => rw [if_neg (by decide)]; exact ⟨⟨s.2.1, [], []⟩, by simp⟩

theorem setLast_len (hs : List Hunk) (f : Hunk → Hunk) : (setLast hs f).length = hs.length := by
  unfold setLast
  cases h : hs.getLast? with
  | none => rfl
  | some q =>
    have hne : hs ≠ [] := by intro e; subst e; cases h
    have := List.length_pos_iff.2 hne
    simp; omega

theorem setLast_ne {hs : List Hunk} {f : Hunk → Hunk} (h : hs ≠ []) : setLast hs f ≠ [] := by
  intro e
  have := setLast_len hs f
  rw [e] at this
  exact h (List.eq_nil_of_length_eq_zero this.symm)

theorem cOpen_ne (s : Cst) (h : s.2.2 = true → s.1 ≠ []) : cOpen s ≠ [] := by
  obtain ⟨q, hq⟩ := cOpen_last s h
  intro e; rw [e] at hq; cases hq

/-- a Collector's hunks are small -/
structure CInv (s : Cst) (k : Nat) : Prop where
  open_ : s.2.2 = true → s.1 ≠ []
  len : s.1.length ≤ k
  at0 : 0 ≤ s.2.1
  at1 : s.2.1 ≤ k
  each : ∀ h ∈ s.1, h.Old.length ≤ k ∧ h.New.length ≤ k

theorem mem_setLast {hs : List Hunk} {f : Hunk → Hunk} {h : Hunk} (hm : h ∈ setLast hs f) : h ∈ hs ∨ ∃ q ∈ hs, h = f q := by
  unfold setLast at hm
  cases hl : hs.getLast? with
  | none => rw [hl] at hm; exact .inl hm
  | some q =>
    rw [hl] at hm
    simp only [List.mem_append, List.mem_singleton] at hm
    rcases hm with hm | hm
    · exact .inl ((List.dropLast_sublist hs).subset hm)
    · exact .inr ⟨q, List.mem_of_getLast? hl, hm⟩

theorem mem_cOpen {s : Cst} {h : Hunk} (hm : h ∈ cOpen s) : h ∈ s.1 ∨ (h.Old = [] ∧ h.New = []) := by
  unfold cOpen at hm
  split at hm
  · exact .inl hm
  · rcases List.mem_append.1 hm with hm | hm
    · exact .inl hm
    · simp at hm; subst hm; exact .inr ⟨rfl, rfl⟩

theorem cOpen_len (s : Cst) : (cOpen s).length ≤ s.1.length + 1 := by unfold cOpen; split <;> simp

theorem CInv.keep {s : Cst} {k : Nat} (h : CInv s k) : CInv (cKeep s) (k + 1) := ⟨fun e => by simp [cKeep] at e, by have := h.len; simp only [cKeep]; omega, by have := h.at0; simp only [cKeep]; omega, by have := h.at1; simp only [cKeep]; omega, fun q hq => by have := h.each q hq; omega⟩
theorem CInv.del {s : Cst} {k : Nat} (h : CInv s k) (x : ByteArray) : CInv (cDel x s) (k + 1) := by
  refine ⟨fun _ => setLast_ne (cOpen_ne s h.open_), ?_, by have := h.at0; simp only [cDel]; omega, by have := h.at1; simp only [cDel]; omega, fun q hq => ?_⟩
  · have := h.len; have := cOpen_len s; simp only [cDel, setLast_len]; omega
  · simp only [cDel] at hq
    rcases mem_setLast hq with hq | ⟨p, hp, rfl⟩
    · rcases mem_cOpen hq with hq | ⟨h1, h2⟩
      · have := h.each q hq; omega
      · simp [h1, h2]
    · rcases mem_cOpen hp with hq | ⟨h1, h2⟩
      · have := h.each p hq; simp; omega
      · simp [h1, h2]
theorem CInv.ins {s : Cst} {k : Nat} (h : CInv s k) (x : ByteArray) : CInv (cIns x s) (k + 1) := by
  refine ⟨fun _ => setLast_ne (cOpen_ne s h.open_), ?_, h.at0, by have := h.at1; simp only [cIns]; omega, fun q hq => ?_⟩
  · have := h.len; have := cOpen_len s; simp only [cIns, setLast_len]; omega
  · simp only [cIns] at hq
    rcases mem_setLast hq with hq | ⟨p, hp, rfl⟩
    · rcases mem_cOpen hq with hq | ⟨h1, h2⟩
      · have := h.each q hq; omega
      · simp [h1, h2]
    · rcases mem_cOpen hp with hq | ⟨h1, h2⟩
      · have := h.each p hq; simp; omega
      · simp [h1, h2]

section
variable {a b : List ByteArray}

theorem coll_del {s : Cst} {k : Nat} (h : CInv s k) (hk : k ≤ 1000000) (x : ByteArray) (p i j : Int) : 0 ≤ i → i ≤ 1000000 →
    (if (!s.2.2) = true then (app? 56 s.1 ([⟨s.2.1, [], []⟩] : List Hunk)).bind fun y8 => diff_Script.j4 p j i s.2.1 x y8 true else diff_Script.j4 p j i s.2.1 x s.1 s.2.2) = diff_Script.j2 p j (i + 1) (cDel x s).1 (cDel x s).2.1 (cDel x s).2.2 := by
  intro hi0 hi1
  obtain ⟨q, hq⟩ := cOpen_last s h.open_
  have hlen := h.len
  have hat0 := h.at0
  have hat1 := h.at1
  have j4e : diff_Script.j4 p j i s.2.1 x (cOpen s) true = diff_Script.j2 p j (i + 1) (cDel x s).1 (cDel x s).2.1 (cDel x s).2.2 := by
    obtain ⟨h1, h2, h3⟩ := set_last_eq hq fun h => { h with Old := h.Old ++ [x] }
    have hol := cOpen_len s
    have hqm : q.Old.length ≤ k := by
      rcases mem_cOpen (List.mem_of_getLast? hq) with hq | ⟨h1, _⟩
      · exact (h.each q hq).1
      · simp [h1]
    unfold diff_Script.j4
    have ez : ((cOpen s).length : Int) - 1 = (((cOpen s).length - 1 : Nat) : Int) := by omega
    rw [ck_eq (by omega) (by omega), Option.bind_some, ez, at_nat h1, Option.bind_some, h2, app_eq (by simp only [List.length_singleton]; omega), Option.bind_some, ck_eq (by omega) (by omega), Option.bind_some, Option.bind_some, ck_eq (by omega) (by omega), Option.bind_some]
    rw [Int.toNat_natCast]
    have : (cOpen s).set ((cOpen s).length - 1) ({ At := q.At, Old := q.Old ++ [x], New := q.New } : Hunk) = (cDel x s).1 := h3
    rw [this]
    rfl
  cases hb : s.2.2 with
  | true =>
    have : cOpen s = s.1 := by unfold cOpen; rw [hb, if_pos rfl]
    rw [if_neg (by decide), ← this]; exact j4e
  | false =>
    have : cOpen s = s.1 ++ [⟨s.2.1, [], []⟩] := by unfold cOpen; rw [hb, if_neg (by decide)]
    rw [if_pos (by decide), app_eq (by simp only [List.length_singleton]; omega), Option.bind_some, ← this]; exact j4e

theorem coll_ins {s : Cst} {k : Nat} (h : CInv s k) (hk : k ≤ 1000000) (x : ByteArray) (p i j : Int) : 0 ≤ j → j ≤ 1000000 →
    (if (!s.2.2) = true then (app? 56 s.1 ([⟨s.2.1, [], []⟩] : List Hunk)).bind fun y8 => diff_Script.j5 p j i s.2.1 x y8 true else diff_Script.j5 p j i s.2.1 x s.1 s.2.2) = diff_Script.j2 p (j + 1) i (cIns x s).1 (cIns x s).2.1 (cIns x s).2.2 := by
  intro hi0 hi1
  obtain ⟨q, hq⟩ := cOpen_last s h.open_
  have hlen := h.len
  have hat0 := h.at0
  have hat1 := h.at1
  have j4e : diff_Script.j5 p j i s.2.1 x (cOpen s) true = diff_Script.j2 p (j + 1) i (cIns x s).1 (cIns x s).2.1 (cIns x s).2.2 := by
    obtain ⟨h1, h2, h3⟩ := set_last_eq hq fun h => { h with New := h.New ++ [x] }
    have hol := cOpen_len s
    have hqm : q.New.length ≤ k := by
      rcases mem_cOpen (List.mem_of_getLast? hq) with hq | ⟨_, h1⟩
      · exact (h.each q hq).2
      · simp [h1]
    unfold diff_Script.j5
    have ez : ((cOpen s).length : Int) - 1 = (((cOpen s).length - 1 : Nat) : Int) := by omega
    rw [ck_eq (by omega) (by omega), Option.bind_some, ez, at_nat h1, Option.bind_some, h2, app_eq (by simp only [List.length_singleton]; omega), Option.bind_some, Option.bind_some, ck_eq (by omega) (by omega), Option.bind_some]
    rw [Int.toNat_natCast]
    have : (cOpen s).set ((cOpen s).length - 1) ({ At := q.At, Old := q.Old, New := q.New ++ [x] } : Hunk) = (cIns x s).1 := h3
    rw [this]
    rfl
  cases hb : s.2.2 with
  | true =>
    have : cOpen s = s.1 := by unfold cOpen; rw [hb, if_pos rfl]
    rw [if_neg (by decide), ← this]; exact j4e
  | false =>
    have : cOpen s = s.1 ++ [⟨s.2.1, [], []⟩] := by unfold cOpen; rw [hb, if_neg (by decide)]
    rw [if_pos (by decide), app_eq (by simp only [List.length_singleton]; omega), Option.bind_some, ← this]; exact j4e

theorem scr_loop (hab : a.length + b.length ≤ 1000) : ∀ (n i j k : Nat) (s : Cst), i ≤ a.length → j ≤ b.length → (a.length - i) + (b.length - j) = n → k ≤ i + j → (algn a b).drop k = algn (a.drop i) (b.drop j) → CInv s (i + j) →
    iter (fun s => diff_Script.l1 a b (algn a b) s.1 s.2.1 s.2.2.1 s.2.2.2.1 s.2.2.2.2.1 s.2.2.2.2.2) ((k : Int), (j : Int), (i : Int), s.1, s.2.1, s.2.2) = some (scr (a.drop i) (b.drop j) s) := by
  intro n
  induction n using Nat.strongRecOn with
  | _ n ih =>
  intro i j k s hi hj hn hk hal hs
  have j2e : ∀ (p q : Int) (t : Cst), diff_Script.j2 (k : Int) q p t.1 t.2.1 t.2.2 = some (.next (((k + 1 : Nat) : Int), q, p, t.1, t.2.1, t.2.2)) := by
    intro p q t
    unfold diff_Script.j2
    rw [ck_eq (by omega) (by omega), Option.bind_some]; rfl
  have ed : ∀ (x : ByteArray) (r : List Int), (algn a b).drop k = 1 :: r → (hx : ∃ h : i < a.length, a[i] = x) →
      diff_Script.l1 a b (algn a b) (k : Int) (j : Int) (i : Int) s.1 s.2.1 s.2.2 = some (.next (((k + 1 : Nat) : Int), (j : Int), ((i + 1 : Nat) : Int), (cDel x s).1, (cDel x s).2.1, (cDel x s).2.2)) ∧ (algn a b).drop (k + 1) = r := by
    intro x r hr ⟨hx, hxe⟩
    obtain ⟨hlt, hk1, hr1⟩ := drop_at hr
    refine ⟨?_, hr1⟩
    unfold diff_Script.l1
    rw [ite_dec, if_pos (by omega), at_nat hlt, Option.bind_some, hk1, ite_dec, if_neg (by decide), ite_dec, if_pos rfl, at_nat hx, Option.bind_some, hxe, coll_del hs (by omega) x _ _ _ (by omega) (by omega), j2e]
    rfl
  have ei : ∀ (x : ByteArray) (r : List Int), (algn a b).drop k = 2 :: r → (hx : ∃ h : j < b.length, b[j] = x) →
      diff_Script.l1 a b (algn a b) (k : Int) (j : Int) (i : Int) s.1 s.2.1 s.2.2 = some (.next (((k + 1 : Nat) : Int), ((j + 1 : Nat) : Int), (i : Int), (cIns x s).1, (cIns x s).2.1, (cIns x s).2.2)) ∧ (algn a b).drop (k + 1) = r := by
    intro x r hr ⟨hx, hxe⟩
    obtain ⟨hlt, hk1, hr1⟩ := drop_at hr
    refine ⟨?_, hr1⟩
    unfold diff_Script.l1
    rw [ite_dec, if_pos (by omega), at_nat hlt, Option.bind_some, hk1, ite_dec, if_neg (by decide), ite_dec, if_neg (by decide), at_nat hx, Option.bind_some, hxe, coll_ins hs (by omega) x _ _ _ (by omega) (by omega), j2e]
    rfl
  have ek : ∀ (r : List Int), (algn a b).drop k = 0 :: r →
      diff_Script.l1 a b (algn a b) (k : Int) (j : Int) (i : Int) s.1 s.2.1 s.2.2 = some (.next (((k + 1 : Nat) : Int), ((j + 1 : Nat) : Int), ((i + 1 : Nat) : Int), (cKeep s).1, (cKeep s).2.1, (cKeep s).2.2)) ∧ (algn a b).drop (k + 1) = r := by
    intro r hr
    obtain ⟨hlt, hk1, hr1⟩ := drop_at hr
    refine ⟨?_, hr1⟩
    have h0 := hs.at0
    have h1 := hs.at1
    unfold diff_Script.l1 diff_Script.j3
    rw [ite_dec, if_pos (by omega), at_nat hlt, Option.bind_some, hk1, ite_dec, if_pos rfl, ite_dec, if_pos (by decide), ck_eq (by omega) (by omega), Option.bind_some, ck_eq (by omega) (by omega), Option.bind_some, ck_eq (by omega) (by omega), Option.bind_some]
    exact j2e _ _ (cKeep s)
  by_cases hia : i < a.length
  · have hda := drop_cons hia
    by_cases hjb : j < b.length
    · have hdb := drop_cons hjb
      have hal' := hal
      rw [hda, hdb, algn, ← hda, ← hdb] at hal'
      have hsc : scr (a.drop i) (b.drop j) s = if a[i] = b[j] then scr (a.drop (i + 1)) (b.drop (j + 1)) (cKeep s) else if lcs (a.drop (i + 1)) (b.drop j) ≥ lcs (a.drop i) (b.drop (j + 1)) then scr (a.drop (i + 1)) (b.drop j) (cDel a[i] s) else scr (a.drop i) (b.drop (j + 1)) (cIns b[j] s) := by
        conv => lhs; rw [hda, hdb, scr]
        rw [← hda, ← hdb]
      rw [hsc]
      by_cases heq : a[i] = b[j]
      · rw [if_pos heq] at hal' ⊢
        obtain ⟨e1, e2⟩ := ek _ hal'
        rw [iter_next e1]
        exact ih _ (by omega) (i + 1) (j + 1) (k + 1) (cKeep s) (by omega) (by omega) rfl (by omega) e2 ⟨hs.keep.open_, by have := hs.keep.len; omega, hs.keep.at0, by have := hs.keep.at1; omega, fun q hq => by have := hs.keep.each q hq; omega⟩
      · rw [if_neg heq] at hal' ⊢
        by_cases hge : lcs (a.drop (i + 1)) (b.drop j) ≥ lcs (a.drop i) (b.drop (j + 1))
        · rw [if_pos hge] at hal' ⊢
          obtain ⟨e1, e2⟩ := ed _ _ hal' ⟨hia, rfl⟩
          rw [iter_next e1]
          exact ih _ (by omega) (i + 1) j (k + 1) (cDel a[i] s) (by omega) (by omega) rfl (by omega) e2 (by have := hs.del a[i]; rwa [show i + j + 1 = i + 1 + j by omega] at this)
        · rw [if_neg hge] at hal' ⊢
          obtain ⟨e1, e2⟩ := ei _ _ hal' ⟨hjb, rfl⟩
          rw [iter_next e1]
          exact ih _ (by omega) i (j + 1) (k + 1) (cIns b[j] s) (by omega) (by omega) rfl (by omega) e2 (hs.ins b[j])
    · have hj' : j = b.length := by omega
      subst hj'
      have hal' := hal
      rw [hda, List.drop_length, algn] at hal'
      obtain ⟨e1, e2⟩ := ed _ _ hal' ⟨hia, rfl⟩
      have hsc : scr (a.drop i) (b.drop b.length) s = scr (a.drop (i + 1)) (b.drop b.length) (cDel a[i] s) := by
        rw [hda, List.drop_length, scr]
      rw [iter_next e1, hsc]
      exact ih _ (by omega) (i + 1) b.length (k + 1) (cDel a[i] s) (by omega) (by omega) rfl (by omega) (by rw [e2, List.drop_length]) (by have := hs.del a[i]; rwa [show i + b.length + 1 = i + 1 + b.length by omega] at this)
  · have hi' : i = a.length := by omega
    subst hi'
    by_cases hjb : j < b.length
    · have hdb := drop_cons hjb
      have hal' := hal
      rw [hdb, List.drop_length, algn] at hal'
      obtain ⟨e1, e2⟩ := ei _ _ hal' ⟨hjb, rfl⟩
      have hsc : scr (a.drop a.length) (b.drop j) s = scr (a.drop a.length) (b.drop (j + 1)) (cIns b[j] s) := by
        rw [hdb, List.drop_length, scr]
      rw [iter_next e1, hsc]
      exact ih _ (by omega) a.length (j + 1) (k + 1) (cIns b[j] s) (by omega) (by omega) rfl (by omega) (by rw [e2, List.drop_length]) (hs.ins b[j])
    · have hj' : j = b.length := by omega
      subst hj'
      rw [List.drop_length, List.drop_length, algn] at hal
      have := drop_end hal
      rw [List.drop_length, List.drop_length, scr]
      refine iter_done ?_
      unfold diff_Script.l1
      rw [ite_dec, if_neg (by omega)]
end

/-- the script -/
def script (a b : List ByteArray) : List Hunk := (scr a b ([], 0, false)).1

theorem script_f (a b : List ByteArray) : diff_Script a b = some (if (textFault a).Code ≠ 0 then (⟨[]⟩, textFault a) else if (textFault b).Code ≠ 0 then (⟨[]⟩, ⟨(textFault b).Code, -2⟩) else (⟨script a b⟩, ⟨0, 0⟩)) := by
  unfold diff_Script
  rw [both_f, Option.bind_some]
  by_cases ha : (textFault a).Code = 0
  · by_cases hb : (textFault b).Code = 0
    · simp only [ha, hb, ne_eq, not_true, if_false, if_true]
      have oa := (okText_iff a).2 ((textFault_zero a).2 ha)
      have ob := (okText_iff b).2 ((textFault_zero b).2 hb)
      have h1 := oa.1
      have h2 := ob.1
      rw [if_neg (by simp), align_eq (okText_small oa ob), Option.bind_some]
      have := scr_loop (a := a) (b := b) (by omega) _ 0 0 0 ([], 0, false) (Nat.zero_le _) (Nat.zero_le _) rfl (Nat.zero_le _) (by simp) ⟨fun h => (by cases h), by simp, by simp, by simp, fun q hq => (by cases hq)⟩
      simp only [List.drop_zero] at this
      rw [show (0 : Int) = ((0 : Nat) : Int) from rfl, show ((([] : List Hunk), ((0 : Nat) : Int), false) : Cst) = ([], 0, false) from rfl, this, Option.bind_some]
      rfl
    · simp only [ha, hb, ne_eq, not_true, not_false_iff, if_false, if_true]
      rw [if_pos (by simp)]
  · simp only [ha, ne_eq, not_false_iff, if_true]
    rw [if_pos (by simp)]
end Go.Dc
