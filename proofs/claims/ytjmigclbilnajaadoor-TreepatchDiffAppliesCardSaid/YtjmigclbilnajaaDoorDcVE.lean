/- diff.Script: the hunks of an alignment (the collector's functions are functions of their own here). -/
import Derived.Test.YtjmigclbilnajaaDoorDcPA
import Derived.Test.YtjmigclbilnajaaDoorDcQB
import Derived.Test.YtjmigclbilnajaaDoorDcUJ
set_option linter.unusedSimpArgs false
set_option linter.unusedVariables false
namespace Go.Dc
open Go

theorem both_f (a b : List ByteArray) : lines_Both a b = some (if (textFault a).Code ≠ 0 then textFault a else if (textFault b).Code = 0 then ⟨0, 0⟩ else ⟨(textFault b).Code, -2⟩) := by
  unfold lines_Both
  rw [validate_f, Option.bind_some]
  rcases textFault_ok a with h | h
  · rw [h, second_f]; rfl
  · rw [if_pos (faultless.2 fun h2 => h h2.1), if_pos h]

theorem okText_small {a b : List ByteArray} (ha : OkText a) (hb : OkText b) : (a.length + 1) * (b.length + 1) * 8 ≤ 140737488355328 := by
  have h1 : a.length + 1 ≤ 121 := by have := ha.1; omega
  have h2 : b.length + 1 ≤ 121 := by have := hb.1; omega
  have := Nat.mul_le_mul h1 h2
  omega

/-- what a Collector holds: hunks, the line it stands at, whether the last hunk is open -/
abbrev Cst := List Hunk × Int × Bool
def setLast (hs : List Hunk) (f : Hunk → Hunk) : List Hunk := match hs.getLast? with
  | some h => hs.dropLast ++ [f h]
  | Option.none => hs
def cKeep (s : Cst) : Cst := (s.1, s.2.1 + 1, false)
def cOpen (s : Cst) : List Hunk := if s.2.2 then s.1 else s.1 ++ [⟨s.2.1, [], []⟩]
def cDel (x : ByteArray) (s : Cst) : Cst := (setLast (cOpen s) fun h => { h with Old := h.Old ++ [x] }, s.2.1 + 1, true)
def cIns (y : ByteArray) (s : Cst) : Cst := (setLast (cOpen s) fun h => { h with New := h.New ++ [y] }, s.2.1, true)

/-- the hunks of the alignment -/
def scr : List ByteArray → List ByteArray → Cst → Cst
  | [], [], s => s
  | [], y :: b, s => scr [] b (cIns y s)
  | x :: a, [], s => scr a [] (cDel x s)
  | x :: a, y :: b, s => if x = y then scr a b (cKeep s) else if lcs a (y :: b) ≥ lcs (x :: a) b then scr a (y :: b) (cDel x s) else scr (x :: a) b (cIns y s)
 termination_by a b => a.length + b.length

theorem set_last_eq {hs : List Hunk} {h : Hunk} (hl : hs.getLast? = some h) (f : Hunk → Hunk) : ∃ hlt : hs.length - 1 < hs.length, hs[hs.length - 1] = h ∧ hs.set (hs.length - 1) (f h) = setLast hs f := by
  have hne : hs ≠ [] := by intro e; subst e; cases hl
  have hlt : hs.length - 1 < hs.length := by have := List.length_pos_iff.2 hne; omega
  have hgl : hs[hs.length - 1] = h := by
    rw [List.getLast?_eq_some_getLast hne] at hl
    simp only [Option.some.injEq] at hl
    rw [← hl, List.getLast_eq_getElem]
  refine ⟨hlt, hgl, ?_⟩
  unfold setLast
  rw [hl]
  simp only
  rw [List.set_eq_take_append_cons_drop, if_pos hlt, List.dropLast_eq_take]
  have : hs.drop (hs.length - 1 + 1) = [] := List.drop_eq_nil_of_le (by omega)
  rw [this]

theorem cOpen_last (s : Cst) (h : s.2.2 = true → s.1 ≠ []) : ∃ q, (cOpen s).getLast? = some q := by
  unfold cOpen
  cases hb : s.2.2 with
  | true => rw [if_pos rfl]; exact ⟨_, List.getLast?_eq_some_getLast (h hb)⟩
  | false => rw [if_neg (by decide)]; exact ⟨⟨s.2.1, [], []⟩, by simp⟩

theorem setLast_len (hs : List Hunk) (f : Hunk → Hunk) : (setLast hs f).length = hs.length := by
  unfold setLast
  cases h : hs.getLast? with
  | none => rfl
  | some q =>
    have hne : hs ≠ [] := by intro e; subst e; cases h
    have := List.length_pos_iff.2 hne
    simp; omega

theorem setLast_ne {hs : List Hunk} {f : Hunk → Hunk} (h : hs ≠ []) : setLast hs f ≠ [] := by
  intro e
  have := setLast_len hs f
  rw [e] at this
  exact h (List.eq_nil_of_length_eq_zero this.symm)

theorem cOpen_ne (s : Cst) (h : s.2.2 = true → s.1 ≠ []) : cOpen s ≠ [] := by
  obtain ⟨q, hq⟩ := cOpen_last s h
  intro e; rw [e] at hq; cases hq

/-- a Collector's hunks are small -/
structure CInv (s : Cst) (k : Nat) : Prop where
  open_ : s.2.2 = true → s.1 ≠ []
  len : s.1.length ≤ k
  at0 : 0 ≤ s.2.1
  at1 : s.2.1 ≤ k
  each : ∀ h ∈ s.1, h.Old.length ≤ k ∧ h.New.length ≤ k

theorem mem_setLast {hs : List Hunk} {f : Hunk → Hunk} {h : Hunk} (hm : h ∈ setLast hs f) : h ∈ hs ∨ ∃ q ∈ hs, h = f q := by
  unfold setLast at hm
  cases hl : hs.getLast? with
  | none => rw [hl] at hm; exact .inl hm
  | some q =>
    rw [hl] at hm
    simp only [List.mem_append, List.mem_singleton] at hm
    rcases hm with hm | hm
    · exact .inl ((List.dropLast_sublist hs).subset hm)
    · exact .inr ⟨q, List.mem_of_getLast? hl, hm⟩

theorem mem_cOpen {s : Cst} {h : Hunk} (hm : h ∈ cOpen s) : h ∈ s.1 ∨ (h.Old = [] ∧ h.New = []) := by
  unfold cOpen at hm
  split at hm
  · exact .inl hm
  · rcases List.mem_append.1 hm with hm | hm
    · exact .inl hm
    · simp at hm; subst hm; exact .inr ⟨rfl, rfl⟩

theorem cOpen_len (s : Cst) : (cOpen s).length ≤ s.1.length + 1 := by unfold cOpen; split <;> simp

theorem CInv.keep {s : Cst} {k : Nat} (h : CInv s k) : CInv (cKeep s) (k + 1) := ⟨fun e => by simp [cKeep] at e, by have := h.len; simp only [cKeep]; omega, by have := h.at0; simp only [cKeep]; omega, by have := h.at1; simp only [cKeep]; omega, fun q hq => by have := h.each q hq; omega⟩
theorem CInv.del {s : Cst} {k : Nat} (h : CInv s k) (x : ByteArray) : CInv (cDel x s) (k + 1) := by
  refine ⟨fun _ => setLast_ne (cOpen_ne s h.open_), ?_, by have := h.at0; simp only [cDel]; omega, by have := h.at1; simp only [cDel]; omega, fun q hq => ?_⟩
  · have := h.len; have := cOpen_len s; simp only [cDel, setLast_len]; omega
  · simp only [cDel] at hq
    rcases mem_setLast hq with hq | ⟨p, hp, rfl⟩
    · rcases mem_cOpen hq with hq | ⟨h1, h2⟩
      · have := h.each q hq; omega
      · simp [h1, h2]
    · rcases mem_cOpen hp with hq | ⟨h1, h2⟩
      · have := h.each p hq; simp; omega
      · simp [h1, h2]
theorem CInv.ins {s : Cst} {k : Nat} (h : CInv s k) (x : ByteArray) : CInv (cIns x s) (k + 1) := by
  refine ⟨fun _ => setLast_ne (cOpen_ne s h.open_), ?_, h.at0, by have := h.at1; simp only [cIns]; omega, fun q hq => ?_⟩
  · have := h.len; have := cOpen_len s; simp only [cIns, setLast_len]; omega
  · simp only [cIns] at hq
    rcases mem_setLast hq with hq | ⟨p, hp, rfl⟩
    · rcases mem_cOpen hq with hq | ⟨h1, h2⟩
      · have := h.each q hq; omega
      · simp [h1, h2]
    · rcases mem_cOpen hp with hq | ⟨h1, h2⟩
      · have := h.each p hq; simp; omega
      · simp [h1, h2]



theorem coll_keep {s : Cst} {k : Nat} (h : CInv s k) (hk : k ≤ 1000000) : diff_Collector__Keep ⟨s.1, s.2.1, s.2.2⟩ 1 = some ⟨(cKeep s).1, (cKeep s).2.1, (cKeep s).2.2⟩ := by
  have hat0 := h.at0
  have hat1 := h.at1
  unfold diff_Collector__Keep
  rw [if_pos (by decide), ck_eq (x := s.2.1 + 1) (by omega) (by omega), Option.bind_some]; rfl

theorem coll_del {s : Cst} {k : Nat} (h : CInv s k) (hk : k ≤ 1000000) (x : ByteArray) : diff_Collector__Delete ⟨s.1, s.2.1, s.2.2⟩ x = some ⟨(cDel x s).1, (cDel x s).2.1, (cDel x s).2.2⟩ := by
  obtain ⟨q, hq⟩ := cOpen_last s h.open_
  have hlen := h.len
  have hat0 := h.at0
  have hat1 := h.at1
  have j4e : diff_Collector__Delete.j1 ⟨s.1, s.2.1, s.2.2⟩ x (cOpen s) true = some ⟨(cDel x s).1, (cDel x s).2.1, (cDel x s).2.2⟩ := by
    obtain ⟨h1, h2, h3⟩ := set_last_eq hq fun h => { h with Old := h.Old ++ [x] }
    have hol := cOpen_len s
    have hqm : q.Old.length ≤ k := by
      rcases mem_cOpen (List.mem_of_getLast? hq) with hq | ⟨h1, _⟩
      · exact (h.each q hq).1
      · simp [h1]
    unfold diff_Collector__Delete.j1
    have ez : ((cOpen s).length : Int) - 1 = (((cOpen s).length - 1 : Nat) : Int) := by omega
    rw [ck_eq (by omega) (by omega), Option.bind_some, ez, at_nat h1, Option.bind_some, h2, app_eq (by simp only [List.length_singleton]; omega), Option.bind_some, ck_eq (by show -9223372036854775808 ≤ s.2.1 + 1; omega) (by show s.2.1 + 1 ≤ 9223372036854775807; omega), Option.bind_some, Option.bind_some]
    rw [Int.toNat_natCast]
    have : (cOpen s).set ((cOpen s).length - 1) ({ At := q.At, Old := q.Old ++ [x], New := q.New } : Hunk) = (cDel x s).1 := h3
    rw [this]
    rfl
  unfold diff_Collector__Delete
  simp only
  cases hb : s.2.2 with
  | true =>
    have : cOpen s = s.1 := by unfold cOpen; rw [hb, if_pos rfl]
    rw [hb, this] at j4e
    rw [if_neg (by decide)]; exact j4e
  | false =>
    have : cOpen s = s.1 ++ [⟨s.2.1, [], []⟩] := by unfold cOpen; rw [hb, if_neg (by decide)]
    rw [hb] at j4e
    rw [if_pos (by decide), app_eq (by simp only [List.length_singleton]; omega), Option.bind_some, ← this]; exact j4e

theorem coll_ins {s : Cst} {k : Nat} (h : CInv s k) (hk : k ≤ 1000000) (x : ByteArray) : diff_Collector__Insert ⟨s.1, s.2.1, s.2.2⟩ x = some ⟨(cIns x s).1, (cIns x s).2.1, (cIns x s).2.2⟩ := by
  obtain ⟨q, hq⟩ := cOpen_last s h.open_
  have hlen := h.len
  have hat0 := h.at0
  have hat1 := h.at1
  have j4e : diff_Collector__Insert.j1 ⟨s.1, s.2.1, s.2.2⟩ x (cOpen s) true = some ⟨(cIns x s).1, (cIns x s).2.1, (cIns x s).2.2⟩ := by
    obtain ⟨h1, h2, h3⟩ := set_last_eq hq fun h => { h with New := h.New ++ [x] }
    have hol := cOpen_len s
    have hqm : q.New.length ≤ k := by
      rcases mem_cOpen (List.mem_of_getLast? hq) with hq | ⟨_, h1⟩
      · exact (h.each q hq).2
      · simp [h1]
    unfold diff_Collector__Insert.j1
    have ez : ((cOpen s).length : Int) - 1 = (((cOpen s).length - 1 : Nat) : Int) := by omega
    rw [ck_eq (by omega) (by omega), Option.bind_some, ez, at_nat h1, Option.bind_some, h2, app_eq (by simp only [List.length_singleton]; omega), Option.bind_some, Option.bind_some]
    rw [Int.toNat_natCast]
    have : (cOpen s).set ((cOpen s).length - 1) ({ At := q.At, Old := q.Old, New := q.New ++ [x] } : Hunk) = (cIns x s).1 := h3
    rw [this]
    rfl
  unfold diff_Collector__Insert
  simp only
  cases hb : s.2.2 with
  | true =>
    have : cOpen s = s.1 := by unfold cOpen; rw [hb, if_pos rfl]
    rw [hb, this] at j4e
    rw [if_neg (by decide)]; exact j4e
  | false =>
    have : cOpen s = s.1 ++ [⟨s.2.1, [], []⟩] := by unfold cOpen; rw [hb, if_neg (by decide)]
    rw [hb] at j4e
    rw [if_pos (by decide), app_eq (by simp only [List.length_singleton]; omega), Option.bind_some, ← this]; exact j4e

section
variable {a b : List ByteArray}

theorem scr_loop (hab : a.length + b.length ≤ 1000) : ∀ (n i j k : Nat) (s : Cst), i ≤ a.length → j ≤ b.length → (a.length - i) + (b.length - j) = n → k ≤ i + j → (algn a b).drop k = algn (a.drop i) (b.drop j) → CInv s (i + j) →
    iter (fun s => diff_Script.l1 a b (algn a b) s.1 s.2.1 s.2.2.1 s.2.2.2.1 s.2.2.2.2.1 s.2.2.2.2.2) ((k : Int), (j : Int), (i : Int), s.1, s.2.1, s.2.2) = some (scr (a.drop i) (b.drop j) s) := by
  intro n
  induction n using Nat.strongRecOn with
  | _ n ih =>
  intro i j k s hi hj hn hk hal hs
  have j2e : ∀ (p q : Int) (t : Cst), diff_Script.j2 (k : Int) q p t.1 t.2.1 t.2.2 = some (.next (((k + 1 : Nat) : Int), q, p, t.1, t.2.1, t.2.2)) := by
    intro p q t
    unfold diff_Script.j2
    rw [ck_eq (by omega) (by omega), Option.bind_some]; rfl
  have ed : ∀ (x : ByteArray) (r : List Int), (algn a b).drop k = 1 :: r → (hx : ∃ h : i < a.length, a[i] = x) →
      diff_Script.l1 a b (algn a b) (k : Int) (j : Int) (i : Int) s.1 s.2.1 s.2.2 = some (.next (((k + 1 : Nat) : Int), (j : Int), ((i + 1 : Nat) : Int), (cDel x s).1, (cDel x s).2.1, (cDel x s).2.2)) ∧ (algn a b).drop (k + 1) = r := by
    intro x r hr ⟨hx, hxe⟩
    obtain ⟨hlt, hk1, hr1⟩ := drop_at hr
    refine ⟨?_, hr1⟩
    unfold diff_Script.l1
    rw [ite_dec, if_pos (by omega), at_nat hlt, Option.bind_some, hk1, ite_dec, if_neg (by decide), ite_dec, if_pos rfl, at_nat hx, Option.bind_some, hxe, coll_del hs (by omega) x, Option.bind_some, ck_eq (by omega) (by omega), Option.bind_some, j2e]
    rfl
  have ei : ∀ (x : ByteArray) (r : List Int), (algn a b).drop k = 2 :: r → (hx : ∃ h : j < b.length, b[j] = x) →
      diff_Script.l1 a b (algn a b) (k : Int) (j : Int) (i : Int) s.1 s.2.1 s.2.2 = some (.next (((k + 1 : Nat) : Int), ((j + 1 : Nat) : Int), (i : Int), (cIns x s).1, (cIns x s).2.1, (cIns x s).2.2)) ∧ (algn a b).drop (k + 1) = r := by
    intro x r hr ⟨hx, hxe⟩
    obtain ⟨hlt, hk1, hr1⟩ := drop_at hr
    refine ⟨?_, hr1⟩
    unfold diff_Script.l1
    rw [ite_dec, if_pos (by omega), at_nat hlt, Option.bind_some, hk1, ite_dec, if_neg (by decide), ite_dec, if_neg (by decide), at_nat hx, Option.bind_some, hxe, coll_ins hs (by omega) x, Option.bind_some, ck_eq (by omega) (by omega), Option.bind_some, j2e]
    rfl
  have ek : ∀ (r : List Int), (algn a b).drop k = 0 :: r →
      diff_Script.l1 a b (algn a b) (k : Int) (j : Int) (i : Int) s.1 s.2.1 s.2.2 = some (.next (((k + 1 : Nat) : Int), ((j + 1 : Nat) : Int), ((i + 1 : Nat) : Int), (cKeep s).1, (cKeep s).2.1, (cKeep s).2.2)) ∧ (algn a b).drop (k + 1) = r := by
    intro r hr
    obtain ⟨hlt, hk1, hr1⟩ := drop_at hr
    refine ⟨?_, hr1⟩
    have h0 := hs.at0
    have h1 := hs.at1
    unfold diff_Script.l1
    rw [ite_dec, if_pos (by omega), at_nat hlt, Option.bind_some, hk1, ite_dec, if_pos rfl, coll_keep hs (by omega), Option.bind_some, ck_eq (by omega) (by omega), Option.bind_some, ck_eq (by omega) (by omega), Option.bind_some]
    exact j2e _ _ (cKeep s)
  by_cases hia : i < a.length
  · have hda := drop_cons hia
    by_cases hjb : j < b.length
    · have hdb := drop_cons hjb
      have hal' := hal
      rw [hda, hdb, algn, ← hda, ← hdb] at hal'
      have hsc : scr (a.drop i) (b.drop j) s = if a[i] = b[j] then scr (a.drop (i + 1)) (b.drop (j + 1)) (cKeep s) else if lcs (a.drop (i + 1)) (b.drop j) ≥ lcs (a.drop i) (b.drop (j + 1)) then scr (a.drop (i + 1)) (b.drop j) (cDel a[i] s) else scr (a.drop i) (b.drop (j + 1)) (cIns b[j] s) := by
        conv => lhs; rw [hda, hdb, scr]
        rw [← hda, ← hdb]
      rw [hsc]
      by_cases heq : a[i] = b[j]
      · rw [if_pos heq] at hal' ⊢
        obtain ⟨e1, e2⟩ := ek _ hal'
        rw [iter_next e1]
        exact ih _ (by omega) (i + 1) (j + 1) (k + 1) (cKeep s) (by omega) (by omega) rfl (by omega) e2 ⟨hs.keep.open_, by have := hs.keep.len; omega, hs.keep.at0, by have := hs.keep.at1; omega, fun q hq => by have := hs.keep.each q hq; omega⟩
      · rw [if_neg heq] at hal' ⊢
        by_cases hge : lcs (a.drop (i + 1)) (b.drop j) ≥ lcs (a.drop i) (b.drop (j + 1))
        · rw [if_pos hge] at hal' ⊢
          obtain ⟨e1, e2⟩ := ed _ _ hal' ⟨hia, rfl⟩
          rw [iter_next e1]
          exact ih _ (by omega) (i + 1) j (k + 1) (cDel a[i] s) (by omega) (by omega) rfl (by omega) e2 (by have := hs.del a[i]; rwa [show i + j + 1 = i + 1 + j by omega] at this)
        · rw [if_neg hge] at hal' ⊢
          obtain ⟨e1, e2⟩ := ei _ _ hal' ⟨hjb, rfl⟩
          rw [iter_next e1]
          exact ih _ (by omega) i (j + 1) (k + 1) (cIns b[j] s) (by omega) (by omega) rfl (by omega) e2 (hs.ins b[j])
    · have hj' : j = b.length := by omega
      subst hj'
      have hal' := hal
      rw [hda, List.drop_length, algn] at hal'
      obtain ⟨e1, e2⟩ := ed _ _ hal' ⟨hia, rfl⟩
      have hsc : scr (a.drop i) (b.drop b.length) s = scr (a.drop (i + 1)) (b.drop b.length) (cDel a[i] s) := by
        rw [hda, List.drop_length, scr]
      rw [iter_next e1, hsc]
      exact ih _ (by omega) (i + 1) b.length (k + 1) (cDel a[i] s) (by omega) (by omega) rfl (by omega) (by rw [e2, List.drop_length]) (by have := hs.del a[i]; rwa [show i + b.length + 1 = i + 1 + b.length by omega] at this)
  · have hi' : i = a.length := by omega
    subst hi'
    by_cases hjb : j < b.length
    · have hdb := drop_cons hjb
      have hal' := hal
      rw [hdb, List.drop_length, algn] at hal'
      obtain ⟨e1, e2⟩ := ei _ _ hal' ⟨hjb, rfl⟩
      have hsc : scr (a.drop a.length) (b.drop j) s = scr (a.drop a.length) (b.drop (j + 1)) (cIns b[j] s) := by
        rw [hdb, List.drop_length, scr]
      rw [iter_next e1, hsc]
      exact ih _ (by omega) a.length (j + 1) (k + 1) (cIns b[j] s) (by omega) (by omega) rfl (by omega) (by rw [e2, List.drop_length]) (hs.ins b[j])
    · have hj' : j = b.length := by omega
      subst hj'
      rw [List.drop_length, List.drop_length, algn] at hal
      have := drop_end hal
      rw [List.drop_length, List.drop_length, scr]
      refine iter_done ?_
      unfold diff_Script.l1
      rw [ite_dec, if_neg (by omega)]
end

/-- the script -/
def script (a b : List ByteArray) : List Hunk := (scr a b ([], 0, false)).1

theorem script_f (a b : List ByteArray) : diff_Script a b = some (if (textFault a).Code ≠ 0 then (⟨[]⟩, textFault a) else if (textFault b).Code ≠ 0 then (⟨[]⟩, ⟨(textFault b).Code, -2⟩) else (⟨script a b⟩, ⟨0, 0⟩)) := by
  unfold diff_Script
  rw [both_f, Option.bind_some]
  by_cases ha : (textFault a).Code = 0
  · by_cases hb : (textFault b).Code = 0
    · simp only [ha, hb, ne_eq, not_true, if_false, if_true]
      have oa := (okText_iff a).2 ((textFault_zero a).2 ha)
      have ob := (okText_iff b).2 ((textFault_zero b).2 hb)
      have h1 := oa.1
      have h2 := ob.1
      rw [if_neg (by simp), align_eq (okText_small oa ob), Option.bind_some]
      have := scr_loop (a := a) (b := b) (by omega) _ 0 0 0 ([], 0, false) (Nat.zero_le _) (Nat.zero_le _) rfl (Nat.zero_le _) (by simp) ⟨fun h => (by cases h), by simp, by simp, by simp, fun q hq => (by cases hq)⟩
      simp only [List.drop_zero] at this
      rw [show (0 : Int) = ((0 : Nat) : Int) from rfl, show ((([] : List Hunk), ((0 : Nat) : Int), false) : Cst) = ([], 0, false) from rfl, this, Option.bind_some]
      rfl
    · simp only [ha, hb, ne_eq, not_true, not_false_iff, if_false, if_true]
      rw [if_pos (by simp)]
  · simp only [ha, ne_eq, not_false_iff, if_true]
    rw [if_pos (by simp)]

/-! ## a script leads from the one text to the other -/
def endS : List Hunk → Nat → Nat
  | [], low => low
  | h :: r, _ => endS r (h.At.toNat + h.Old.length)
def preS : List Hunk → List ByteArray → Nat → List ByteArray
  | [], _, _ => []
  | h :: r, t, low => (t.drop low).take (h.At.toNat - low) ++ (h.New ++ preS r t (h.At.toNat + h.Old.length))

theorem rawS_pre : ∀ (hs : List Hunk) (t : List ByteArray) (low : Nat), rawS hs t low = preS hs t low ++ t.drop (endS hs low)
  | [], t, low => rfl
  | h :: r, t, low => by rw [rawS, preS, endS, rawS_pre r t _]; simp

theorem endS_snoc : ∀ (hs : List Hunk) (h : Hunk) (low : Nat), endS (hs ++ [h]) low = h.At.toNat + h.Old.length
  | [], h, low => rfl
  | x :: r, h, low => by rw [List.cons_append, endS, endS_snoc r h _]
theorem preS_snoc : ∀ (hs : List Hunk) (h : Hunk) (t : List ByteArray) (low : Nat), preS (hs ++ [h]) t low = preS hs t low ++ ((t.drop (endS hs low)).take (h.At.toNat - endS hs low) ++ h.New)
  | [], h, t, low => by simp [preS, endS]
  | x :: r, h, t, low => by rw [List.cons_append, preS, preS, endS, preS_snoc r h t _]; simp

/-- each hunk begins behind the end of the one ahead of it -/
def Chn : Int → List Hunk → Prop
  | _, [] => True
  | e, h :: r => e < h.At ∧ Chn (h.At + h.Old.length) r
theorem chn_snoc : ∀ (l : List Hunk) (h : Hunk) (e : Int), Chn e (l ++ [h]) ↔ Chn e l ∧ (l = [] → e < h.At) ∧ (∀ p q, l = p ++ [q] → q.At + q.Old.length < h.At)
  | [], h, e => by simp [Chn]
  | x :: r, h, e => by
    rw [List.cons_append, Chn, Chn, chn_snoc r h _]
    constructor
    · rintro ⟨h1, h2, h3, h4⟩
      refine ⟨⟨h1, h2⟩, by simp, fun p q e => ?_⟩
      cases p with
      | nil => simp at e; obtain ⟨rfl, rfl⟩ := e; exact h3 rfl
      | cons y p => simp at e; exact h4 p q e.2
    · rintro ⟨⟨h1, h2⟩, h3, h4⟩
      refine ⟨h1, h2, fun e => ?_, fun p q e => h4 (x :: p) q (by rw [e]; rfl)⟩
      subst e; exact h4 [] x rfl

/-- a hunk whose lines come from the texts -/
def HkOk (a b : List ByteArray) (h : Hunk) : Prop := ∃ p q : Nat, h.At = p ∧ p + h.Old.length ≤ a.length ∧ h.Old = (a.drop p).take h.Old.length ∧ q + h.New.length ≤ b.length ∧ h.New = (b.drop q).take h.New.length ∧ 0 < h.Old.length + h.New.length

structure ScI (a b : List ByteArray) (s : Cst) (i j : Nat) : Prop where
  pos : s.2.1 = i
  low : endS s.1 0 ≤ i
  txt : preS s.1 a 0 ++ (a.drop (endS s.1 0)).take (i - endS s.1 0) = b.take j
  opn : s.2.2 = true → ∃ hs h q, s.1 = hs ++ [h] ∧ h.At.toNat + h.Old.length = i ∧ q + h.New.length = j ∧ h.New = (b.drop q).take h.New.length
  cls : s.2.2 = false → s.1 = [] ∨ endS s.1 0 < i
  chn : Chn (-1) s.1
  each : ∀ h ∈ s.1, HkOk a b h

theorem take_snoc {α : Type} {l : List α} {k : Nat} (h : k < l.length) : l.take (k + 1) = l.take k ++ [l[k]] := by
  rw [List.take_add_one, List.getElem?_eq_getElem h]; rfl

theorem setLast_snoc (hs : List Hunk) (h : Hunk) (f : Hunk → Hunk) : setLast (hs ++ [h]) f = hs ++ [f h] := by
  unfold setLast; simp

theorem ScI.keep {a b : List ByteArray} {s : Cst} {i j : Nat} (h : ScI a b s i j) (hi : i < a.length) (hj : j < b.length) (e : a[i] = b[j]) : ScI a b (cKeep s) (i + 1) (j + 1) := by
  have hl := h.low
  refine ⟨by simp only [cKeep, h.pos]; omega, by simp only [cKeep]; omega, ?_, fun h => by simp [cKeep] at h, fun _ => .inr (by simp only [cKeep]; omega), h.chn, h.each⟩
  simp only [cKeep]
  rw [take_snoc hj, ← h.txt, show i + 1 - endS s.1 0 = (i - endS s.1 0) + 1 by omega, take_snoc (by simp; omega), ← e, List.append_assoc]
  congr 3
  rw [List.getElem_drop]
  congr 1; omega

theorem HkOk.old {a b : List ByteArray} {h : Hunk} (hh : HkOk a b h) (hi : h.At.toNat + h.Old.length < a.length) : HkOk a b { h with Old := h.Old ++ [a[h.At.toNat + h.Old.length]] } := by
  obtain ⟨p, q, h1, h2, h3, h4, h5, h6⟩ := hh
  have hp : h.At.toNat = p := by omega
  refine ⟨p, q, h1, by simp; omega, ?_, h4, h5, by simp; omega⟩
  simp only [List.length_append, List.length_singleton]
  rw [take_snoc (by simp; omega), ← h3]
  congr 2
  rw [List.getElem_drop]
  simp only [hp]

theorem HkOk.new {a b : List ByteArray} {h : Hunk} (hh : HkOk a b h) {q : Nat} (hq : h.New = (b.drop q).take h.New.length) (hi : q + h.New.length < b.length) : HkOk a b { h with New := h.New ++ [b[q + h.New.length]] } ∧ h.New ++ [b[q + h.New.length]] = (b.drop q).take (h.New.length + 1) := by
  obtain ⟨p, _, h1, h2, h3, h4, h5, h6⟩ := hh
  have e : h.New ++ [b[q + h.New.length]] = (b.drop q).take (h.New.length + 1) := by
    rw [take_snoc (by simp; omega), ← hq]
    congr 2
    rw [List.getElem_drop]
  refine ⟨⟨p, q, h1, h2, h3, by simp; omega, ?_, by simp; omega⟩, e⟩
  simp only [List.length_append, List.length_singleton]
  exact e

theorem ScI.del {a b : List ByteArray} {s : Cst} {i j : Nat} (h : ScI a b s i j) (hi : i < a.length) (hj : j ≤ b.length) : ScI a b (cDel a[i] s) (i + 1) j := by
  have hl := h.low
  have ht := h.txt
  have hc := h.chn
  have he := h.each
  have hp := h.pos
  obtain ⟨hs0, at0, op⟩ := s
  simp only at hl ht hc he hp
  cases op with
  | true =>
    obtain ⟨hs, k, q, e1, e2, e3, e4⟩ := h.opn rfl
    simp only at e1
    subst e1
    have hcd : cDel a[i] (hs ++ [k], at0, true) = (hs ++ [{ k with Old := k.Old ++ [a[i]] }], at0 + 1, true) := by
      unfold cDel cOpen
      simp only [if_true, setLast_snoc]
    rw [hcd]
    rw [endS_snoc, e2, Nat.sub_self, List.take_zero, List.append_nil, preS_snoc] at ht
    have hk := HkOk.old (he k (by simp)) (by omega)
    have hx : a[k.At.toNat + k.Old.length]'(by omega) = a[i] := by congr 1
    rw [hx] at hk
    rw [chn_snoc] at hc
    refine ⟨by simp only; omega, by simp only [endS_snoc, List.length_append, List.length_singleton]; omega, ?_, fun _ => ⟨hs, _, q, rfl, by simp only [List.length_append, List.length_singleton]; omega, e3, e4⟩, fun h => by simp at h, (chn_snoc _ _ _).2 hc, ?_⟩
    · simp only [endS_snoc, List.length_append, List.length_singleton, preS_snoc]
      rw [show i + 1 - (k.At.toNat + (k.Old.length + 1)) = 0 by omega, List.take_zero, List.append_nil]
      exact ht
    · intro m hm
      rcases List.mem_append.1 hm with hm | hm
      · exact he m (List.mem_append_left _ hm)
      · rw [List.mem_singleton] at hm; subst hm; exact hk
  | false =>
    have hcl := h.cls rfl
    simp only at hcl
    have hcd : cDel a[i] (hs0, at0, false) = (hs0 ++ [⟨at0, [a[i]], []⟩], at0 + 1, true) := by
      unfold cDel cOpen
      simp only [Bool.false_eq_true, if_false, setLast_snoc, List.nil_append]
    rw [hcd]
    have hat : at0.toNat = i := by omega
    refine ⟨by simp only; omega, by simp only [endS_snoc, List.length_singleton]; omega, ?_, fun _ => ⟨hs0, _, j, rfl, by simp only [List.length_singleton]; omega, by simp, by simp⟩, fun h => by simp at h, (chn_snoc _ _ _).2 ⟨hc, fun _ => by simp only; omega, fun p q e => ?_⟩, ?_⟩
    · simp only [endS_snoc, List.length_singleton, preS_snoc, hat, Nat.sub_self, List.take_zero, List.append_nil]
      exact ht
    · subst e
      rcases hcl with hcl | hcl
      · simp at hcl
      · rw [endS_snoc] at hcl
        obtain ⟨p', _, h1, _⟩ := he q (by simp)
        simp only; omega
    · intro m hm
      rcases List.mem_append.1 hm with hm | hm
      · exact he m hm
      · rw [List.mem_singleton] at hm; subst hm
        refine ⟨i, j, hp, by simp; omega, ?_, by simp; omega, by simp, by simp⟩
        simp only [List.length_singleton]
        rw [List.drop_eq_getElem_cons hi]; rfl

theorem ScI.ins {a b : List ByteArray} {s : Cst} {i j : Nat} (h : ScI a b s i j) (hi : i ≤ a.length) (hj : j < b.length) : ScI a b (cIns b[j] s) i (j + 1) := by
  have hl := h.low
  have ht := h.txt
  have hc := h.chn
  have he := h.each
  have hp := h.pos
  obtain ⟨hs0, at0, op⟩ := s
  simp only at hl ht hc he hp
  cases op with
  | true =>
    obtain ⟨hs, k, q, e1, e2, e3, e4⟩ := h.opn rfl
    simp only at e1
    subst e1
    have hcd : cIns b[j] (hs ++ [k], at0, true) = (hs ++ [{ k with New := k.New ++ [b[j]] }], at0, true) := by
      unfold cIns cOpen
      simp only [if_true, setLast_snoc]
    rw [hcd]
    rw [endS_snoc, e2, Nat.sub_self, List.take_zero, List.append_nil, preS_snoc] at ht
    obtain ⟨hk, hk2⟩ := HkOk.new (he k (by simp)) e4 (by omega)
    have hx : b[q + k.New.length]'(by omega) = b[j] := by congr 1
    rw [hx] at hk hk2
    rw [chn_snoc] at hc
    refine ⟨hp, by simp only [endS_snoc]; omega, ?_, fun _ => ⟨hs, _, q, rfl, e2, by simp only [List.length_append, List.length_singleton]; omega, by simp only [List.length_append, List.length_singleton]; exact hk2⟩, fun h => by simp at h, (chn_snoc _ _ _).2 hc, ?_⟩
    · simp only [endS_snoc, preS_snoc]
      rw [show i - (k.At.toNat + k.Old.length) = 0 by omega, List.take_zero, List.append_nil, take_snoc hj, ← ht]
      simp only [List.append_assoc]
    · intro m hm
      rcases List.mem_append.1 hm with hm | hm
      · exact he m (List.mem_append_left _ hm)
      · rw [List.mem_singleton] at hm; subst hm; exact hk
  | false =>
    have hcl := h.cls rfl
    simp only at hcl
    have hcd : cIns b[j] (hs0, at0, false) = (hs0 ++ [⟨at0, [], [b[j]]⟩], at0, true) := by
      unfold cIns cOpen
      simp only [Bool.false_eq_true, if_false, setLast_snoc, List.nil_append]
    rw [hcd]
    have hat : at0.toNat = i := by omega
    have hn : [b[j]] = (b.drop j).take 1 := by rw [List.drop_eq_getElem_cons hj]; rfl
    refine ⟨hp, by simp only [endS_snoc, List.length_nil]; omega, ?_, fun _ => ⟨hs0, _, j, rfl, by simp only [List.length_nil]; omega, by simp, by simp only [List.length_singleton]; exact hn⟩, fun h => by simp at h, (chn_snoc _ _ _).2 ⟨hc, fun _ => by simp only; omega, fun p q e => ?_⟩, ?_⟩
    · simp only [endS_snoc, List.length_nil, preS_snoc, hat, Nat.add_zero, Nat.sub_self, List.take_zero, List.append_nil]
      rw [take_snoc hj, ← ht, List.append_assoc]
    · subst e
      rcases hcl with hcl | hcl
      · simp at hcl
      · rw [endS_snoc] at hcl
        obtain ⟨p', _, h1, _⟩ := he q (by simp)
        simp only; omega
    · intro m hm
      rcases List.mem_append.1 hm with hm | hm
      · exact he m hm
      · rw [List.mem_singleton] at hm; subst hm
        exact ⟨i, j, hp, by simp; omega, by simp, by simp; omega, by simp only [List.length_singleton]; exact hn, by simp⟩

theorem scr_ok {a b : List ByteArray} : ∀ (n i j : Nat) (s : Cst), (a.length - i) + (b.length - j) = n → i ≤ a.length → j ≤ b.length → ScI a b s i j → ScI a b (scr (a.drop i) (b.drop j) s) a.length b.length := by
  intro n
  induction n using Nat.strongRecOn with
  | _ n ih =>
  intro i j s hn hi hj h
  by_cases hia : i < a.length
  · have hda := List.drop_eq_getElem_cons hia
    by_cases hjb : j < b.length
    · have hdb := List.drop_eq_getElem_cons hjb
      have hsc : scr (a.drop i) (b.drop j) s = if a[i] = b[j] then scr (a.drop (i + 1)) (b.drop (j + 1)) (cKeep s) else if lcs (a.drop (i + 1)) (b.drop j) ≥ lcs (a.drop i) (b.drop (j + 1)) then scr (a.drop (i + 1)) (b.drop j) (cDel a[i] s) else scr (a.drop i) (b.drop (j + 1)) (cIns b[j] s) := by
        conv => lhs; rw [hda, hdb, scr]
        rw [← hda, ← hdb]
      rw [hsc]
      split
      · rename_i e
        exact ih _ (by omega) (i + 1) (j + 1) _ rfl (by omega) (by omega) (h.keep hia hjb e)
      · split
        · exact ih _ (by omega) (i + 1) j _ rfl (by omega) (by omega) (h.del hia hj)
        · exact ih _ (by omega) i (j + 1) _ rfl (by omega) (by omega) (h.ins hi hjb)
    · have hj' : j = b.length := by omega
      subst hj'
      have hsc : scr (a.drop i) (b.drop b.length) s = scr (a.drop (i + 1)) (b.drop b.length) (cDel a[i] s) := by
        rw [hda, List.drop_length, scr]
      rw [hsc]
      exact ih _ (by omega) (i + 1) b.length _ rfl (by omega) (by omega) (h.del hia hj)
  · have hi' : i = a.length := by omega
    subst hi'
    by_cases hjb : j < b.length
    · have hdb := List.drop_eq_getElem_cons hjb
      have hsc : scr (a.drop a.length) (b.drop j) s = scr (a.drop a.length) (b.drop (j + 1)) (cIns b[j] s) := by
        rw [hdb, List.drop_length, scr]
      rw [hsc]
      exact ih _ (by omega) a.length (j + 1) _ rfl (by omega) (by omega) (h.ins hi hjb)
    · have hj' : j = b.length := by omega
      subst hj'
      rw [List.drop_length, List.drop_length, scr]
      exact h

theorem ok_part {l : List ByteArray} (h : OkText l) (p k : Nat) : (textFault ((l.drop p).take k)).Code = 0 := by
  refine (textFault_zero _).1 ((okText_iff _).1 ⟨?_, fun s hs => h.2 s (List.mem_of_mem_drop (List.mem_of_mem_take hs))⟩)
  have := h.1
  simp; omega

theorem good_of {a b : List ByteArray} (ha : OkText a) (hb : OkText b) : ∀ (l : List Hunk) (e : Int), Chn e l → (∀ h ∈ l, HkOk a b h) → Good e l ∧ (-1 ≤ e → e ≤ 120 → (l.length : Int) ≤ 120 - e)
  | [], e, _, _ => ⟨trivial, fun _ _ => by simp; omega⟩
  | h :: r, e, hc, he => by
    obtain ⟨p, q, h1, h2, h3, h4, h5, h6⟩ := he h List.mem_cons_self
    obtain ⟨c1, c2⟩ := hc
    have hl := ha.1
    obtain ⟨g1, g2⟩ := good_of ha hb r _ c2 fun x hx => he x (List.mem_cons_of_mem _ hx)
    refine ⟨⟨?_, g1⟩, fun _ _ => ?_⟩
    · unfold hcode
      have t1 : (textFault h.Old).Code = 0 := by rw [h3]; exact ok_part ha _ _
      have t2 : (textFault h.New).Code = 0 := by rw [h5]; exact ok_part hb _ _
      rw [if_neg (by omega), if_neg (fun hn => hn t1), if_neg (fun hn => hn t2), if_neg (by omega), if_neg (by omega)]
    · have := g2 (by omega) (by omega)
      rw [List.length_cons]; omega

theorem script_ok {a b : List ByteArray} (ha : OkText a) (hb : OkText b) : (patchFault ⟨script a b⟩).Code = 0 ∧ applyF ⟨script a b⟩ a = (b, ⟨0, 0⟩) ∧ (script a b = [] → a = b) := by
  have h0 : ScI a b ([], 0, false) 0 0 := ⟨rfl, Nat.le_refl _, by simp [preS, endS], fun h => by simp at h, fun _ => .inl rfl, trivial, fun h hh => by cases hh⟩
  have h := scr_ok _ 0 0 _ rfl (Nat.zero_le _) (Nat.zero_le _) h0
  rw [List.drop_zero, List.drop_zero] at h
  have hraw : rawS (script a b) a 0 = b := by
    rw [rawS_pre]
    have ht := h.txt
    have hl := h.low
    rw [List.take_length, List.take_of_length_le (by simp)] at ht
    exact ht
  obtain ⟨g1, g2⟩ := good_of ha hb (script a b) (-1) h.chn h.each
  have hlen := g2 (by omega) (by omega)
  have hp : (patchFault ⟨script a b⟩).Code = 0 := (patchFault_good _).2 ⟨by simp only; omega, g1⟩
  have hf : Fits a (script a b) := fun x hx => by
    obtain ⟨p, q, h1, h2, h3, _⟩ := h.each x hx
    rw [h1, Int.toNat_natCast]
    exact ⟨by omega, h3.symm⟩
  refine ⟨hp, ?_, fun e => ?_⟩
  · rw [applyF_of hp ha.2 ha.1 hf]
    simp only
    rw [hraw, if_neg (by have := hb.1; omega)]
  · rw [e] at hraw
    exact hraw
end Go.Dc
