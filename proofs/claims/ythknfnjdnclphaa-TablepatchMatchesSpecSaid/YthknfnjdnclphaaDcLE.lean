/- Rows in order as tables of lookups; changing one row. -/
import Derived.Test.YthknfnjdnclphaaDcLD
set_option linter.unusedSimpArgs false
set_option linter.unusedVariables false
namespace Go.Dc
open Go

def lkR (rows : List Row) (k : ByteArray) : List ByteArray := cellsL ⟨[], rows⟩ k
theorem cellsL_lk (t : Table) (k : ByteArray) : cellsL t k = lkR t.Rows k := rfl

theorem lk_mem {rows : List Row} (h : RAsc rows) {r : Row} (hr : r ∈ rows) : lkR rows r.Key = r.Cells := cellsL_mem (t := ⟨[], rows⟩) h hr
theorem lk_none {rows : List Row} {k : ByteArray} (h : ∀ r ∈ rows, r.Key ≠ k) : lkR rows k = [] := cellsL_none (t := ⟨[], rows⟩) h

structure RowsOk (n : Nat) (rows : List Row) : Prop where
  asc : RAsc rows
  row : ∀ r ∈ rows, RowOk n r

theorem VTab.ok {t : Table} (h : VTab t) : RowsOk t.Columns.length t.Rows := ⟨h.asc, h.row⟩

theorem lk_cases {n : Nat} {rows : List Row} (h : RowsOk n rows) (k : ByteArray) : (lkR rows k = [] ∧ ∀ r ∈ rows, r.Key ≠ k) ∨ ((lkR rows k).length = n ∧ (⟨k, lkR rows k⟩ : Row) ∈ rows) := by
  by_cases hx : ∃ r ∈ rows, r.Key = k
  · obtain ⟨r, hr, rfl⟩ := hx
    right
    rw [lk_mem h.asc hr]
    exact ⟨(h.row r hr).len, hr⟩
  · left
    have : ∀ r ∈ rows, r.Key ≠ k := fun r hr he => hx ⟨r, hr, he⟩
    exact ⟨lk_none this, this⟩

theorem lk_ne {n : Nat} {rows : List Row} (h : RowsOk n rows) (hn : 0 < n) {k : ByteArray} : lkR rows k = [] ↔ ∀ r ∈ rows, r.Key ≠ k := by
  constructor
  · intro he
    rcases lk_cases h k with h1 | ⟨h1, _⟩
    · exact h1.2
    · rw [he] at h1; simp at h1; omega
  · exact lk_none

theorem mem_lk {n : Nat} {rows : List Row} (h : RowsOk n rows) (hn : 0 < n) (r : Row) : r ∈ rows ↔ r.Cells ≠ [] ∧ lkR rows r.Key = r.Cells := by
  constructor
  · intro hr
    refine ⟨fun e => ?_, lk_mem h.asc hr⟩
    have := (h.row r hr).len
    rw [e] at this; simp at this; omega
  · rintro ⟨h1, h2⟩
    rcases lk_cases h r.Key with h3 | ⟨_, h3⟩
    · exact absurd (h2.symm.trans h3.1) h1
    · rw [h2] at h3; exact h3

theorem rows_ext {n : Nat} {rows rows' : List Row} (h : RowsOk n rows) (h' : RowsOk n rows') (hn : 0 < n) (he : ∀ k, lkR rows k = lkR rows' k) : rows = rows' :=
  rasc_uniq h.asc h'.asc fun z => by rw [mem_lk h hn, mem_lk h' hn, he]

/-- one row put into its place, or taken out -/
def updR (rows : List Row) (k : ByteArray) (c : List ByteArray) : List Row := rows.filter (fun r => sLt r.Key k) ++ rowOf c k ++ rows.filter (fun r => sLt k r.Key)

theorem mem_upd {rows : List Row} {k : ByteArray} {c : List ByteArray} {r : Row} : r ∈ updR rows k c ↔ (r ∈ rows ∧ r.Key ≠ k) ∨ (c ≠ [] ∧ r = ⟨k, c⟩) := by
  unfold updR rowOf
  rw [List.mem_append, List.mem_append, List.mem_filter, List.mem_filter]
  constructor
  · rintro ((⟨h1, h2⟩ | h) | ⟨h1, h2⟩)
    · exact .inl ⟨h1, sLt_ne h2⟩
    · split at h
      · cases h
      · rename_i hc
        exact .inr ⟨hc, by simpa using h⟩
    · exact .inl ⟨h1, fun e => sLt_ne h2 e.symm⟩
  · rintro (⟨h1, h2⟩ | ⟨h1, h2⟩)
    · rcases sLt_tri r.Key k with h3 | h3 | h3
      · exact .inl (.inl ⟨h1, h3⟩)
      · exact absurd h3 h2
      · exact .inr ⟨h1, h3⟩
    · rw [if_neg h1]; exact .inl (.inr (by simpa using h2))

theorem upd_asc {rows : List Row} (h : RAsc rows) (k : ByteArray) (c : List ByteArray) : RAsc (updR rows k c) := by
  unfold RAsc updR
  rw [List.pairwise_append, List.pairwise_append]
  refine ⟨⟨h.sublist List.filter_sublist, by unfold rowOf; split <;> simp, fun x hx y hy => ?_⟩, h.sublist List.filter_sublist, fun x hx y hy => ?_⟩
  · have h1 := (List.mem_filter.1 hx).2
    unfold rowOf at hy
    split at hy
    · cases hy
    · rw [List.mem_singleton] at hy; subst hy; exact h1
  · have h2 := (List.mem_filter.1 hy).2
    rcases List.mem_append.1 hx with hx | hx
    · exact sLt_trans (List.mem_filter.1 hx).2 h2
    · unfold rowOf at hx
      split at hx
      · cases hx
      · rw [List.mem_singleton] at hx; subst hx; exact h2

theorem upd_ok {n : Nat} {rows : List Row} (h : RowsOk n rows) {k : ByteArray} {c : List ByteArray} (hc : c = [] ∨ RowOk n ⟨k, c⟩) : RowsOk n (updR rows k c) :=
  ⟨upd_asc h.asc k c, fun r hr => by
    rcases mem_upd.1 hr with h1 | ⟨h1, rfl⟩
    · exact h.row r h1.1
    · exact hc.resolve_left h1⟩

theorem lk_upd {n : Nat} {rows : List Row} (h : RowsOk n rows) (hn : 0 < n) {k : ByteArray} {c : List ByteArray} (hc : c = [] ∨ RowOk n ⟨k, c⟩) (k' : ByteArray) : lkR (updR rows k c) k' = if k' = k then c else lkR rows k' := by
  have hu := upd_ok h hc
  by_cases e : k' = k
  · subst e
    rw [if_pos rfl]
    by_cases h0 : c = []
    · subst h0
      refine lk_none fun r hr => ?_
      rcases mem_upd.1 hr with h1 | h1
      · exact h1.2
      · exact absurd rfl h1.1
    · exact lk_mem hu.asc (r := ⟨k', c⟩) (mem_upd.2 (.inr ⟨h0, rfl⟩))
  · rw [if_neg e]
    rcases lk_cases h k' with ⟨h1, h2⟩ | ⟨h1, h2⟩
    · rw [h1]
      refine lk_none fun r hr => ?_
      rcases mem_upd.1 hr with h3 | ⟨_, rfl⟩
      · exact h2 r h3.1
      · exact fun e2 => e e2.symm
    · exact lk_mem hu.asc (r := ⟨k', lkR rows k'⟩) (mem_upd.2 (.inl ⟨h2, e⟩))

theorem lk_rowOk {n : Nat} {rows : List Row} (h : RowsOk n rows) (k : ByteArray) : lkR rows k = [] ∨ RowOk n ⟨k, lkR rows k⟩ := by
  rcases lk_cases h k with h1 | ⟨_, h2⟩
  · exact .inl h1.1
  · exact .inr (h.row _ h2)

theorem upd_self {n : Nat} {rows : List Row} (h : RowsOk n rows) (hn : 0 < n) (k : ByteArray) : updR rows k (lkR rows k) = rows := by
  have hc := lk_rowOk h k
  refine rows_ext (upd_ok h hc) h hn fun k' => ?_
  rw [lk_upd h hn hc]
  split
  · rename_i e; rw [e]
  · rfl

theorem upd_len {n : Nat} {rows : List Row} (h : RowsOk n rows) (hn : 0 < n) (k : ByteArray) (c : List ByteArray) : (updR rows k c).length + (if lkR rows k = [] then 0 else 1) = rows.length + (if c = [] then 0 else 1) := by
  have h1 : (updR rows k (lkR rows k)).length = rows.length := by rw [upd_self h hn]
  unfold updR rowOf at h1 ⊢
  rw [List.length_append, List.length_append] at h1 ⊢
  by_cases a : lkR rows k = [] <;> by_cases b : c = [] <;> simp [a, b] at h1 ⊢ <;> omega

/-! the place of a key -/
structure At (l : List Row) (p : ByteArray) (k : Nat) : Prop where
  le : k ≤ l.length
  lo : ∀ i (hi : i < l.length), i < k → sLt l[i].Key p = true
  hi : ∀ i (hi : i < l.length), k ≤ i → sLt l[i].Key p = false

theorem find_g {l : List Row} (h : RAsc l) (hl : l.length ≤ 1000000) (p : ByteArray) :
    ∃ (k : Nat) (b : Bool), tablepatch_find l p = some ((k : Int), b) ∧ At l p k ∧ (b = true ↔ ∃ hk : k < l.length, l[k].Key = p) := by
  obtain ⟨q, e, k, rfl, hA⟩ := iter_rule (m := fun s => tablepatch_find.l1 l p s.1 s.2)
    (fun s => ∃ lo hi : Nat, s = ((hi : Int), (lo : Int)) ∧ lo ≤ hi ∧ hi ≤ l.length ∧ (∀ i (hi : i < l.length), i < lo → sLt l[i].Key p = true) ∧ (∀ i (hi' : i < l.length), hi ≤ i → sLt l[i].Key p = false))
    (fun s => s.1.toNat - s.2.toNat)
    (fun q => ∃ k : Nat, q = (k : Int) ∧ At l p k) (by
    rintro s ⟨lo, hi, rfl, hlh, hhl, h1, h2⟩
    unfold tablepatch_find.l1
    simp only
    by_cases hlt : lo < hi
    · left
      have hm : (((lo : Int) + hi) / 2) = ((lo + hi) / 2 : Nat) := by omega
      have hml : (lo + hi) / 2 < l.length := by omega
      rw [decide_eq_true (by omega : (lo : Int) < hi), if_pos rfl, ck_eq (by omega) (by omega), Option.bind_some, ckW (by omega) (by omega), Option.bind_some, shr1w (by omega), Option.bind_some, hm, ck_eq (by omega) (by omega), Option.bind_some, at_nat hml, Option.bind_some, finds_t, Option.bind_some, cmpB_neg]
      cases hc : sLt l[(lo + hi) / 2].Key p
      · rw [if_neg Bool.false_ne_true]
        refine ⟨_, rfl, ⟨lo, (lo + hi) / 2, rfl, by omega, by omega, h1, fun i hi' hle => ?_⟩, by simp only; omega⟩
        cases hx : sLt l[i].Key p
        · rfl
        · have := rasc_lt h hml hi' hle hx
          rw [this] at hc; cases hc
      · rw [if_pos rfl, ck_eq (by omega) (by omega), Option.bind_some]
        exact ⟨_, rfl, ⟨(lo + hi) / 2 + 1, hi, rfl, by omega, by omega, fun i hi' hle => rasc_lt h hi' hml (by omega) hc, h2⟩, by simp only; omega⟩
    · right
      rw [decide_eq_false (by omega), if_neg Bool.false_ne_true]
      exact ⟨_, rfl, lo, rfl, by omega, h1, fun i hi' hle => h2 i hi' (by omega)⟩)
    ((l.length : Int), 0) ⟨0, l.length, rfl, Nat.zero_le _, Nat.le_refl _, fun i _ h => absurd h (by omega), fun i hi h => absurd h (by omega)⟩
  unfold tablepatch_find tablepatch_find.j1
  rw [e, Option.bind_some, ite_dec]
  by_cases hkl : k < l.length
  · rw [if_pos (by omega), at_nat hkl, Option.bind_some, finds_t, Option.bind_some, cmpB_zero, Option.bind_some]
    refine ⟨k, _, rfl, hA, ?_⟩
    rw [decide_eq_true_eq]
    exact ⟨fun h => ⟨hkl, h⟩, fun ⟨_, h⟩ => h⟩
  · rw [if_neg (by omega), Option.bind_some]
    exact ⟨k, _, rfl, hA, ⟨fun h => (by cases h), fun ⟨h, _⟩ => absurd h hkl⟩⟩

theorem at_take {l : List Row} {p : ByteArray} {k : Nat} (h : At l p k) : l.take k = l.filter fun r => sLt r.Key p := by
  conv => rhs; rw [← List.take_append_drop k l, List.filter_append]
  rw [List.filter_eq_self.2, List.filter_eq_nil_iff.2, List.append_nil]
  · intro r hr
    obtain ⟨i, hi, rfl⟩ := List.getElem_of_mem hr
    rw [List.length_drop] at hi
    rw [List.getElem_drop, h.hi (k + i) (by omega) (by omega)]; simp
  · intro r hr
    obtain ⟨i, hi, rfl⟩ := List.getElem_of_mem hr
    rw [List.length_take] at hi
    rw [List.getElem_take]; exact h.lo i (by omega) (by omega)

theorem at_drop {l : List Row} (ha : RAsc l) {p : ByteArray} {k j : Nat} (h : At l p k) (hj : (j = k ∧ ∀ r ∈ l, r.Key ≠ p) ∨ (j = k + 1 ∧ ∃ hk : k < l.length, l[k].Key = p)) : l.drop j = l.filter fun r => sLt p r.Key := by
  have hjk : k ≤ j := by rcases hj with h | h <;> omega
  conv => rhs; rw [← List.take_append_drop j l, List.filter_append]
  rw [List.filter_eq_nil_iff.2, List.nil_append, List.filter_eq_self.2]
  · intro r hr
    obtain ⟨i, hi, rfl⟩ := List.getElem_of_mem hr
    rw [List.length_drop] at hi
    rw [List.getElem_drop]
    rcases hj with ⟨rfl, hn⟩ | ⟨rfl, hk, he⟩
    · rcases sLt_not (h.hi (j + i) (by omega) (by omega)) with h1 | h1
      · exact absurd h1 (hn _ (List.getElem_mem _))
      · exact h1
    · rw [← he]; exact (List.pairwise_iff_getElem.1 ha) k (k + 1 + i) hk (by omega) (by omega)
  · intro r hr
    obtain ⟨i, hi, rfl⟩ := List.getElem_of_mem hr
    rw [List.length_take] at hi
    rw [List.getElem_take]
    simp only [Bool.not_eq_true]
    by_cases hik : i < k
    · exact sLt_asymm (h.lo i (by omega) hik)
    · rcases hj with ⟨rfl, _⟩ | ⟨rfl, hk, he⟩
      · omega
      · have : i = k := by omega
        subst this
        rw [he]; exact sLt_irr _

/-! one change -/
def needOk (n : Nat) (c : CellChange) : Prop := (c.Column = -1 ∧ ((c.Old = [] ∧ c.New.length = n) ∨ (c.New = [] ∧ c.Old.length = n))) ∨ (0 ≤ c.Column ∧ c.Column < n ∧ c.Old.length = 1 ∧ c.New.length = 1)
noncomputable instance (n : Nat) (c : CellChange) : Decidable (needOk n c) := Classical.propDecidable _
noncomputable def chkC (n : Nat) (c : CellChange) : Int :=
  if nameC c.Key ≠ 0 then nameC c.Key else if c.Column < -1 ∨ c.Column ≥ n then 3 else if ¬ needOk n c then 9
  else if (textFault c.Old).Code ≠ 0 then (textFault c.Old).Code else (textFault c.New).Code

/-- what a change does to rows: the code, the rows -/
def perfR (rows : List Row) (c : CellChange) : Int × List Row :=
  if c.Column = -1 ∧ c.Old = [] then
    if lkR rows c.Key ≠ [] then (7, []) else if rows.length ≥ 30 then (14, []) else (0, updR rows c.Key c.New)
  else if lkR rows c.Key = [] then (6, [])
  else if c.Column = -1 then (if lkR rows c.Key ≠ c.Old then (19, []) else (0, updR rows c.Key []))
  else if nth (lkR rows c.Key) c.Column.toNat ≠ nth c.Old 0 then (19, [])
  else (0, updR rows c.Key ((lkR rows c.Key).set c.Column.toNat (nth c.New 0)))

theorem has_iff {n : Nat} {l : List Row} (h : RowsOk n l) (hn : 0 < n) {p : ByteArray} {k : Nat} (hA : At l p k) : (∃ hk : k < l.length, l[k].Key = p) ↔ lkR l p ≠ [] := by
  constructor
  · rintro ⟨hk, rfl⟩ he
    exact (lk_ne h hn).1 he _ (List.getElem_mem hk) rfl
  · intro hne
    rcases lk_cases h p with h1 | ⟨_, h1⟩
    · exact absurd h1.1 hne
    · obtain ⟨i, hi, e⟩ := List.getElem_of_mem h1
      have hk : l[i].Key = p := by rw [e]
      by_cases h2 : i < k
      · have := hA.lo i hi h2; rw [hk, sLt_irr] at this; cases this
      · by_cases h3 : i = k
        · subst h3; exact ⟨hi, hk⟩
        · have h4 := hA.hi k (by omega) (Nat.le_refl _)
          have h5 := (List.pairwise_iff_getElem.1 h.asc) k i (by omega) hi (by omega)
          rw [hk, h4] at h5; cases h5

theorem perf_f {n : Nat} {cs : List CellChange} {j : Nat} (hj : j < cs.length) (hcs : cs.length ≤ 1000) {rows : List Row} (h : RowsOk n rows) (hn : 0 < n) (hn8 : n ≤ 8) (hl : rows.length ≤ 30) (hc : needOk n cs[j]) :
    tablepatch_Apply.l1 cs (j : Int) rows = if (perfR rows cs[j]).1 ≠ 0 then some (.done (.inl (⟨[], []⟩, ⟨(perfR rows cs[j]).1, (j : Int)⟩))) else some (.next (((j + 1 : Nat) : Int), (perfR rows cs[j]).2)) := by
  have hj3 : ∀ (x : Int) (q : List Row), tablepatch_Apply.j3 (j : Int) x q = if x ≠ 0 then some (.done (.inl (⟨[], []⟩, ⟨x, (j : Int)⟩))) else some (.next (((j + 1 : Nat) : Int), q)) := by
    intro x q
    unfold tablepatch_Apply.j3
    rw [ite_ndec, ck_eq (by omega) (by omega), Option.bind_some]
    by_cases hx : x = 0
    · rw [if_pos hx, ite_nn hx]; rfl
    · rw [if_neg hx, if_pos hx]
  unfold tablepatch_Apply.l1
  rw [ite_dec, if_pos (by omega), at_nat hj, Option.bind_some]
  generalize cs[j] = c at hc ⊢
  obtain ⟨k, b, e, hA, hb⟩ := find_g h.asc (by omega) c.Key
  rw [e, Option.bind_some]
  simp only
  rw [has_iff h hn hA] at hb
  have e1 : (if decide (c.Column = -1) = true then some (decide ((c.Old.length : Int) = 0)) else some false) = some (decide (c.Column = -1 ∧ c.Old = [])) := by
    have : decide ((c.Old.length : Int) = 0) = decide (c.Old = []) := by cases c.Old <;> simp <;> omega
    rw [this]
    by_cases h1 : c.Column = -1 <;> simp [h1]
  rw [e1, Option.bind_some, ite_dec]
  unfold perfR
  by_cases c1 : c.Column = -1 ∧ c.Old = []
  · rw [if_pos c1, if_pos c1]
    by_cases c2 : lkR rows c.Key = []
    case neg =>
      rw [hb.2 c2, if_pos rfl, hj3, if_pos c2, if_pos (by decide), if_pos (by decide)]
    have hbf : b = false := by cases b; · rfl
                               · exact absurd c2 (hb.1 rfl)
    rw [hbf, if_neg Bool.false_ne_true, ite_nn c2, ite_dec]
    by_cases c3 : rows.length ≥ 30
    · rw [if_pos (by omega), if_pos c3, hj3, if_pos (by decide), if_pos (by decide)]
    rw [if_neg (by omega), if_neg c3]
    have hnl : c.New.length = n := by
      rcases hc with ⟨_, hc | hc⟩ | hc
      · exact hc.2
      · have := hc.2; rw [c1.2] at this; simp at this; omega
      · omega
    rw [clone_t _ (by omega), Option.bind_some]
    have hi : ins? 40 rows (k : Int) [⟨c.Key, c.New⟩] = some (rows.take k ++ [⟨c.Key, c.New⟩] ++ rows.drop k) := ins?_mk hA.le rfl (by omega)
    rw [hi, Option.bind_some, hj3]
    have hno := (lk_ne h hn).1 c2
    have : rows.take k ++ [⟨c.Key, c.New⟩] ++ rows.drop k = updR rows c.Key c.New := by
      unfold updR rowOf
      rw [at_take hA, at_drop h.asc hA (.inl ⟨rfl, hno⟩), if_neg (by intro e; rw [e] at hnl; simp at hnl; omega)]
    rw [this, ite_nn rfl]
  rw [if_neg c1, if_neg c1]
  by_cases c2 : lkR rows c.Key = []
  · have hbf : b = false := by cases b; · rfl
                               · exact absurd c2 (hb.1 rfl)
    rw [hbf, if_pos (by rfl), hj3, if_pos c2, if_pos (by decide), if_pos (by decide)]
  rw [if_neg c2, hb.2 c2, if_neg (by decide)]
  obtain ⟨hk, hkk⟩ := (has_iff h hn hA).2 c2
  have hm := List.getElem_mem hk
  have hcell : lkR rows c.Key = rows[k].Cells := by rw [← hkk]; exact lk_mem h.asc hm
  have hrl := (h.row _ hm).len
  rw [at_nat hk, Option.bind_some, ite_dec, hcell]
  by_cases c3 : c.Column = -1
  · rw [if_pos c3, if_pos c3, sEq_f _ _ (by omega), Option.bind_some, ite_ndec]
    by_cases c4 : rows[k].Cells = c.Old
    case neg => rw [if_neg c4, if_pos c4, hj3, if_pos (by decide), if_pos (by decide)]
    rw [if_pos c4, ite_nn c4, ck_eq (by omega) (by omega), Option.bind_some]
    have hd : del? rows (k : Int) ((k : Int) + 1) = some (rows.take k ++ rows.drop (k + 1)) := del?_mk (q := k + 1) (by omega) (by omega)
    rw [hd, Option.bind_some, hj3]
    have : rows.take k ++ rows.drop (k + 1) = updR rows c.Key [] := by
      unfold updR rowOf
      rw [at_take hA, at_drop h.asc hA (.inr ⟨rfl, hk, hkk⟩), if_pos rfl, List.append_nil]
    rw [this, ite_nn rfl]
  · rw [if_neg c3, if_neg c3]
    obtain ⟨h0, h1, h2, h3⟩ := hc.resolve_left (fun hh => c3 hh.1)
    obtain ⟨q, hq⟩ := Int.eq_ofNat_of_zero_le h0
    rw [hq, Int.toNat_natCast]
    have hqn : q < rows[k].Cells.length := by omega
    have ho : at? c.Old 0 = some c.Old[0] := at_nat (k := 0) (by omega)
    have hw : at? c.New 0 = some c.New[0] := at_nat (k := 0) (by omega)
    rw [at_nat hqn, Option.bind_some, ho, Option.bind_some, ite_ndec, nth_at hqn, nth_at (by omega : 0 < c.Old.length), nth_at (by omega : 0 < c.New.length)]
    by_cases c4 : rows[k].Cells[q] = c.Old[0]
    case neg => rw [if_neg c4, if_pos c4, hj3, if_pos (by decide), if_pos (by decide)]
    rw [if_pos c4, ite_nn c4, hw, Option.bind_some, Option.bind_some, Option.bind_some, Option.bind_some, Int.toNat_natCast, hj3]
    have hset : rows.set k ⟨rows[k].Key, rows[k].Cells.set q c.New[0]⟩ = updR rows c.Key (rows[k].Cells.set q c.New[0]) := by
      unfold updR rowOf
      rw [if_neg (by intro e; have := congrArg List.length e; rw [List.length_set] at this; simp only [List.length_nil] at this; omega), ← at_take hA, ← at_drop h.asc hA (.inr ⟨rfl, hk, hkk⟩), List.set_eq_take_append_cons_drop, if_pos hk, hkk]
      simp
    rw [hset, ite_nn rfl]
end Go.Dc
