/- Laws of merging tables. -/
import Derived.Test.YthknfnjdnclphaaDcLC
set_option linter.unusedSimpArgs false
set_option linter.unusedVariables false
namespace Go.Dc
open Go

theorem tbl_refl (a : Table) (h1 : a.Columns.length ≤ 1000) (h2 : a.Rows.length ≤ 1000) (h3 : ∀ r ∈ a.Rows, r.Cells.length ≤ 1000) : changeforgeequal_Table a a = some true := by
  unfold changeforgeequal_Table
  rw [strings_eq _ _ (by omega), Option.bind_some]
  simp only [decide_true, Bool.not_true, Bool.false_eq_true, if_false, Option.bind_some]
  rw [any_loopC (f := fun s => changeforgeequal_Table.l1 a a s) (.inl false) (.inr ()) a.Rows (fun _ => false) ?_ ?_, Option.bind_some]
  · have : (a.Rows.any fun _ => false) = false := by simp
    rw [this]; rfl
  · intro k hk
    have := h3 _ (List.getElem_mem hk)
    unfold changeforgeequal_Table.l1
    rw [ite_dec, if_pos (by omega), at_nat hk]
    simp only [Option.bind_some, decide_true, Bool.not_true, Bool.false_eq_true, if_false]
    rw [strings_eq _ _ (by omega), Option.bind_some]
    simp only [decide_true, Bool.not_true, Option.bind_some, Bool.false_eq_true, if_false]
    rw [ck_eq (by omega) (by omega), Option.bind_some]; rfl
  · unfold changeforgeequal_Table.l1
    rw [ite_dec, if_neg (by omega)]

theorem cls_refl (a : List CellChange) (h2 : a.length ≤ 100000) (h3 : ∀ r ∈ a, r.Old.length ≤ 1000 ∧ r.New.length ≤ 1000) : changeforgeequal_Cells a a = some true := by
  unfold changeforgeequal_Cells
  simp only [decide_true, Bool.not_true, Bool.false_eq_true, if_false]
  rw [any_loopC (f := fun s => changeforgeequal_Cells.l1 a a s) (.inl false) (.inr ()) a (fun _ => false) ?_ ?_, Option.bind_some]
  · have : (a.any fun _ => false) = false := by simp
    rw [this]; rfl
  · intro k hk
    obtain ⟨h4, h5⟩ := h3 _ (List.getElem_mem hk)
    unfold changeforgeequal_Cells.l1
    rw [ite_dec, if_pos (by omega), at_nat hk]
    simp only [Option.bind_some, decide_true, Bool.not_true, Bool.false_eq_true, if_false]
    rw [strings_eq _ _ (by omega), Option.bind_some]
    simp only [decide_true, Bool.not_true, Option.bind_some, Bool.false_eq_true, if_false]
    rw [strings_eq _ _ (by omega), Option.bind_some]
    simp only [decide_true, Bool.not_true, Option.bind_some, Bool.false_eq_true, if_false]
    rw [ck_eq (by omega) (by omega), Option.bind_some]; rfl
  · unfold changeforgeequal_Cells.l1
    rw [ite_dec, if_neg (by omega)]

def RSt (base left right : Table) : List Row := (ks3 base left right).flatMap (rowK base left right)
def BSt (base left right : Table) : List CellChange := (ks3 base left right).flatMap (badK base left right)

theorem mrgT_code {base left right : Table} : (mrgT base left right).2.2.Code = 0 ↔ (pairF base left (-20)).Code = 0 ∧ (pairF base right (-30)).Code = 0 ∧ (RSt base left right).length ≤ 30 := by
  unfold mrgT RSt
  by_cases h1 : (pairF base left (-20)).Code = 0
  case neg => rw [if_pos h1]; exact ⟨fun h => absurd h h1, fun h => absurd h.1 h1⟩
  rw [ite_nn h1]
  by_cases h2 : (pairF base right (-30)).Code = 0
  case neg => rw [if_pos h2]; exact ⟨fun h => absurd h h2, fun h => absurd h.2.1 h2⟩
  rw [ite_nn h2]
  by_cases h3 : ((ks3 base left right).flatMap (rowK base left right)).length > 30
  · rw [if_pos h3]; exact ⟨fun h => absurd h (by decide), fun h => absurd h.2.2 (by omega)⟩
  · rw [if_neg h3]; exact ⟨fun _ => ⟨h1, h2, by omega⟩, fun _ => rfl⟩

theorem mrgT_ok {base left right : Table} (h : (mrgT base left right).2.2.Code = 0) : Three base left right ∧ mrgT base left right = (⟨base.Columns, RSt base left right⟩, BSt base left right, ⟨0, 0⟩) ∧ (RSt base left right).length ≤ 30 := by
  obtain ⟨h1, h2, h3⟩ := mrgT_code.1 h
  refine ⟨three_of h1 h2, ?_, h3⟩
  unfold mrgT
  rw [ite_nn h1, ite_nn h2, if_neg (by unfold RSt at h3; omega)]; rfl

theorem mrgT_no {base left right : Table} (h : ¬ (mrgT base left right).2.2.Code = 0) : (mrgT base left right).1 = ⟨[], []⟩ ∧ (mrgT base left right).2.1 = [] := by
  unfold mrgT at h ⊢
  by_cases h1 : (pairF base left (-20)).Code = 0
  case neg => rw [if_pos h1]; exact ⟨rfl, rfl⟩
  rw [ite_nn h1] at h ⊢
  by_cases h2 : (pairF base right (-30)).Code = 0
  case neg => rw [if_pos h2]; exact ⟨rfl, rfl⟩
  rw [ite_nn h2] at h ⊢
  by_cases h3 : ((ks3 base left right).flatMap (rowK base left right)).length > 30
  · rw [if_pos h3]; exact ⟨rfl, rfl⟩
  · rw [if_neg h3] at h; exact absurd rfl h

/-- the cells of rows that hold -/
def CellOk (n : Nat) (c : List ByteArray) : Prop := c = [] ∨ (c.length = n ∧ (textFault c).Code = 0)

theorem text_ok {c : List ByteArray} : (textFault c).Code = 0 ↔ OkText c := by rw [okText_iff, textFault_zero]

theorem mrgK_ok {n : Nat} {o a b : List ByteArray} {k : ByteArray} (hn : n ≤ 8) (h0 : 0 < n) (ha : CellOk n a) (hb : CellOk n b) : CellOk n (mrgK o a b k).1 ∧ ((mrgK o a b k).1 ≠ [] → a ≠ [] ∨ b ≠ []) := by
  unfold mrgK
  by_cases c1 : b = o ∨ b = a
  · rw [if_pos c1]; exact ⟨ha, .inl⟩
  rw [if_neg c1]
  by_cases c2 : a = o
  · rw [if_pos c2]; exact ⟨hb, .inr⟩
  rw [if_neg c2]
  by_cases c3 : a = [] ∨ b = []
  · rw [if_pos c3]; exact ⟨ha, .inl⟩
  rw [if_neg c3]
  have ha' := ha.resolve_left (fun h => c3 (.inl h))
  have hb' := hb.resolve_left (fun h => c3 (.inr h))
  refine ⟨.inr ⟨?_, ?_⟩, fun _ => .inl (fun h => c3 (.inl h))⟩
  · unfold cellsM; simp [ha'.1]
  · rw [text_ok]
    have ta := text_ok.1 ha'.2
    have tb := text_ok.1 hb'.2
    refine ⟨by unfold cellsM; simp [ha'.1]; omega, fun s hs => ?_⟩
    unfold cellsM at hs
    simp only [List.mem_map, List.mem_range] at hs
    obtain ⟨i, hi, rfl⟩ := hs
    unfold cellV
    split
    · rw [nth_at (by rw [hb'.1, ← ha'.1]; exact hi)]; exact tb.2 _ (List.getElem_mem _)
    · rw [nth_at hi]; exact ta.2 _ (List.getElem_mem _)

theorem cellOk_of {t : Table} (h : VTab t) (k : ByteArray) : CellOk t.Columns.length (cellsL t k) := by
  rcases cellsL_len h k with e | ⟨e, hm⟩
  · exact .inl e
  · exact .inr ⟨e, (h.row _ hm).ok⟩

section
variable {base left right : Table} (h : Three base left right) include h

theorem rowK_ok (k : ByteArray) : ∀ r ∈ rowK base left right k, r.Key = k ∧ RowOk base.Columns.length r := by
  intro r hr
  have ha : CellOk base.Columns.length (cellsL left k) := by rw [h.cl]; exact cellOk_of h.l k
  have hb : CellOk base.Columns.length (cellsL right k) := by rw [h.cr]; exact cellOk_of h.r k
  obtain ⟨m1, m2⟩ := mrgK_ok (o := cellsL base k) (k := k) h.n.2 h.n.1 ha hb
  unfold rowK rowOf at hr
  split at hr
  · cases hr
  · rename_i hne
    rw [List.mem_singleton] at hr
    subst hr
    have hm := m1.resolve_left hne
    refine ⟨rfl, ?_, hm.1, hm.2⟩
    rcases m2 hne with h1 | h1
    · obtain ⟨q, hq, rfl⟩ := (cellsL_ne h.l).1 h1; exact (h.l.row q hq).key
    · obtain ⟨q, hq, rfl⟩ := (cellsL_ne h.r).1 h1; exact (h.r.row q hq).key

theorem RS_asc : RAsc (RSt base left right) := by
  unfold RSt RAsc
  rw [List.pairwise_flatMap]
  refine ⟨fun k _ => ?_, (ksort_asc _).imp (fun {x y} hxy p hp q hq => ?_)⟩
  · unfold rowK rowOf; split <;> simp
  · rw [(rowK_ok h x p hp).1, (rowK_ok h y q hq).1]; exact hxy

theorem RS_row : ∀ r ∈ RSt base left right, RowOk base.Columns.length r := by
  intro r hr
  unfold RSt at hr
  obtain ⟨k, _, hk⟩ := List.mem_flatMap.1 hr
  exact (rowK_ok h k r hk).2

theorem RS_tab (hl : (RSt base left right).length ≤ 30) : VTab ⟨base.Columns, RSt base left right⟩ := ⟨h.b.cols, hl, RS_row h, RS_asc h⟩

theorem badK_ok (k : ByteArray) : ∀ c ∈ badK base left right k, c.Old ≠ c.New ∧ c.Old.length ≤ 8 ∧ c.New.length ≤ 8 := by
  intro c hc
  obtain ⟨_, l2, l3⟩ := h.le8 k
  unfold badK mrgK at hc
  by_cases c1 : cellsL right k = cellsL base k ∨ cellsL right k = cellsL left k
  · rw [if_pos c1] at hc; cases hc
  rw [if_neg c1] at hc
  by_cases c2 : cellsL left k = cellsL base k
  · rw [if_pos c2] at hc; cases hc
  rw [if_neg c2] at hc
  by_cases c3 : cellsL left k = [] ∨ cellsL right k = []
  · rw [if_pos c3] at hc
    rw [List.mem_singleton] at hc
    subst hc
    exact ⟨fun e => c1 (.inr e.symm), l2, l3⟩
  rw [if_neg c3] at hc
  unfold cellsM at hc
  obtain ⟨i, _, hi⟩ := List.mem_flatMap.1 hc
  unfold cellC at hi
  split at hi
  · rename_i hcond
    rw [List.mem_singleton] at hi
    subst hi
    exact ⟨fun e => hcond.2.1 (by injection e), by simp, by simp⟩
  · cases hi

theorem BS_ok : ∀ c ∈ BSt base left right, c.Old ≠ c.New ∧ c.Old.length ≤ 8 ∧ c.New.length ≤ 8 := by
  intro c hc
  unfold BSt at hc
  obtain ⟨k, _, hk⟩ := List.mem_flatMap.1 hc
  exact badK_ok h k c hk

theorem BS_len : (BSt base left right).length ≤ 720 := by
  have h1 := flat_len (badK base left right) 8 (fun k => mrgK_len (h.le8 k).2.1) (ks3 base left right)
  have h2 := ks3_len h
  unfold BSt
  omega

theorem tab_refl (hl : (RSt base left right).length ≤ 30) : changeforgeequal_Table ⟨base.Columns, RSt base left right⟩ ⟨base.Columns, RSt base left right⟩ = some true :=
  tbl_refl _ (by have := h.n.2; simp only; omega) (by simp only; omega) (fun r hr => by have := (RS_row h r hr).len; have := h.n.2; omega)
end

def tq (a b : ByteArray) : Table := ⟨[⟨#[99]⟩, ⟨#[100]⟩], [⟨⟨#[107]⟩, [a, b]⟩]⟩
def t1q : Table := tq ⟨#[49]⟩ ⟨#[50]⟩
def t2q : Table := tq ⟨#[51]⟩ ⟨#[50]⟩
def t3q : Table := tq ⟨#[49]⟩ ⟨#[52]⟩

theorem both_f : changeforgelaw2_both = some true := by
  have hk : ks3 t1q t2q t3q = [(⟨#[107]⟩ : ByteArray)] := by
    unfold ks3
    refine sasc_uniq (ksort_asc _) (by simp [SAsc]) fun z => ?_
    rw [ksort_mem]
    simp [keysR, t1q, t2q, t3q, tq]
  have hr : RSt t1q t2q t3q = [⟨⟨#[107]⟩, [⟨#[51]⟩, ⟨#[52]⟩]⟩] := by
    unfold RSt
    rw [hk]
    rfl
  have hb : BSt t1q t2q t3q = [] := by
    unfold BSt
    rw [hk]
    rfl
  have hc : (mrgT t1q t2q t3q).2.2.Code = 0 := mrgT_code.2 ⟨by decide +kernel, by decide +kernel, by rw [hr]; simp⟩
  have hm := (mrgT_ok hc).2.1
  rw [hr, hb] at hm
  unfold changeforgelaw2_both changeforgelaw2_table
  simp only [Option.bind_some]
  rw [show (⟨[(⟨#[99]⟩ : ByteArray), ⟨#[100]⟩], [⟨⟨#[107]⟩, [⟨#[49]⟩, ⟨#[50]⟩]⟩]⟩ : Table) = t1q from rfl, show (⟨[(⟨#[99]⟩ : ByteArray), ⟨#[100]⟩], [⟨⟨#[107]⟩, [⟨#[51]⟩, ⟨#[50]⟩]⟩]⟩ : Table) = t2q from rfl, show (⟨[(⟨#[99]⟩ : ByteArray), ⟨#[100]⟩], [⟨⟨#[107]⟩, [⟨#[49]⟩, ⟨#[52]⟩]⟩]⟩ : Table) = t3q from rfl]
  rw [Merge_f, Option.bind_some, hm]
  simp only [List.length_nil, Int.natCast_zero, decide_true, if_true]
  have ht : changeforgeequal_Table ⟨t1q.Columns, [⟨⟨#[107]⟩, [⟨#[51]⟩, ⟨#[52]⟩]⟩]⟩ ⟨[(⟨#[99]⟩ : ByteArray), ⟨#[100]⟩], [⟨⟨#[107]⟩, [⟨#[51]⟩, ⟨#[52]⟩]⟩]⟩ = some true :=
    tbl_refl ⟨[(⟨#[99]⟩ : ByteArray), ⟨#[100]⟩], [⟨⟨#[107]⟩, [⟨#[51]⟩, ⟨#[52]⟩]⟩]⟩ (by simp) (by simp) (by simp)
  rw [ht, Option.bind_some]; rfl

theorem merge_matches (base left right : Table) : changeforgelaw2_TablepatchMergeMatchesSpec base left right = some true := by
  unfold changeforgelaw2_TablepatchMergeMatchesSpec
  rw [Merge_f, Option.bind_some, MergeTables_f, Option.bind_some]
  have ht : changeforgeequal_Table (mrgT base left right).1 (mrgT base left right).1 = some true := by
    by_cases h : (mrgT base left right).2.2.Code = 0
    · obtain ⟨h3, e, hl⟩ := mrgT_ok h
      rw [e]; exact tab_refl h3 hl
    · rw [(mrgT_no h).1]; exact tbl_refl _ (by simp) (by simp) (by simp)
  have hc : changeforgeequal_Cells (mrgT base left right).2.1 (mrgT base left right).2.1 = some true := by
    by_cases h : (mrgT base left right).2.2.Code = 0
    · obtain ⟨h3, e, hl⟩ := mrgT_ok h
      rw [e]
      exact cls_refl _ (by have := BS_len h3; simp only; omega) (fun r hr => by have := BS_ok h3 r hr; omega)
    · rw [(mrgT_no h).2]; exact cls_refl _ (by simp) (by simp)
  rw [ht, hc, both_f]
  simp

theorem merge_valid (base left right : Table) : changeforgelaw2_TablepatchMergeValid base left right = some true := by
  unfold changeforgelaw2_TablepatchMergeValid
  rw [Merge_f, Option.bind_some, ite_ndec]
  by_cases h : (mrgT base left right).2.2.Code = 0
  case neg => rw [if_neg h, both_f]; rfl
  rw [if_pos h]
  obtain ⟨h3, e, hl⟩ := mrgT_ok h
  rw [e]
  have hbl := BS_len h3
  rw [any_loopC (f := fun s => changeforgelaw2_TablepatchMergeValid.l1 (⟨base.Columns, RSt base left right⟩, BSt base left right, ⟨0, 0⟩) s) (.inl false) (.inr ()) (BSt base left right) (fun _ => false) ?_ ?_, Option.bind_some]
  · have : ((BSt base left right).any fun _ => false) = false := by simp
    rw [this]
    simp only [Bool.false_eq_true, if_false]
    unfold changeforgelaw2_TablepatchMergeValid.j1
    simp only
    rw [Validate_f, (vtab_iff _).1 (RS_tab h3 hl), Option.bind_some]
    simp only [decide_true, if_true]
    rw [strings_eq _ _ (by have := h3.n.2; omega), both_f]
    simp
  · intro k hk
    obtain ⟨b1, b2, b3⟩ := BS_ok h3 _ (List.getElem_mem hk)
    unfold changeforgelaw2_TablepatchMergeValid.l1
    simp only
    rw [ite_dec, if_pos (by omega), at_nat hk, Option.bind_some, Option.bind_some, strings_eq _ _ (by omega), Option.bind_some, decide_eq_false b1, if_neg Bool.false_ne_true, ck_eq (by omega) (by omega), Option.bind_some]; rfl
  · unfold changeforgelaw2_TablepatchMergeValid.l1
    simp only
    rw [ite_dec, if_neg (by omega)]

/-! the sides exchanged -/
def swp (c : CellChange) : CellChange := ⟨c.Key, c.Column, c.New, c.Old⟩

theorem cellC_swap (k : ByteArray) (o a b : List ByteArray) (i : Nat) : cellC k o b a i = (cellC k o a b i).map swp := by
  unfold cellC
  by_cases h : ¬ (o ≠ [] ∧ nth a i = nth o i) ∧ nth a i ≠ nth b i ∧ (o = [] ∨ nth b i ≠ nth o i)
  · rw [if_pos h, if_pos]; · rfl
    refine ⟨fun h2 => ?_, Ne.symm h.2.1, ?_⟩
    · rcases h.2.2 with h3 | h3
      · exact h2.1 h3
      · exact h3 h2.2
    · by_cases ho : o = []
      · exact .inl ho
      · exact .inr fun h2 => h.1 ⟨ho, h2⟩
  · rw [if_neg h, if_neg]; · rfl
    rintro ⟨h1, h2, h3⟩
    refine h ⟨fun h4 => ?_, Ne.symm h2, ?_⟩
    · rcases h3 with h5 | h5
      · exact h4.1 h5
      · exact h5 h4.2
    · by_cases ho : o = []
      · exact .inl ho
      · exact .inr fun h4 => h1 ⟨ho, h4⟩

theorem map_flat (k : ByteArray) (o a b : List ByteArray) : ∀ n, (List.range n).flatMap (cellC k o b a) = ((List.range n).flatMap (cellC k o a b)).map swp
  | 0 => rfl
  | n + 1 => by
    rw [List.range_succ, List.flatMap_append, List.flatMap_append, List.map_append, map_flat k o a b n]
    simp only [List.flatMap_cons, List.flatMap_nil, List.append_nil]
    rw [cellC_swap k o a b n]

theorem cellV_swap {k : ByteArray} {o a b : List ByteArray} {i : Nat} (h : cellC k o a b i = []) : cellV o a b i = cellV o b a i := by
  unfold cellC at h
  unfold cellV
  by_cases h1 : o ≠ [] ∧ nth a i = nth o i
  · rw [if_pos h1]
    by_cases h2 : o ≠ [] ∧ nth b i = nth o i
    · rw [if_pos h2, h1.2, h2.2]
    · rw [if_neg h2]
  · rw [if_neg h1]
    by_cases h2 : o ≠ [] ∧ nth b i = nth o i
    · rw [if_pos h2]
    · rw [if_neg h2]
      split at h
      · cases h
      · rename_i hn
        apply Classical.byContradiction
        intro hne
        refine hn ⟨h1, hne, ?_⟩
        by_cases ho : o = []
        · exact .inl ho
        · exact .inr fun h3 => h2 ⟨ho, h3⟩

theorem mrgK_1 {o a b : List ByteArray} {k : ByteArray} (h : b = o ∨ b = a) : mrgK o a b k = (a, []) := by unfold mrgK; rw [if_pos h]
theorem mrgK_2 {o a b : List ByteArray} {k : ByteArray} (h : ¬ (b = o ∨ b = a)) (h2 : a = o) : mrgK o a b k = (b, []) := by unfold mrgK; rw [if_neg h, if_pos h2]
theorem mrgK_3 {o a b : List ByteArray} {k : ByteArray} (h : ¬ (b = o ∨ b = a)) (h2 : ¬ a = o) (h3 : a = [] ∨ b = []) : mrgK o a b k = (a, [⟨k, -1, a, b⟩]) := by unfold mrgK; rw [if_neg h, if_neg h2, if_pos h3]
theorem mrgK_4 {o a b : List ByteArray} {k : ByteArray} (h : ¬ (b = o ∨ b = a)) (h2 : ¬ a = o) (h3 : ¬ (a = [] ∨ b = [])) : mrgK o a b k = cellsM k o a b := by unfold mrgK; rw [if_neg h, if_neg h2, if_neg h3]

theorem mrgK_swap {n : Nat} {o a b : List ByteArray} (k : ByteArray) (ha : a = [] ∨ a.length = n) (hb : b = [] ∨ b.length = n) :
    (mrgK o b a k).2 = ((mrgK o a b k).2).map swp ∧ ((mrgK o a b k).2 = [] → (mrgK o b a k).1 = (mrgK o a b k).1) := by
  by_cases c1 : b = a
  · subst c1
    rw [mrgK_1 (.inr rfl)]; exact ⟨rfl, fun _ => rfl⟩
  by_cases c2 : b = o
  · rw [mrgK_1 (a := a) (b := b) (.inl c2), mrgK_2 (a := b) (b := a) (fun h => h.elim (fun h => c1 (c2.trans h.symm)) (fun h => c1 h.symm)) c2]
    exact ⟨rfl, fun _ => rfl⟩
  by_cases c3 : a = o
  · rw [mrgK_1 (a := b) (b := a) (.inl c3), mrgK_2 (a := a) (b := b) (fun h => h.elim c2 c1) c3]
    exact ⟨rfl, fun _ => rfl⟩
  have n1 : ¬ (b = o ∨ b = a) := fun h => h.elim c2 c1
  have n2 : ¬ (a = o ∨ a = b) := fun h => h.elim c3 (fun h => c1 h.symm)
  by_cases c4 : a = [] ∨ b = []
  · rw [mrgK_3 n1 c3 c4, mrgK_3 n2 c2 c4.symm]
    exact ⟨rfl, fun h => by cases h⟩
  rw [mrgK_4 n1 c3 c4, mrgK_4 n2 c2 (fun h => c4 h.symm)]
  have hla := ha.resolve_left (fun h => c4 (.inl h))
  have hlb := hb.resolve_left (fun h => c4 (.inr h))
  unfold cellsM
  simp only
  rw [hla, hlb]
  refine ⟨map_flat k o a b n, fun h => ?_⟩
  rw [List.flatMap_eq_nil_iff] at h
  refine List.map_congr_left fun i hi => ?_
  exact (cellV_swap (h i hi)).symm

theorem sides {base left right : Table} (h : Three base left right) (k : ByteArray) : badK base right left k = (badK base left right k).map swp ∧ (badK base left right k = [] → rowK base right left k = rowK base left right k) := by
  obtain ⟨h1, h2⟩ := mrgK_swap (o := cellsL base k) k (h.ca k) (h.cb k)
  exact ⟨h1, fun e => by unfold rowK; rw [h2 e]⟩

theorem ks3_swap (base left right : Table) : ks3 base right left = ks3 base left right := by
  unfold ks3
  refine ksort_congr fun z => ?_
  simp only [List.mem_append]
  constructor
  · rintro ((h | h) | h)
    · exact .inl (.inl h)
    · exact .inr h
    · exact .inl (.inr h)
  · rintro ((h | h) | h)
    · exact .inl (.inl h)
    · exact .inr h
    · exact .inl (.inr h)

theorem flat_map {f g : ByteArray → List CellChange} (h : ∀ k, g k = (f k).map swp) : ∀ l : List ByteArray, l.flatMap g = (l.flatMap f).map swp
  | [] => rfl
  | x :: l => by rw [List.flatMap_cons, List.flatMap_cons, List.map_append, h, flat_map h l]

theorem merge_symmetric (base left right : Table) : changeforgelaw2_TablepatchMergeSymmetric base left right = some true := by
  unfold changeforgelaw2_TablepatchMergeSymmetric
  rw [Merge_f, Option.bind_some, Merge_f, Option.bind_some]
  by_cases h1 : (mrgT base left right).2.2.Code = 0
  case neg => rw [decide_eq_false h1]; simp only [Bool.not_false, if_true, Option.bind_some, both_f]
  by_cases h2 : (mrgT base right left).2.2.Code = 0
  case neg => rw [decide_eq_true h1, decide_eq_false h2]; simp only [Bool.not_true, Bool.not_false, Bool.false_eq_true, if_false, if_true, Option.bind_some, both_f]
  rw [decide_eq_true h1, decide_eq_true h2]
  obtain ⟨h3, e1, hl1⟩ := mrgT_ok h1
  obtain ⟨h4, e2, hl2⟩ := mrgT_ok h2
  have hB : BSt base right left = (BSt base left right).map swp := by
    unfold BSt
    rw [ks3_swap]
    exact flat_map (fun k => (sides h3 k).1) _
  rw [e1, e2, hB]
  have hbl := BS_len h3
  simp only [Bool.not_true, Bool.false_eq_true, if_false, Option.bind_some, List.length_map, decide_true]
  rw [any_loopC (f := fun s => changeforgelaw2_TablepatchMergeSymmetric.l1 (⟨base.Columns, RSt base left right⟩, BSt base left right, ⟨0, 0⟩) (⟨base.Columns, RSt base right left⟩, (BSt base left right).map swp, ⟨0, 0⟩) s) (.inl false) (.inr ()) (BSt base left right) (fun _ => false) ?_ ?_, Option.bind_some]
  · have : ((BSt base left right).any fun _ => false) = false := by simp
    rw [this]
    simp only [Bool.false_eq_true, if_false]
    unfold changeforgelaw2_TablepatchMergeSymmetric.j1
    simp only
    by_cases h0 : BSt base left right = []
    · have hR : RSt base right left = RSt base left right := by
        unfold RSt
        rw [ks3_swap]
        unfold BSt at h0
        rw [List.flatMap_eq_nil_iff] at h0
        have : ∀ l : List ByteArray, (∀ k ∈ l, badK base left right k = []) → l.flatMap (rowK base right left) = l.flatMap (rowK base left right) := by
          intro l
          induction l with
          | nil => intro _; rfl
          | cons x l ih => intro h; rw [List.flatMap_cons, List.flatMap_cons, (sides h3 x).2 (h x (by simp)), ih (fun k hk => h k (by simp [hk]))]
        exact this _ h0
      rw [hR, tab_refl h3 hl1, both_f, h0]
      simp
    · have : 0 < (BSt base left right).length := List.length_pos_iff.2 h0
      rw [decide_eq_true (by omega), both_f]
      simp
  · intro k hk
    obtain ⟨b1, b2, b3⟩ := BS_ok h3 _ (List.getElem_mem hk)
    have hat : at? ((BSt base left right).map swp) (k : Int) = some (swp (BSt base left right)[k]) := by
      rw [at_nat (by simpa using hk), List.getElem_map]
    unfold changeforgelaw2_TablepatchMergeSymmetric.l1
    simp only
    rw [ite_dec, if_pos (by omega), at_nat hk, hat]
    simp only [Option.bind_some, swp, decide_true, Bool.not_true, Bool.false_eq_true, if_false]
    rw [strings_eq _ _ (by omega), Option.bind_some]
    simp only [decide_true, Bool.not_true, Option.bind_some, Bool.false_eq_true, if_false]
    rw [strings_eq _ _ (by omega), Option.bind_some]
    simp only [decide_true, Bool.not_true, Option.bind_some, Bool.false_eq_true, if_false]
    rw [ck_eq (by omega) (by omega), Option.bind_some]; rfl
  · unfold changeforgelaw2_TablepatchMergeSymmetric.l1
    simp only
    rw [ite_dec, if_neg (by omega)]

/-! one side unchanged -/
theorem rasc_uniq : ∀ {l m : List Row}, RAsc l → RAsc m → (∀ z, z ∈ l ↔ z ∈ m) → l = m
  | [], [], _, _, _ => rfl
  | [], y :: m, _, _, h => by have := (h y).2 (by simp); cases this
  | x :: l, [], _, _, h => by have := (h x).1 (by simp); cases this
  | x :: l, y :: m, hl, hm, h => by
    unfold RAsc at hl hm
    rw [List.pairwise_cons] at hl hm
    have e : x = y := by
      rcases List.mem_cons.1 ((h x).1 (by simp)) with e | hx
      · exact e
      · rcases List.mem_cons.1 ((h y).2 (by simp)) with e | hy
        · exact e.symm
        · have h1 := hm.1 x hx
          have h2 := hl.1 y hy
          rw [sLt_asymm h2] at h1; cases h1
    subst e
    rw [rasc_uniq (l := l) (m := m) hl.2 hm.2 (fun z => ?_)]
    constructor
    · intro hz
      rcases List.mem_cons.1 ((h z).1 (by simp [hz])) with rfl | h1
      · have := hl.1 z hz; rw [sLt_irr] at this; cases this
      · exact h1
    · intro hz
      rcases List.mem_cons.1 ((h z).2 (by simp [hz])) with rfl | h1
      · have := hm.1 z hz; rw [sLt_irr] at this; cases this
      · exact h1

theorem rows_eq {t : Table} (ht : VTab t) {ks : List ByteArray} (hk : SAsc ks) (hsub : ∀ r ∈ t.Rows, r.Key ∈ ks) : ks.flatMap (fun k => rowOf (cellsL t k) k) = t.Rows := by
  refine rasc_uniq ?_ ht.asc fun z => ?_
  · unfold RAsc
    rw [List.pairwise_flatMap]
    refine ⟨fun k _ => ?_, hk.imp (fun {x y} hxy p hp q hq => ?_)⟩
    · unfold rowOf; split <;> simp
    · unfold rowOf at hp hq
      split at hp
      · cases hp
      split at hq
      · cases hq
      rw [List.mem_singleton] at hp hq
      subst hp; subst hq
      exact hxy
  · rw [List.mem_flatMap]
    constructor
    · rintro ⟨k, _, hz⟩
      unfold rowOf at hz
      split at hz
      · cases hz
      · rename_i hne
        rw [List.mem_singleton] at hz
        subst hz
        exact ((cellsL_len ht k).resolve_left hne).2
    · intro hz
      refine ⟨z.Key, hsub z hz, ?_⟩
      have hne : cellsL t z.Key ≠ [] := (cellsL_ne ht).2 ⟨z, hz, rfl⟩
      unfold rowOf
      rw [if_neg hne, cellsL_mem ht.asc hz]
      simp

theorem flat_congr {α : Type} {f g : ByteArray → List α} (h : ∀ k, f k = g k) (l : List ByteArray) : l.flatMap f = l.flatMap g := by rw [show f = g from funext h]

theorem one_gen {base left right other : Table} (h : Three base left right) (ho : VTab other) (hin : ∀ r ∈ other.Rows, r.Key ∈ ks3 base left right)
    (hk : ∀ k, mrgK (cellsL base k) (cellsL left k) (cellsL right k) k = (cellsL other k, [])) : RSt base left right = other.Rows ∧ BSt base left right = [] := by
  constructor
  · unfold RSt
    rw [← rows_eq ho (ksort_asc _) hin]
    exact flat_congr (fun k => by unfold rowK; rw [hk]) _
  · unfold BSt
    rw [List.flatMap_eq_nil_iff]
    intro k _
    unfold badK; rw [hk]

theorem in_ks3 {base left right t : Table} (h : t = base ∨ t = left ∨ t = right) : ∀ r ∈ t.Rows, r.Key ∈ ks3 base left right := by
  intro r hr
  unfold ks3
  rw [ksort_mem, List.mem_append, List.mem_append]
  have : r.Key ∈ keysR t.Rows := List.mem_map.2 ⟨r, hr, rfl⟩
  rcases h with rfl | rfl | rfl
  · exact .inl (.inl this)
  · exact .inl (.inr this)
  · exact .inr this

theorem one_sided (base other : Table) : changeforgelaw2_TablepatchMergeOneSided base other = some true := by
  unfold changeforgelaw2_TablepatchMergeOneSided
  rw [Merge_f, Option.bind_some, Merge_f, Option.bind_some, Merge_f, Option.bind_some]
  by_cases h : VTab base ∧ VTab other ∧ base.Columns = other.Columns
  · obtain ⟨hb, ho, hc⟩ := h
    have p1 : ∀ ix, (pairF base base ix).Code = 0 := fun ix => pairF_ok.2 ⟨hb, hb, rfl⟩
    have p2 : ∀ ix, (pairF base other ix).Code = 0 := fun ix => pairF_ok.2 ⟨hb, ho, hc⟩
    have T1 : Three base base other := ⟨hb, hb, ho, rfl, hc⟩
    have T2 : Three base other base := ⟨hb, ho, hb, hc, rfl⟩
    have T3 : Three base other other := ⟨hb, ho, ho, hc, hc⟩
    have r1 := one_gen T1 ho (in_ks3 (.inr (.inr rfl))) (fun k => by
      unfold mrgK
      by_cases e : cellsL other k = cellsL base k
      · rw [if_pos (.inl e), e]
      · rw [if_neg (fun h => h.elim e e), if_pos rfl])
    have r2 := one_gen T2 ho (in_ks3 (.inr (.inl rfl))) (fun k => by unfold mrgK; rw [if_pos (.inl rfl)])
    have r3 := one_gen T3 ho (in_ks3 (.inr (.inl rfl))) (fun k => by unfold mrgK; rw [if_pos (.inr rfl)])
    have hl := ho.len
    have m1 := (mrgT_ok (mrgT_code.2 ⟨p1 _, p2 _, by rw [r1.1]; exact hl⟩)).2.1
    have m2 := (mrgT_ok (mrgT_code.2 ⟨p2 _, p1 _, by rw [r2.1]; exact hl⟩)).2.1
    have m3 := (mrgT_ok (mrgT_code.2 ⟨p2 _, p2 _, by rw [r3.1]; exact hl⟩)).2.1
    have et : (⟨base.Columns, other.Rows⟩ : Table) = other := by rw [hc]
    rw [m1, m2, m3, r1.1, r1.2, r2.1, r2.2, r3.1, r3.2, et]
    have hr : changeforgeequal_Table other other = some true := tbl_refl _ (by have := ho.cols.le; omega) (by omega) (fun r hr => by have := (ho.row r hr).len; have := ho.cols.le; omega)
    simp only [decide_true, Bool.not_true, Bool.false_eq_true, if_false, Option.bind_some, hr, if_true, List.length_nil, both_f]
    rw [ck_eq (by simp) (by simp), Option.bind_some, ck_eq (by simp) (by simp), Option.bind_some]
    simp
  · have n2 : ∀ ix, ¬ (pairF base other ix).Code = 0 := fun ix e => h (pairF_ok.1 e)
    have f1 : ¬ (mrgT base base other).2.2.Code = 0 := fun e => n2 _ (mrgT_code.1 e).2.1
    have f2 : ¬ (mrgT base other base).2.2.Code = 0 := fun e => n2 _ (mrgT_code.1 e).1
    have f3 : ¬ (mrgT base other other).2.2.Code = 0 := fun e => n2 _ (mrgT_code.1 e).1
    rw [decide_eq_false f1, decide_eq_false f2, decide_eq_false f3]
    simp only [Bool.not_false, if_true, Option.bind_some, both_f]
end Go.Dc
