/- Merging tables, on both sides. -/
import Derived.Test.YthknfnjdnclphaaDcLB
set_option linter.unusedSimpArgs false
set_option linter.unusedVariables false
namespace Go.Dc
open Go

def nth (x : List ByteArray) (i : Nat) : ByteArray := x.getD i ByteArray.empty
theorem nth_at {x : List ByteArray} {i : Nat} (h : i < x.length) : nth x i = x[i] := by
  unfold nth; rw [List.getD_eq_getElem?_getD, List.getElem?_eq_getElem h]; rfl

def cellV (o a b : List ByteArray) (i : Nat) : ByteArray := if o ≠ [] ∧ nth a i = nth o i then nth b i else nth a i
def cellC (k : ByteArray) (o a b : List ByteArray) (i : Nat) : List CellChange :=
  if ¬ (o ≠ [] ∧ nth a i = nth o i) ∧ nth a i ≠ nth b i ∧ (o = [] ∨ nth b i ≠ nth o i) then [⟨k, (i : Int), [nth a i], [nth b i]⟩] else []
def cellsM (k : ByteArray) (o a b : List ByteArray) : List ByteArray × List CellChange := ((List.range a.length).map (cellV o a b), (List.range a.length).flatMap (cellC k o a b))
def mrgK (o a b : List ByteArray) (k : ByteArray) : List ByteArray × List CellChange :=
  if b = o ∨ b = a then (a, []) else if a = o then (b, []) else if a = [] ∨ b = [] then (a, [⟨k, -1, a, b⟩]) else cellsM k o a b
def rowOf (c : List ByteArray) (k : ByteArray) : List Row := if c = [] then [] else [⟨k, c⟩]
def rowK (base left right : Table) (k : ByteArray) : List Row := rowOf (mrgK (cellsL base k) (cellsL left k) (cellsL right k) k).1 k
def badK (base left right : Table) (k : ByteArray) : List CellChange := (mrgK (cellsL base k) (cellsL left k) (cellsL right k) k).2
def ks3 (base left right : Table) : List ByteArray := ksort (keysR base.Rows ++ keysR left.Rows ++ keysR right.Rows)
def mrgT (base left right : Table) : Table × List CellChange × Fault :=
  if (pairF base left (-20)).Code ≠ 0 then (⟨[], []⟩, [], pairF base left (-20)) else if (pairF base right (-30)).Code ≠ 0 then (⟨[], []⟩, [], pairF base right (-30))
  else if ((ks3 base left right).flatMap (rowK base left right)).length > 30 then (⟨[], []⟩, [], ⟨10, -1⟩)
  else (⟨base.Columns, (ks3 base left right).flatMap (rowK base left right)⟩, (ks3 base left right).flatMap (badK base left right), ⟨0, 0⟩)

theorem clone_t (l : List ByteArray) (h : l.length ≤ 1000000) : slices_Clone l = some l := by
  unfold slices_Clone
  rw [app_eq (by simp; omega), Option.bind_some, List.nil_append]
  exact nilIf_same (fun e => by rw [e])

theorem cloneX_t (l : List ByteArray) (h : l.length ≤ 1000000) : slices_Clone_x l = some l := by
  unfold slices_Clone_x
  cases l with
  | nil => rfl
  | cons x r =>
    rw [if_neg (by simp), app_eq (by simp only [List.length_nil]; omega), Option.bind_some, List.nil_append, neE_some (by simp), Option.bind_some]

theorem change_t (k : ByteArray) (c : Int) (a b : List ByteArray) (ha : a.length ≤ 1000000) (hb : b.length ≤ 1000000) : tablepatch_change k c a b = some ⟨k, c, a, b⟩ := by
  unfold tablepatch_change
  rw [clone_t a ha, Option.bind_some, clone_t b hb, Option.bind_some]

theorem isE (o : List ByteArray) : o.isEmpty = decide (o = []) := by cases o <;> simp

theorem range_set (V : Nat → ByteArray) (a : List ByteArray) (i : Nat) (h : i < a.length) (y : ByteArray) : ((List.range i).map V ++ a.drop i).set i y = (List.range i).map V ++ y :: a.drop (i + 1) := by
  rw [List.drop_eq_getElem_cons h, List.set_append_right _ _ (by simp), List.length_map, List.length_range, Nat.sub_self, List.set_cons_zero]

theorem cells_t (k : ByteArray) (n : Nat) (o a b : List ByteArray) (h0 : 0 < n) (hn : n ≤ 1000) (ha : a.length = n) (hb : b.length = n) (ho : o = [] ∨ o.length = n) : tablepatch_cells k o a b = some (cellsM k o a b) := by
  unfold tablepatch_cells
  rw [clone_t a (by omega), Option.bind_some]
  obtain ⟨r, e, rfl⟩ := inv_loop (f := fun s => tablepatch_cells.l1 k o a b s.1 s.2.1 s.2.2) n
    (fun i t => t = ((List.range i).flatMap (cellC k o a b), (List.range i).map (cellV o a b) ++ a.drop i) ∧ t.1.length ≤ i)
    (fun r => r = ((List.range n).flatMap (cellC k o a b), (List.range n).map (cellV o a b))) (by
    rintro i t hi ⟨rfl, htl⟩
    simp only at htl
    have hia : i < a.length := by omega
    have hib : i < b.length := by omega
    unfold tablepatch_cells.l1
    simp only
    have e1 : (if (!o.isEmpty) = true then (at? a (i : Int)).bind fun y2 => (at? o (i : Int)).bind fun y3 => some (decide (y2 = y3)) else some false) = some (decide (o ≠ [] ∧ nth a i = nth o i)) := by
      rw [isE]
      rcases ho with rfl | ho
      · simp
      · have : o ≠ [] := by intro e; rw [e] at ho; simp at ho; omega
        rw [decide_eq_false this, if_pos (by rfl), at_nat hia, Option.bind_some, at_nat (by omega), Option.bind_some, nth_at hia, nth_at (by omega : i < o.length)]
        simp [this]
    have e2 : (if (!decide (a[i] = b[i])) = true then (if o.isEmpty = true then some true else (at? b (i : Int)).bind fun y9 => (at? o (i : Int)).bind fun y10 => some (!decide (y9 = y10))).bind fun x11 => some x11 else some false) = some (decide (nth a i ≠ nth b i ∧ (o = [] ∨ nth b i ≠ nth o i))) := by
      rw [nth_at hia, nth_at hib, isE]
      by_cases h1 : a[i] = b[i]
      · simp [h1]
      · rcases ho with rfl | ho
        · simp [h1]
        · have : o ≠ [] := by intro e; rw [e] at ho; simp at ho; omega
          rw [if_pos (by simpa using h1), decide_eq_false this, if_neg Bool.false_ne_true, at_nat hib, Option.bind_some, at_nat (by omega), Option.bind_some, Option.bind_some, nth_at (by omega : i < o.length)]
          simp [h1, this]
    have hV : (List.range (i + 1)).map (cellV o a b) = (List.range i).map (cellV o a b) ++ [cellV o a b i] := by rw [List.range_succ, List.map_append]; rfl
    have hC : (List.range (i + 1)).flatMap (cellC k o a b) = (List.range i).flatMap (cellC k o a b) ++ cellC k o a b i := by rw [List.range_succ, List.flatMap_append]; simp
    have hCl : (cellC k o a b i).length ≤ 1 := by unfold cellC; split <;> simp
    have hck : ∀ (c : List CellChange) (v : List ByteArray), c = (List.range (i + 1)).flatMap (cellC k o a b) → v = (List.range (i + 1)).map (cellV o a b) ++ a.drop (i + 1) →
        (∃ s', tablepatch_cells.j2 (i : Int) c v = some (.next (((i + 1 : Nat) : Int), s')) ∧ s' = ((List.range (i + 1)).flatMap (cellC k o a b), (List.range (i + 1)).map (cellV o a b) ++ a.drop (i + 1)) ∧ s'.1.length ≤ i + 1) := by
      intro c v h1 h2
      unfold tablepatch_cells.j2
      rw [ck_eq (by omega) (by omega), Option.bind_some]
      refine ⟨(c, v), rfl, by rw [h1, h2], ?_⟩
      simp only
      rw [h1, hC, List.length_append]; omega
    rw [ite_dec, if_pos (by omega), e1, Option.bind_some, ite_dec]
    by_cases hx : o ≠ [] ∧ nth a i = nth o i
    · rw [if_pos hx, at_nat hib, Option.bind_some, at_nat (by simp; omega), Option.bind_some, Option.bind_some, Int.toNat_natCast, range_set _ _ _ hia]
      refine hck _ _ ?_ ?_
      · rw [hC]; unfold cellC; rw [if_neg (fun h => h.1 hx), List.append_nil]
      · rw [hV]; unfold cellV; rw [if_pos hx, nth_at hib]; simp
    · rw [if_neg hx, at_nat hia, Option.bind_some, at_nat hib, Option.bind_some]
      have hv : (List.range i).map (cellV o a b) ++ a.drop i = (List.range (i + 1)).map (cellV o a b) ++ a.drop (i + 1) := by
        rw [hV, List.drop_eq_getElem_cons hia]
        unfold cellV; rw [if_neg hx, nth_at hia]; simp
      rw [at_nat hib] at e2
      rw [e2, Option.bind_some, ite_dec]
      by_cases hy : nth a i ≠ nth b i ∧ (o = [] ∨ nth b i ≠ nth o i)
      · rw [if_pos hy, ck_eq (by omega) (by omega), Option.bind_some, cut_eq (by omega) (by omega) (by omega), Option.bind_some, Option.bind_some, cut_eq (by omega) (by omega) (by omega), Option.bind_some]
        have hcut : ∀ (z : List ByteArray) (h : i < z.length), (z.take ((i : Int) + 1).toNat).drop (i : Int).toNat = [nth z i] := by
          intro z h
          rw [Int.toNat_natCast, show ((i : Int) + 1).toNat = i + 1 by omega, List.take_succ_eq_append_getElem h, List.drop_left' (by rw [List.length_take]; omega), nth_at h]
        rw [hcut a hia, hcut b hib, change_t _ _ _ _ (by simp) (by simp), Option.bind_some, app_eq (by simp only [List.length_singleton]; omega), Option.bind_some]
        refine hck _ _ ?_ hv
        rw [hC]
        have : cellC k o a b i = [⟨k, (i : Int), [nth a i], [nth b i]⟩] := by unfold cellC; rw [if_pos ⟨hx, hy⟩]
        rw [this]
      · rw [if_neg hy]
        refine hck _ _ ?_ hv
        rw [hC]
        have : cellC k o a b i = [] := by unfold cellC; rw [if_neg (fun h => hy h.2)]
        rw [this, List.append_nil]) (by
    rintro t ⟨rfl, _⟩
    unfold tablepatch_cells.l1
    simp only
    rw [ite_dec, if_neg (by omega)]
    refine ⟨_, rfl, ?_⟩
    rw [List.drop_of_length_le (by omega), List.append_nil]) ([], a) ⟨by simp, Nat.le_refl _⟩
  rw [e, Option.bind_some]
  unfold tablepatch_cells.j1 cellsM
  rw [ha, neE_some (by intro h; have := congrArg List.length h; simp at this; omega), Option.bind_some]

theorem cellC_len (k : ByteArray) (o a b : List ByteArray) : ∀ n, ((List.range n).flatMap (cellC k o a b)).length ≤ n
  | 0 => Nat.le_refl _
  | n + 1 => by
    have := cellC_len k o a b n
    rw [List.range_succ, List.flatMap_append, List.length_append]
    have h : (([n] : List Nat).flatMap (cellC k o a b)).length ≤ 1 := by
      simp only [List.flatMap_cons, List.flatMap_nil, List.append_nil]
      unfold cellC; split <;> simp
    omega

theorem mrgK_len {o a b : List ByteArray} {k : ByteArray} (ha : a.length ≤ 8) : (mrgK o a b k).2.length ≤ 8 := by
  unfold mrgK
  split
  · simp
  · split
    · simp
    · split
      · simp
      · unfold cellsM
        have := cellC_len k o a b a.length
        simp only; omega

structure Three (base left right : Table) : Prop where
  b : VTab base
  l : VTab left
  r : VTab right
  cl : base.Columns = left.Columns
  cr : base.Columns = right.Columns

section
variable {base left right : Table} (h : Three base left right) include h

theorem Three.n : 0 < base.Columns.length ∧ base.Columns.length ≤ 8 := by
  have := h.b.cols.ne
  have := h.b.cols.le
  omega
theorem Three.co (k : ByteArray) : cellsL base k = [] ∨ (cellsL base k).length = base.Columns.length := (cellsL_len h.b k).imp id (·.1)
theorem Three.ca (k : ByteArray) : cellsL left k = [] ∨ (cellsL left k).length = base.Columns.length := by
  rw [h.cl]; exact (cellsL_len h.l k).imp id (·.1)
theorem Three.cb (k : ByteArray) : cellsL right k = [] ∨ (cellsL right k).length = base.Columns.length := by
  rw [h.cr]; exact (cellsL_len h.r k).imp id (·.1)
theorem Three.le8 (k : ByteArray) : (cellsL base k).length ≤ 8 ∧ (cellsL left k).length ≤ 8 ∧ (cellsL right k).length ≤ 8 := by
  have hn := h.n.2
  refine ⟨?_, ?_, ?_⟩
  · rcases h.co k with e | e
    · rw [e]; simp
    · omega
  · rcases h.ca k with e | e
    · rw [e]; simp
    · omega
  · rcases h.cb k with e | e
    · rw [e]; simp
    · omega

theorem step_t {ks : List ByteArray} {j : Nat} (hj : j < ks.length) (hks : ks.length ≤ 1000) {bad : List CellChange} {rows : List Row} (hb : bad.length ≤ 100000) (hr : rows.length ≤ 100000) :
    tablepatch_Merge.l1 base left right ks (j : Int) bad rows = some (.next (((j + 1 : Nat) : Int), (bad ++ badK base left right ks[j], rows ++ rowK base left right ks[j]))) := by
  obtain ⟨l1, l2, l3⟩ := h.le8 ks[j]
  have hm := mrgK_len (o := cellsL base ks[j]) (b := cellsL right ks[j]) (k := ks[j]) l2
  unfold tablepatch_Merge.l1
  rw [ite_dec, if_pos (by omega), at_nat hj, Option.bind_some, get_f h.b, Option.bind_some, get_f h.l, Option.bind_some, get_f h.r, Option.bind_some]
  have hj3 : ∀ (c : List ByteArray) (m : List CellChange), tablepatch_Merge.j3 (j : Int) rows ks[j] c m = some (.next (((j + 1 : Nat) : Int), (m, rows ++ rowOf c ks[j]))) := by
    intro c m
    unfold tablepatch_Merge.j3 tablepatch_Merge.j2 rowOf
    rw [isE, ite_ndec]
    by_cases hc : c = []
    · rw [if_pos hc, if_pos hc, ck_eq (by omega) (by omega), Option.bind_some, List.append_nil]; rfl
    · rw [if_neg hc, if_neg hc, app_eq (by simp only [List.length_singleton]; omega), Option.bind_some, ck_eq (by omega) (by omega), Option.bind_some]; rfl
  rw [cloneX_t _ (by omega), Option.bind_some, sEq_f _ _ (by omega), Option.bind_some, sEq_f _ _ (by omega)]
  unfold badK rowK mrgK
  have e1 : (if decide (cellsL right ks[j] = cellsL base ks[j]) = true then some true else (some (decide (cellsL right ks[j] = cellsL left ks[j]))).bind fun y12 => some y12) = some (decide (cellsL right ks[j] = cellsL base ks[j] ∨ cellsL right ks[j] = cellsL left ks[j])) := by
    by_cases h1 : cellsL right ks[j] = cellsL base ks[j]
    · simp [h1]
    · simp [h1]
  rw [e1, Option.bind_some, ite_dec]
  by_cases c1 : cellsL right ks[j] = cellsL base ks[j] ∨ cellsL right ks[j] = cellsL left ks[j]
  · rw [if_pos c1, if_pos c1, hj3, List.append_nil]
  rw [if_neg c1, if_neg c1, sEq_f _ _ (by omega), Option.bind_some, ite_dec]
  by_cases c2 : cellsL left ks[j] = cellsL base ks[j]
  · rw [if_pos c2, if_pos c2, cloneX_t _ (by omega), Option.bind_some, hj3, List.append_nil]
  rw [if_neg c2, if_neg c2, isE, isE]
  have e2 : (if decide (cellsL left ks[j] = []) = true then some true else some (decide (cellsL right ks[j] = []))) = some (decide (cellsL left ks[j] = [] ∨ cellsL right ks[j] = [])) := by
    by_cases h1 : cellsL left ks[j] = []
    · simp [h1]
    · simp [h1]
  rw [e2, Option.bind_some, ite_dec]
  by_cases c3 : cellsL left ks[j] = [] ∨ cellsL right ks[j] = []
  · rw [if_pos c3, if_pos c3, change_t _ _ _ _ (by omega) (by omega), Option.bind_some, app_eq (by simp only [List.length_singleton]; omega), Option.bind_some, hj3]
  rw [if_neg c3, if_neg c3]
  have ha := (h.ca ks[j]).resolve_left (fun e => c3 (.inl e))
  have hb' := (h.cb ks[j]).resolve_left (fun e => c3 (.inr e))
  rw [cells_t ks[j] base.Columns.length _ _ _ h.n.1 (by have := h.n.2; omega) ha hb' (h.co ks[j]), Option.bind_some]
  have hm2 : (cellsM ks[j] (cellsL base ks[j]) (cellsL left ks[j]) (cellsL right ks[j])).2.length ≤ 8 := by
    unfold cellsM
    have := cellC_len ks[j] (cellsL base ks[j]) (cellsL left ks[j]) (cellsL right ks[j]) (cellsL left ks[j]).length
    simp only; omega
  rw [app_eq (by omega), Option.bind_some, hj3]
end

theorem three_of {base left right : Table} (h1 : (pairF base left (-20)).Code = 0) (h2 : (pairF base right (-30)).Code = 0) : Three base left right := by
  obtain ⟨a, b, c⟩ := pairF_ok.1 h1
  obtain ⟨_, d, e⟩ := pairF_ok.1 h2
  exact ⟨a, b, d, c, e⟩

theorem flat_len {α : Type} (f : ByteArray → List α) (m : Nat) (hf : ∀ k, (f k).length ≤ m) : ∀ l : List ByteArray, (l.flatMap f).length ≤ m * l.length
  | [] => by simp
  | x :: r => by
    have := flat_len f m hf r
    have := hf x
    rw [List.flatMap_cons, List.length_append, List.length_cons, Nat.mul_add]; omega

theorem rowOf_len (c : List ByteArray) (k : ByteArray) : (rowOf c k).length ≤ 1 := by unfold rowOf; split <;> simp

theorem ks3_len {base left right : Table} (h : Three base left right) : (ks3 base left right).length ≤ 90 := by
  refine Nat.le_trans (ksort_len _) ?_
  have := h.b.len; have := h.l.len; have := h.r.len
  simp [keysR]; omega

theorem Merge_f (base left right : Table) : tablepatch_Merge base left right = some (mrgT base left right) := by
  unfold tablepatch_Merge mrgT
  rw [pair_f, Option.bind_some, tf_cond _ (pairF_code _ _ _), ite_dec]
  by_cases h1 : (pairF base left (-20)).Code ≠ 0
  · rw [if_pos h1, if_pos h1]
  rw [if_neg h1, if_neg h1, pair_f, Option.bind_some, tf_cond _ (pairF_code _ _ _), ite_dec]
  by_cases h2 : (pairF base right (-30)).Code ≠ 0
  · rw [if_pos h2, if_pos h2]
  rw [if_neg h2, if_neg h2]
  have h := three_of (Classical.not_not.1 h1) (Classical.not_not.1 h2)
  have hk : ([base, left, right] : List Table).flatMap (fun t => keysR t.Rows) = keysR base.Rows ++ keysR left.Rows ++ keysR right.Rows := by simp
  rw [clone_t _ (by have := h.b.cols.le; omega), Option.bind_some, keys_f _ (by simp) (fun t ht => by
    simp only [List.mem_cons, List.not_mem_nil, or_false] at ht
    rcases ht with rfl | rfl | rfl
    · exact h.b.len
    · exact h.l.len
    · exact h.r.len), Option.bind_some, hk]
  show (iter (fun s => tablepatch_Merge.l1 base left right (ks3 base left right) s.1 s.2.1 s.2.2) (0, [], [])).bind _ = _
  have hkl := ks3_len h
  generalize ks3 base left right = ks at hkl ⊢
  have hbl := flat_len (badK base left right) 8 (fun k => mrgK_len (h.le8 k).2.1)
  have hrl := flat_len (rowK base left right) 1 (fun k => rowOf_len _ _)
  obtain ⟨r, e, rfl⟩ := inv_loop (f := fun s => tablepatch_Merge.l1 base left right ks s.1 s.2.1 s.2.2) ks.length (fun j t => t = ((ks.take j).flatMap (badK base left right), (ks.take j).flatMap (rowK base left right))) (fun t => t = (ks.flatMap (badK base left right), ks.flatMap (rowK base left right))) (by
    rintro j t hj rfl
    have b1 := hbl (ks.take j)
    have b2 := hrl (ks.take j)
    rw [List.length_take] at b1 b2
    refine ⟨_, step_t h hj (by omega) (by simp only; omega) (by simp only; omega), ?_⟩
    rw [List.take_succ_eq_append_getElem hj, List.flatMap_append, List.flatMap_append]
    simp) (by
    rintro t rfl
    unfold tablepatch_Merge.l1
    simp only
    rw [ite_dec, if_neg (by omega), List.take_length]
    exact ⟨_, rfl, rfl⟩) ([], []) rfl
  rw [e, Option.bind_some]
  unfold tablepatch_Merge.j1
  simp only
  rw [ite_dec]
  by_cases h3 : (ks.flatMap (rowK base left right)).length > 30
  · rw [if_pos (by omega), if_pos h3]
  · rw [if_neg (by omega), if_neg h3]

/-! the document's Merge -/
theorem rl2_t {y3 : List ByteArray} {j : Nat} (hj : j < y3.length) (n : Nat) (o p q : List ByteArray) (hn : n ≤ 1000) (hp : p.length = n) (hq : q.length = n) (ho : o = [] ∨ o.length = n) {bad : List CellChange} (hb : bad.length ≤ 100000) :
    iter (fun s => changeforgeref2_MergeTables.l2 y3 (j : Int) o q p s.1 s.2.1 s.2.2) (0, [], bad) = some ((List.range n).map (cellV o p q), bad ++ (List.range n).flatMap (cellC y3[j] o p q)) := by
  obtain ⟨r, e, rfl⟩ := inv_loop (f := fun s => changeforgeref2_MergeTables.l2 y3 (j : Int) o q p s.1 s.2.1 s.2.2) n
    (fun i t => t = ((List.range i).map (cellV o p q), bad ++ (List.range i).flatMap (cellC y3[j] o p q)))
    (fun r => r = ((List.range n).map (cellV o p q), bad ++ (List.range n).flatMap (cellC y3[j] o p q))) (by
    rintro i t hi rfl
    have hip : i < p.length := by omega
    have hiq : i < q.length := by omega
    have hbl := cellC_len y3[j] o p q i
    have hV : (List.range (i + 1)).map (cellV o p q) = (List.range i).map (cellV o p q) ++ [cellV o p q i] := by rw [List.range_succ, List.map_append]; rfl
    have hC : (List.range (i + 1)).flatMap (cellC y3[j] o p q) = (List.range i).flatMap (cellC y3[j] o p q) ++ cellC y3[j] o p q i := by rw [List.range_succ, List.flatMap_append]; simp
    have hcmp : ∀ x : List ByteArray, (hx : i < x.length) → (if (!(decide ((o.length : Int) = 0))) = true then (at? x (i : Int)).bind fun y => (at? o (i : Int)).bind fun z => some (decide (y = z)) else some false) = some (decide (o ≠ [] ∧ nth x i = nth o i)) := by
      intro x hx
      rcases ho with rfl | ho
      · simp
      · have : o ≠ [] := by intro e; rw [e] at ho; simp at ho; omega
        rw [decide_eq_false (by omega : ¬ (o.length : Int) = 0), if_pos (by rfl), at_nat hx, Option.bind_some, at_nat (by omega), Option.bind_some, nth_at hx, nth_at (by omega : i < o.length)]
        simp [this]
    have fin : ∀ (v : ByteArray) (c : List CellChange), v = cellV o p q i → c = bad ++ (List.range i).flatMap (cellC y3[j] o p q) ++ cellC y3[j] o p q i →
        (∃ s', changeforgeref2_MergeTables.j6 (i : Int) ((List.range i).map (cellV o p q) ++ [v]) c = some (.next (((i + 1 : Nat) : Int), s')) ∧ s' = ((List.range (i + 1)).map (cellV o p q), bad ++ (List.range (i + 1)).flatMap (cellC y3[j] o p q))) := by
      intro v c h1 h2
      unfold changeforgeref2_MergeTables.j6
      rw [ck_eq (by omega) (by omega), Option.bind_some]
      refine ⟨_, rfl, ?_⟩
      rw [hV, hC, h1, h2, List.append_assoc]
    unfold changeforgeref2_MergeTables.l2
    simp only
    have hrl : ((List.range i).map (cellV o p q)).length = i := by simp
    rw [ite_dec, if_pos (by omega), at_nat hip, Option.bind_some, at_nat hiq, Option.bind_some]
    have hcq := hcmp q hiq
    have hcp := hcmp p hip
    rw [at_nat hiq] at hcq
    rw [at_nat hip] at hcp
    rw [hcq, hcp]
    have e1 : (if decide (p[i] = q[i]) = true then some true else (some (decide (o ≠ [] ∧ nth q i = nth o i))).bind fun x23 => some x23) = some (decide (nth p i = nth q i ∨ (o ≠ [] ∧ nth q i = nth o i))) := by
      rw [nth_at hip, nth_at hiq]
      by_cases h1 : p[i] = q[i]
      · simp [h1]
      · simp only [h1, decide_false, Bool.false_eq_true, if_false, Option.bind_some, false_or]
    have happ : ∀ x : ByteArray, app? 16 ((List.range i).map (cellV o p q)) [x] = some ((List.range i).map (cellV o p q) ++ [x]) := fun x => app_eq (by rw [hrl, List.length_singleton]; omega)
    rw [e1, Option.bind_some, ite_dec]
    simp only [happ, Option.bind_some]
    by_cases c1 : nth p i = nth q i ∨ (o ≠ [] ∧ nth q i = nth o i)
    · rw [if_pos c1]
      refine fin _ _ ?_ ?_
      · unfold cellV
        rw [← nth_at hip]
        split
        · rename_i h2
          rcases c1 with h3 | h3
          · exact h3
          · rw [h2.2, h3.2]
        · rfl
      · have : cellC y3[j] o p q i = [] := by
          unfold cellC
          rw [if_neg]
          rintro ⟨_, h3, h4⟩
          rcases c1 with h5 | h5
          · exact h3 h5
          · rcases h4 with h4 | h4
            · exact h5.1 h4
            · exact h4 h5.2
        rw [this, List.append_nil]
    rw [if_neg c1, ite_dec]
    by_cases c2 : o ≠ [] ∧ nth p i = nth o i
    · rw [if_pos c2]
      refine fin _ _ ?_ ?_
      · unfold cellV; rw [if_pos c2, nth_at hiq]
      · have : cellC y3[j] o p q i = [] := by unfold cellC; rw [if_neg (fun h => h.1 c2)]
        rw [this, List.append_nil]
    · rw [if_neg c2]
      have hcut : ∀ (z : List ByteArray) (h : i < z.length), (z.take ((i : Int) + 1).toNat).drop (i : Int).toNat = [nth z i] := by
        intro z h
        rw [Int.toNat_natCast, show ((i : Int) + 1).toNat = i + 1 by omega, List.take_succ_eq_append_getElem h, List.drop_left' (by rw [List.length_take]; omega), nth_at h]
      rw [at_nat hj, Option.bind_some, ck_eq (by omega) (by omega), Option.bind_some, cut_eq (by omega) (by omega) (by omega), Option.bind_some, Option.bind_some, cut_eq (by omega) (by omega) (by omega), Option.bind_some, hcut p hip, hcut q hiq, app_eq (by simp only [List.length_append, List.length_singleton]; omega), Option.bind_some]
      refine fin _ _ ?_ ?_
      · unfold cellV; rw [if_neg c2, nth_at hip]
      · have : cellC y3[j] o p q i = [⟨y3[j], (i : Int), [nth p i], [nth q i]⟩] := by
          unfold cellC
          rw [if_pos]
          refine ⟨c2, fun h => c1 (.inl h), ?_⟩
          by_cases ho' : o = []
          · exact .inl ho'
          · exact .inr fun h => c1 (.inr ⟨ho', h⟩)
        rw [this]) (by
    rintro t rfl
    unfold changeforgeref2_MergeTables.l2
    simp only
    rw [ite_dec, if_neg (by omega)]
    exact ⟨_, rfl, rfl⟩) ([], bad) (by simp)
  exact e

theorem cellV_self (o p : List ByteArray) : (List.range p.length).map (cellV o p p) = p := by
  refine List.ext_getElem (by simp) fun i h1 h2 => ?_
  rw [List.getElem_map, List.getElem_range]
  unfold cellV
  rw [nth_at h2]; simp
theorem cellC_self (k : ByteArray) (o p : List ByteArray) (n : Nat) : (List.range n).flatMap (cellC k o p p) = [] := by
  rw [List.flatMap_eq_nil_iff]
  intro i _
  unfold cellC
  rw [if_neg (fun h => h.2.1 rfl)]

theorem rstep_t {base left right : Table} (h : Three base left right) {ks : List ByteArray} {j : Nat} (hj : j < ks.length) (hks : ks.length ≤ 1000) {bad : List CellChange} {rows : List Row} (hb : bad.length ≤ 90000) (hr : rows.length ≤ 100000) :
    changeforgeref2_MergeTables.l1 base left right ks (j : Int) bad rows = some (.next (((j + 1 : Nat) : Int), (bad ++ badK base left right ks[j], rows ++ rowK base left right ks[j]))) := by
  obtain ⟨l1, l2, l3⟩ := h.le8 ks[j]
  have hn := h.n
  unfold changeforgeref2_MergeTables.l1
  rw [ite_dec, if_pos (by omega), at_nat hj]
  simp only [Option.bind_some]
  rw [cellsOf_f h.b, Option.bind_some, cellsOf_f h.l, Option.bind_some, cellsOf_f h.r, Option.bind_some, rEq_f _ _ (by omega), Option.bind_some, rEq_f _ _ (by omega), Option.bind_some, rEq_f _ _ (by omega)]
  unfold badK rowK
  have ho := h.co ks[j]
  have ha := h.ca ks[j]
  have hb' := h.cb ks[j]
  generalize cellsL base ks[j] = o at *
  generalize cellsL left ks[j] = a at *
  generalize cellsL right ks[j] = b at *
  have j2f : ∀ (m : List CellChange) (q : List Row), changeforgeref2_MergeTables.j2 (j : Int) m q = some (.next (((j + 1 : Nat) : Int), (m, q))) := by
    intro m q
    unfold changeforgeref2_MergeTables.j2
    rw [ck_eq (by omega) (by omega), Option.bind_some]; rfl
  have j5f : ∀ (c : List ByteArray) (m : List CellChange), changeforgeref2_MergeTables.j5 ks (j : Int) rows c m = some (.next (((j + 1 : Nat) : Int), (m, rows ++ [⟨ks[j], c⟩]))) := by
    intro c m
    unfold changeforgeref2_MergeTables.j5
    rw [at_nat hj, Option.bind_some, app_eq (by simp only [List.length_singleton]; omega), Option.bind_some, j2f]
  -- both sides nonempty
  have j3f : ∀ (p q : List ByteArray), p.length = base.Columns.length → q.length = base.Columns.length → changeforgeref2_MergeTables.j3 ks (j : Int) bad rows o q p = some (.next (((j + 1 : Nat) : Int), (bad ++ (cellsM ks[j] o p q).2, rows ++ [⟨ks[j], (cellsM ks[j] o p q).1⟩]))) := by
    intro p q hp hq
    unfold changeforgeref2_MergeTables.j3
    rw [decide_eq_false (by omega : ¬ (p.length : Int) = 0), decide_eq_false (by omega : ¬ (q.length : Int) = 0)]
    simp only [Bool.false_eq_true, if_false, Option.bind_some]
    rw [rl2_t hj base.Columns.length o p q (by omega) hp hq ho (by omega), Option.bind_some, j5f]
    unfold cellsM
    rw [hp]
  have j3e : ∀ (p : List ByteArray), (p = [] ∨ p.length = base.Columns.length) → changeforgeref2_MergeTables.j3 ks (j : Int) bad rows o p p = some (.next (((j + 1 : Nat) : Int), (bad, rows ++ rowOf p ks[j]))) := by
    intro p hp
    rcases hp with rfl | hp
    · unfold changeforgeref2_MergeTables.j3 rowOf
      simp only [List.length_nil]
      rw [j2f]
      simp
    · rw [j3f p p hp hp]
      unfold cellsM rowOf
      simp only
      rw [cellV_self, cellC_self, if_neg (by intro e; rw [e] at hp; simp at hp; omega), List.append_nil]
  have e1 : (if decide (b = o) = true then some true else some (decide (a = b))) = some (decide (b = o ∨ b = a)) := by
    by_cases h1 : b = o
    · simp [h1]
    · simp [h1, eq_comm]
  rw [e1, Option.bind_some, ite_dec]
  unfold mrgK
  by_cases c1 : b = o ∨ b = a
  · rw [if_pos c1, if_pos c1, j3e a ha, List.append_nil]
  rw [if_neg c1, if_neg c1, Option.bind_some, ite_dec]
  by_cases c2 : a = o
  · rw [if_pos c2, if_pos c2, j3e b hb', List.append_nil]
  rw [if_neg c2, if_neg c2]
  by_cases c3 : a = [] ∨ b = []
  · rw [if_pos c3]
    unfold changeforgeref2_MergeTables.j3
    have hne : ¬ (a = [] ∧ b = []) := fun hh => c1 (.inr (by rw [hh.1, hh.2]))
    have lz : ∀ x : List ByteArray, decide ((x.length : Int) = 0) = decide (x = []) := by intro x; cases x <;> simp <;> omega
    rw [lz, lz]
    have e2 : (if decide (a = []) = true then some (decide (b = [])) else some false) = some false := by
      by_cases h1 : a = []
      · have : ¬ b = [] := fun h2 => hne ⟨h1, h2⟩
        simp [h1, this]
      · simp [h1]
    have e3 : (if decide (a = []) = true then some true else some (decide (b = []))) = some true := by
      by_cases h1 : a = []
      · simp [h1]
      · have := c3.resolve_left h1
        simp [h1, this]
    rw [e2, Option.bind_some, if_neg Bool.false_ne_true, e3, Option.bind_some, if_pos rfl, at_nat hj, Option.bind_some, app_eq (by simp only [List.length_singleton]; omega), Option.bind_some, ite_dec]
    unfold changeforgeref2_MergeTables.j4 rowOf
    by_cases h1 : a = []
    · subst h1
      rw [if_neg (by simp), if_pos rfl, j2f, List.append_nil]
    · have : 0 < a.length := List.length_pos_iff.2 h1
      rw [if_pos (by omega), if_neg h1]
      simp only [Option.bind_some]
      rw [app_eq (by simp only [List.length_singleton]; omega), Option.bind_some, j2f]
  · rw [if_neg c3, j3f a b (ha.resolve_left fun e => c3 (.inl e)) (hb'.resolve_left fun e => c3 (.inr e))]
    have hal := ha.resolve_left fun e => c3 (.inl e)
    unfold rowOf
    rw [if_neg]
    unfold cellsM
    intro e
    have := congrArg List.length e
    rw [List.length_map, List.length_range, List.length_nil] at this
    omega

def memB (m : List ByteArray) (z : ByteArray) : Bool := m.any fun y => decide (y = z)
theorem memB_iff {m : List ByteArray} {z : ByteArray} : memB m z = true ↔ z ∈ m := by
  unfold memB
  rw [List.any_eq_true]
  constructor
  · rintro ⟨y, hy, he⟩; rw [← of_decide_eq_true he]; exact hy
  · intro h; exact ⟨z, h, decide_eq_true rfl⟩

theorem flat_sub {α : Type} {f : ByteArray → List α} {l m : List ByteArray} (hl : SAsc l) (hm : SAsc m) (hsub : ∀ z ∈ m, z ∈ l) (hf : ∀ z ∈ l, z ∉ m → f z = []) : l.flatMap f = m.flatMap f := by
  have e : l.filter (fun z => memB m z) = m := by
    refine sasc_uniq (hl.sublist List.filter_sublist) hm fun z => ?_
    rw [List.mem_filter]
    constructor
    · rintro ⟨_, h⟩; exact memB_iff.1 h
    · intro h; exact ⟨hsub z h, memB_iff.2 h⟩
  have g : ∀ q : List ByteArray, (∀ z ∈ q, z ∉ m → f z = []) → q.flatMap f = (q.filter fun z => memB m z).flatMap f := by
    intro q
    induction q with
    | nil => intro _; rfl
    | cons x q ih =>
      intro h
      have h1 := ih (fun z hz => h z (by simp [hz]))
      rw [List.flatMap_cons, List.filter_cons]
      by_cases hx : x ∈ m
      · rw [if_pos (memB_iff.2 hx), List.flatMap_cons, h1]
      · rw [if_neg (fun h => hx (memB_iff.1 h)), h x (by simp) hx, List.nil_append, h1]
  rw [g l hf, e]

theorem none_K {base left right : Table} {k : ByteArray} (h : k ∉ keysR left.Rows ++ keysR right.Rows) : rowK base left right k = [] ∧ badK base left right k = [] := by
  have hl : cellsL left k = [] := cellsL_none fun r hr e => h (List.mem_append.2 (.inl (List.mem_map.2 ⟨r, hr, e⟩)))
  have hr : cellsL right k = [] := cellsL_none fun r hr e => h (List.mem_append.2 (.inr (List.mem_map.2 ⟨r, hr, e⟩)))
  unfold rowK badK mrgK
  rw [hl, hr, if_pos (.inr rfl)]
  exact ⟨rfl, rfl⟩

theorem MergeTables_f (base left right : Table) : changeforgeref2_MergeTables base left right = some (mrgT base left right) := by
  unfold changeforgeref2_MergeTables mrgT
  rw [TwoTables_f, Option.bind_some, ite_ndec]
  by_cases h1 : (pairF base left (-20)).Code = 0
  case neg => rw [if_neg h1, if_pos h1]
  rw [if_pos h1, ite_nn h1, TwoTables_f, Option.bind_some, ite_ndec]
  by_cases h2 : (pairF base right (-30)).Code = 0
  case neg => rw [if_neg h2, if_pos h2]
  rw [if_pos h2, ite_nn h2]
  have h := three_of h1 h2
  have hll := h.l.len
  have hrr := h.r.len
  rw [Keys_f h.l.asc h.r.asc (by omega) (by omega), Option.bind_some]
  have hsub : ∀ z ∈ ksort (keysR left.Rows ++ keysR right.Rows), z ∈ ks3 base left right := by
    intro z hz
    rw [ksort_mem] at hz
    unfold ks3
    rw [ksort_mem, List.append_assoc]
    exact List.mem_append.2 (.inr hz)
  have fr : (ks3 base left right).flatMap (rowK base left right) = (ksort (keysR left.Rows ++ keysR right.Rows)).flatMap (rowK base left right) :=
    flat_sub (ksort_asc _) (ksort_asc _) hsub fun z _ hz => (none_K (by rw [ksort_mem] at hz; exact hz)).1
  have fb : (ks3 base left right).flatMap (badK base left right) = (ksort (keysR left.Rows ++ keysR right.Rows)).flatMap (badK base left right) :=
    flat_sub (ksort_asc _) (ksort_asc _) hsub fun z _ hz => (none_K (by rw [ksort_mem] at hz; exact hz)).2
  rw [fr, fb]
  have hkl : (ksort (keysR left.Rows ++ keysR right.Rows)).length ≤ 60 := by
    refine Nat.le_trans (ksort_len _) ?_
    simp [keysR]; omega
  generalize ksort (keysR left.Rows ++ keysR right.Rows) = ks at hkl ⊢
  have hbl := flat_len (badK base left right) 8 (fun k => mrgK_len (h.le8 k).2.1)
  have hrl := flat_len (rowK base left right) 1 (fun k => rowOf_len _ _)
  obtain ⟨r, e, rfl⟩ := inv_loop (f := fun s => changeforgeref2_MergeTables.l1 base left right ks s.1 s.2.1 s.2.2) ks.length (fun j t => t = ((ks.take j).flatMap (badK base left right), (ks.take j).flatMap (rowK base left right))) (fun t => t = (ks.flatMap (badK base left right), ks.flatMap (rowK base left right))) (by
    rintro j t hj rfl
    have b1 := hbl (ks.take j)
    have b2 := hrl (ks.take j)
    rw [List.length_take] at b1 b2
    refine ⟨_, rstep_t h hj (by omega) (by simp only; omega) (by simp only; omega), ?_⟩
    rw [List.take_succ_eq_append_getElem hj, List.flatMap_append, List.flatMap_append]
    simp) (by
    rintro t rfl
    unfold changeforgeref2_MergeTables.l1
    simp only
    rw [ite_dec, if_neg (by omega), List.take_length]
    exact ⟨_, rfl, rfl⟩) ([], []) rfl
  rw [e, Option.bind_some]
  unfold changeforgeref2_MergeTables.j1 changeforgeref1_At
  simp only
  rw [ite_dec]
  by_cases h3 : (ks.flatMap (rowK base left right)).length > 30
  · rw [if_pos (by omega), if_pos h3]; rfl
  · rw [if_neg (by omega), if_neg h3]
end Go.Dc
