/- The document's Apply and Diff of tables are the package's. -/
import Derived.Test.YthknfnjdnclphaaDcLG
set_option linter.unusedSimpArgs false
set_option linter.unusedVariables false
namespace Go.Dc
open Go

theorem cellCode_f {t : Table} (h0 : 0 < t.Columns.length) (c : CellChange) : changeforgeref2_cellCode t c = some (chkC t.Columns.length c) := by
  unfold changeforgeref2_cellCode chkC
  have hj : changeforgeref2_cellCode.j1 c = some (if (textFault c.Old).Code ≠ 0 then (textFault c.Old).Code else (textFault c.New).Code) := by
    unfold changeforgeref2_cellCode.j1
    rw [linesCode_f, Option.bind_some, linesCode_f, Option.bind_some, ite_ndec]
    by_cases h : (textFault c.Old).Code = 0
    · rw [if_pos h, ite_nn h]
    · rw [if_neg h, if_pos h]
  rw [nameCode_f, Option.bind_some, ite_ndec]
  by_cases k1 : nameC c.Key = 0
  case neg => rw [if_neg k1, if_pos k1]
  rw [if_pos k1, ite_nn k1, ors, Option.bind_some, ite_dec]
  by_cases k2 : c.Column < -1 ∨ c.Column ≥ (t.Columns.length : Int)
  · rw [if_pos k2, if_pos k2]
  rw [if_neg k2, if_neg k2, ite_dec, hj]
  simp only [← decide_not, ands, ors, Option.bind_some]
  simp only [ite_dec]
  by_cases k3 : needOk t.Columns.length c
  · rw [ite_nn k3]
    have hk := need_iff.1 k3
    by_cases k5 : c.Column = -1
    · rw [if_pos k5, if_neg (by omega)]
    · rw [if_neg k5, if_neg (by omega)]
  · rw [if_pos k3]
    have hk := mt need_iff.2 k3
    by_cases k5 : c.Column = -1
    · rw [if_pos k5, if_pos (by omega)]
    · rw [if_neg k5, if_pos (by omega)]

theorem rowAt_f {n : Nat} {cols : List ByteArray} {rows : List Row} (h : RowsOk n rows) (hn : 0 < n) (hl : rows.length ≤ 1000) {p : ByteArray} {k : Nat} (hA : At rows p k) :
    changeforgeref2_RowAt ⟨cols, rows⟩ p = some (if lkR rows p = [] then -1 else (k : Int)) := by
  unfold changeforgeref2_RowAt
  rw [any_loop (f := fun s => changeforgeref2_RowAt.l1 ⟨cols, rows⟩ p s) (fun i => .inl (i : Int)) (.inr ()) rows (fun r => decide (r.Key = p)) ?_ ?_, Option.bind_some]
  · have key : ∀ (l : List Row) (j : Nat), rows.drop j = l → firstB (fun r => decide (r.Key = p)) j l = Option.none ∨ ∃ i, ∃ hi : i < rows.length, firstB (fun r => decide (r.Key = p)) j l = some i ∧ rows[i].Key = p := by
      intro l
      induction l with
      | nil => intro j _; exact .inl rfl
      | cons x r ih =>
        intro j hj
        obtain ⟨hlt, hx, hr⟩ := dropAt hj
        rw [firstB]
        by_cases hk : x.Key = p
        · rw [if_pos (decide_eq_true hk)]
          exact .inr ⟨j, hlt, rfl, by rw [hx]; exact hk⟩
        · rw [if_neg (by simpa using hk)]
          exact ih (j + 1) hr
    rcases key rows 0 rfl with h1 | ⟨i, hi, h1, h2⟩
    · rw [h1]
      have := firstB_none.1 h1
      rw [List.any_eq_false] at this
      rw [if_pos (lk_none (fun r hr => by have := this r hr; simpa using this))]
      rfl
    · rw [h1]
      have hne : lkR rows p ≠ [] := fun e => (lk_ne h hn).1 e _ (List.getElem_mem hi) h2
      rw [if_neg hne]
      have : i = k := by
        rcases Nat.lt_trichotomy i k with h3 | h3 | h3
        · have := hA.lo i hi h3; rw [h2, sLt_irr] at this; cases this
        · exact h3
        · have h4 := hA.hi k (by omega) (Nat.le_refl _)
          have h5 := (List.pairwise_iff_getElem.1 h.asc) k i (by omega) hi h3
          rw [h2, h4] at h5; cases h5
      rw [this]
  · intro i hi
    unfold changeforgeref2_RowAt.l1
    simp only
    rw [ite_dec, if_pos (by omega), at_nat hi, Option.bind_some]
    by_cases hk : rows[i].Key = p
    · rw [if_pos (decide_eq_true hk), if_pos (decide_eq_true hk)]
    · rw [if_neg (by simpa using hk), if_neg (by simpa using hk), ck_eq (by omega) (by omega), Option.bind_some]; rfl
  · unfold changeforgeref2_RowAt.l1
    simp only
    rw [ite_dec, if_neg (by omega)]

theorem at_left {α : Type} {l r : List α} {z : α} {p i : Nat} (hp : p ≤ l.length) (hi : i < p) : at? (l.take p ++ z :: r) (i : Int) = some (l[i]'(by omega)) := by
  have hlen : (l.take p).length = p := by rw [List.length_take]; omega
  rw [at_nat (by rw [List.length_append, hlen]; omega)]
  congr 1
  rw [List.getElem_append_left (by omega), List.getElem_take]
theorem at_mid {α : Type} {l r : List α} {z : α} {p : Nat} (hp : p ≤ l.length) : at? (l.take p ++ z :: r) (p : Int) = some z := by
  have hlen : (l.take p).length = p := by rw [List.length_take]; omega
  rw [at_nat (by rw [List.length_append, hlen, List.length_cons]; omega)]
  congr 1
  rw [List.getElem_append_right (by omega)]
  simp [hlen]
theorem set_mid {α : Type} {l r : List α} {z y : α} {p : Nat} (hp : p ≤ l.length) : (l.take p ++ z :: r).set p y = l.take p ++ y :: r := by
  have hlen : (l.take p).length = p := by rw [List.length_take]; omega
  rw [List.set_append_right _ _ (by omega), hlen, Nat.sub_self]
  rfl

theorem ord1 {l : List Row} {i : Nat} (hi : i < l.length) (hl : l.length ≤ 1000) {acc : List Row} (hac : acc.length = i) (ha : RAsc acc) (hne : ∀ r ∈ acc, r.Key ≠ l[i].Key) :
    changeforgeref2_ordered.l1 l (i : Int) acc = some (.next (((i + 1 : Nat) : Int), acc.filter (fun r => sLt r.Key l[i].Key) ++ l[i] :: acc.filter (fun r => sLt l[i].Key r.Key))) := by
  unfold changeforgeref2_ordered.l1
  rw [ite_dec, if_pos (by omega), at_nat hi, Option.bind_some, app_eq (by rw [List.length_singleton]; omega), Option.bind_some]
  obtain ⟨q, e, p, z, rfl, hA⟩ := iter_rule (m := fun s => changeforgeref2_ordered.l2 l (i : Int) s.1 s.2)
    (fun s => ∃ p z, p ≤ acc.length ∧ s = (acc.take p ++ z :: acc.drop p, (p : Int)) ∧ ∀ q (hq : q < acc.length), p ≤ q → sLt l[i].Key acc[q].Key = true)
    (fun s => s.2.toNat) (fun r => ∃ p z, r = (acc.take p ++ z :: acc.drop p, (p : Int)) ∧ At acc l[i].Key p) (by
    rintro s ⟨p, z, hp, rfl, hI⟩
    unfold changeforgeref2_ordered.l2
    simp only
    by_cases h0 : p = 0
    · right
      subst h0
      rw [if_neg (by simp), Option.bind_some, if_neg Bool.false_ne_true]
      exact ⟨_, rfl, 0, z, rfl, hp, fun q hq h => absurd h (by omega), fun q hq h => sLt_asymm (hI q hq h)⟩
    · obtain ⟨m, rfl⟩ := Nat.exists_eq_succ_of_ne_zero h0
      have em : ((m.succ : Nat) : Int) - 1 = (m : Int) := by omega
      have hm : m < acc.length := by omega
      rw [ite_dec, if_pos (by omega), at_nat hi, Option.bind_some, ck_eq (by omega) (by omega), Option.bind_some, em, at_left hp (by omega), Option.bind_some, Option.bind_some]
      cases hc : sLt l[i].Key acc[m].Key
      · right
        rw [if_neg Bool.false_ne_true]
        refine ⟨_, rfl, m.succ, z, rfl, hp, fun q hq h => ?_, fun q hq h => sLt_asymm (hI q hq h)⟩
        have h1 := (sLt_not hc).resolve_left (fun e => hne _ (List.getElem_mem hm) e.symm)
        exact rasc_lt ha hq hm (by omega) h1
      · left
        rw [if_pos rfl, Option.bind_some, at_left hp (by omega), Option.bind_some, at_mid hp, Option.bind_some, Option.bind_some, Option.bind_some, Int.toNat_natCast, set_mid hp]
        refine ⟨_, rfl, ⟨m, acc[m], by omega, ?_, fun q hq h => ?_⟩, by simp only; omega⟩
        · rw [List.drop_eq_getElem_cons hm, List.take_succ_eq_append_getElem hm, List.append_assoc]; rfl
        · by_cases e : q = m
          · subst e; exact hc
          · exact hI q hq (by omega)) (acc ++ [l[i]], (acc.length : Int)) ⟨acc.length, l[i], Nat.le_refl _, by rw [List.take_length, List.drop_length], fun q hq h => absurd h (by omega)⟩
  rw [e, Option.bind_some]
  unfold changeforgeref2_ordered.j3 changeforgeref2_ordered.j2
  simp only
  rw [at_nat hi, Option.bind_some, at_mid hA.le, Option.bind_some, Option.bind_some, Int.toNat_natCast, set_mid hA.le, ck_eq (by omega) (by omega), Option.bind_some, at_take hA, at_drop ha hA (.inl ⟨rfl, hne⟩)]
  rfl

theorem ordered_f {rows : List Row} (h : RAsc rows) (hl : rows.length ≤ 100) (y : Row) (hy : ∀ r ∈ rows, r.Key ≠ y.Key) :
    changeforgeref2_ordered (rows ++ [y]) = some (rows.filter (fun r => sLt r.Key y.Key) ++ y :: rows.filter (fun r => sLt y.Key r.Key)) := by
  unfold changeforgeref2_ordered
  have hll : (rows ++ [y]).length = rows.length + 1 := by simp
  obtain ⟨r, e, rfl⟩ := inv_loop (f := fun s => changeforgeref2_ordered.l1 (rows ++ [y]) s.1 s.2) (rows.length + 1)
    (fun j s => (j ≤ rows.length ∧ s = rows.take j) ∨ (j = rows.length + 1 ∧ s = rows.filter (fun r => sLt r.Key y.Key) ++ y :: rows.filter (fun r => sLt y.Key r.Key)))
    (fun r => r = rows.filter (fun r => sLt r.Key y.Key) ++ y :: rows.filter (fun r => sLt y.Key r.Key)) (by
    intro j s hj hI
    rcases hI with ⟨h1, rfl⟩ | ⟨h1, _⟩
    case inr => omega
    by_cases hjr : j < rows.length
    · have hg : (rows ++ [y])[j]'(by omega) = rows[j] := List.getElem_append_left hjr
      have hlt : ∀ r ∈ rows.take j, sLt r.Key rows[j].Key = true := by
        intro r hr
        obtain ⟨i, hi, rfl⟩ := List.getElem_of_mem hr
        rw [List.length_take] at hi
        rw [List.getElem_take]
        exact (List.pairwise_iff_getElem.1 h) i j (by omega) hjr (by omega)
      have := ord1 (l := rows ++ [y]) (i := j) (by omega) (by omega) (acc := rows.take j) (by rw [List.length_take]; omega) (h.sublist (List.take_sublist _ _)) (by rw [hg]; exact fun r hr => sLt_ne (hlt r hr))
      refine ⟨_, this, .inl ⟨hjr, ?_⟩⟩
      rw [hg, List.filter_eq_self.2 hlt, List.filter_eq_nil_iff.2 (fun r hr => by rw [sLt_asymm (hlt r hr)]; simp), List.take_succ_eq_append_getElem hjr]
    · have e : j = rows.length := by omega
      subst e
      have hg : (rows ++ [y])[rows.length]'(by omega) = y := by rw [List.getElem_append_right (Nat.le_refl _)]; simp
      have := ord1 (l := rows ++ [y]) (i := rows.length) (by omega) (by omega) (acc := rows.take rows.length) (by rw [List.take_length]) (by rw [List.take_length]; exact h) (by rw [List.take_length, hg]; exact hy)
      refine ⟨_, this, .inr ⟨rfl, ?_⟩⟩
      rw [List.take_length, hg]) (by
    intro s hI
    rcases hI with ⟨h1, _⟩ | ⟨_, rfl⟩
    · omega
    · unfold changeforgeref2_ordered.l1
      simp only
      rw [ite_dec, if_neg (by omega)]
      exact ⟨_, rfl, rfl⟩) [] (.inl ⟨Nat.zero_le _, rfl⟩)
  rw [e, Option.bind_some]
  rfl

theorem cellChange_f {n : Nat} {rows : List Row} (h : RowsOk n rows) (hn : 0 < n) (hn8 : n ≤ 8) (hl : rows.length ≤ 30) {c : CellChange} (hc : Chk n c) :
    changeforgeref2_cellChange rows c = some ((perfR rows c).2, (perfR rows c).1) := by
  have hd := need_iff.1 hc.need
  obtain ⟨k, b, e, hA, hb⟩ := find_g h.asc (by omega) c.Key
  unfold changeforgeref2_cellChange perfR
  rw [rowAt_f h hn (by omega) hA, Option.bind_some, ands, Option.bind_some, ite_dec]
  have hz : (c.Column = -1 ∧ (c.Old.length : Int) = 0) ↔ (c.Column = -1 ∧ c.Old = []) := by
    rw [← List.length_eq_zero_iff]; omega
  by_cases c1 : c.Column = -1 ∧ c.Old = []
  · have hol : c.Old.length = 0 := by rw [c1.2]; rfl
    have hnl : c.New.length = n := by omega
    rw [if_pos (hz.2 c1), if_pos c1, ite_dec]
    by_cases c2 : lkR rows c.Key = []
    case neg => rw [if_neg c2, if_pos (by omega), if_pos c2]
    rw [if_pos c2, if_neg (by omega), ite_nn c2, ite_dec]
    by_cases c3 : rows.length ≥ 30
    · rw [if_pos (by omega), if_pos c3]
    rw [if_neg (by omega), if_neg c3, app_eq (by simp only [List.length_nil]; omega), Option.bind_some, List.nil_append]
    unfold changeforgeref2_cellChange.j1
    rw [app_eq (by rw [List.length_singleton]; omega), Option.bind_some, ordered_f h.asc (by omega) _ ((lk_ne h hn).1 c2), Option.bind_some]
    have : updR rows c.Key c.New = rows.filter (fun r => sLt r.Key c.Key) ++ ⟨c.Key, c.New⟩ :: rows.filter (fun r => sLt c.Key r.Key) := by
      unfold updR rowOf
      rw [if_neg (by intro e; rw [e] at hnl; simp only [List.length_nil] at hnl; omega), List.append_assoc]; rfl
    rw [this]
  rw [if_neg (fun hh => c1 (hz.1 hh)), if_neg c1, ite_dec]
  by_cases c2 : lkR rows c.Key = []
  · rw [if_pos c2, if_pos (by omega), if_pos c2]
  rw [if_neg c2, if_neg (by omega), if_neg c2]
  obtain ⟨hk, hkk⟩ := (has_iff h hn hA).2 c2
  have hm := List.getElem_mem hk
  have hcell : lkR rows c.Key = rows[k].Cells := by rw [← hkk]; exact lk_mem h.asc hm
  have hrl := (h.row _ hm).len
  have hcut : cut? rows 0 (k : Int) = some (rows.take k) := by rw [cut_eq (by omega) (by omega) (by omega)]; simp
  have hcut2 : cut? rows ((k : Int) + 1) (rows.length : Int) = some (rows.drop (k + 1)) := by
    rw [cut_eq (by omega) (by omega) (by omega), Int.toNat_natCast, List.take_length]; rfl
  have htl : (rows.take k).length ≤ 30 := by rw [List.length_take]; omega
  have hdl : (rows.drop (k + 1)).length ≤ 30 := by rw [List.length_drop]; omega
  rw [hcut, Option.bind_some, app_eq (by simp only [List.length_nil]; omega), Option.bind_some, List.nil_append, at_nat hk, Option.bind_some, ite_dec, hcell]
  by_cases c3 : c.Column = -1
  · rw [if_pos c3, if_pos c3, rEq_f _ _ (by omega), Option.bind_some, ite_ndec]
    by_cases c4 : rows[k].Cells = c.Old
    case neg => rw [if_neg c4, if_pos c4]
    rw [if_pos c4, ite_nn c4, ck_eq (by omega) (by omega), Option.bind_some, hcut2, Option.bind_some, app_eq (by omega), Option.bind_some]
    have : updR rows c.Key [] = rows.take k ++ rows.drop (k + 1) := by
      unfold updR rowOf
      rw [at_take hA, at_drop h.asc hA (.inr ⟨rfl, hk, hkk⟩), if_pos rfl, List.append_nil]
    rw [this]
  · rw [if_neg c3, if_neg c3]
    obtain ⟨h0, h1, h2, h3⟩ := hd.resolve_left (fun hh => c3 hh.1)
    obtain ⟨q, hq⟩ := Int.eq_ofNat_of_zero_le h0
    rw [hq, Int.toNat_natCast]
    have hqn : q < rows[k].Cells.length := by omega
    have ho : at? c.Old 0 = some c.Old[0] := at_nat (k := 0) (by omega)
    have hw : at? c.New 0 = some c.New[0] := at_nat (k := 0) (by omega)
    rw [at_nat hqn, Option.bind_some, ho, Option.bind_some, ite_ndec, nth_at hqn, nth_at (by omega : 0 < c.Old.length), nth_at (by omega : 0 < c.New.length)]
    by_cases c4 : rows[k].Cells[q] = c.Old[0]
    case neg => rw [if_neg c4, if_pos c4]
    rw [if_pos c4, ite_nn c4, app_eq (by simp only [List.length_nil]; omega), Option.bind_some, List.nil_append, hw, Option.bind_some, at_nat hqn, Option.bind_some, Option.bind_some, ck_eq (by omega) (by omega), Option.bind_some, hcut2, Option.bind_some,
      app_eq (by rw [List.length_singleton]; omega), Option.bind_some, app_eq (by rw [List.length_append, List.length_singleton]; omega), Option.bind_some]
    have hset : updR rows c.Key (rows[k].Cells.set q c.New[0]) = rows.take k ++ [⟨c.Key, rows[k].Cells.set q c.New[0]⟩] ++ rows.drop (k + 1) := by
      unfold updR rowOf
      rw [if_neg (by intro e; have := congrArg List.length e; rw [List.length_set] at this; simp only [List.length_nil] at this; omega), ← at_take hA, ← at_drop h.asc hA (.inr ⟨rfl, hk, hkk⟩)]
    rw [hset]

theorem ApplyCells_f (cs : List CellChange) (t : Table) : changeforgeref2_ApplyCells cs t = some (applyT cs t) := by
  unfold changeforgeref2_ApplyCells applyT changeforgeref1_At
  rw [TableFault_f, Option.bind_some, ite_ndec]
  by_cases h1 : (tfault t).Code ≠ 0
  · rw [if_neg h1, if_pos h1, Option.bind_some]
  rw [if_pos (Classical.not_not.1 h1), if_neg h1, ite_dec]
  by_cases h2 : cs.length > 300
  · rw [if_pos (by omega), if_pos h2, Option.bind_some]
  rw [if_neg (by omega), if_neg h2]
  have hv := vt h1
  have h0 := hv.np
  have h8 := hv.cols.le
  rw [scn_loop (f := fun s => changeforgeref2_ApplyCells.l2 cs t s) (fun f => Sum.inl ((⟨[], []⟩ : Table), f)) (.inr ()) cs (chG t.Columns.length) ?_ ?_, Option.bind_some]
  · cases hs : scn (chG t.Columns.length) 0 cs with
    | some f => rfl
    | none =>
      simp only
      have hc := chG_none.1 hs
      unfold changeforgeref2_ApplyCells.j1
      have := run_loop (f := fun s => changeforgeref2_ApplyCells.l1 cs s.1 s.2) (by omega) h0 hc (fun j hj rows a b => by
        unfold changeforgeref2_ApplyCells.l1 changeforgeref1_At
        simp only
        rw [ite_dec, if_pos (by omega), at_nat hj, Option.bind_some, cellChange_f a h0 h8 b (hc _ (List.getElem_mem hj)), Option.bind_some, ite_ndec]
        by_cases hp : (perfR rows cs[j]).1 = 0
        · rw [if_pos hp, ite_nn hp, ck_eq (by omega) (by omega), Option.bind_some]; rfl
        · rw [if_neg hp, if_pos hp, Option.bind_some]) (by
        intro rows
        unfold changeforgeref2_ApplyCells.l1
        simp only
        rw [ite_dec, if_neg (by omega)]) cs 0 t.Rows rfl (Nat.zero_le _) hv.ok hv.len
      have e0 : ((0 : Nat) : Int) = 0 := rfl
      rw [e0] at this
      rw [this, Option.bind_some]
      cases runR 0 t.Rows cs <;> rfl
  · intro k h _
    unfold changeforgeref2_ApplyCells.l2 chG changeforgeref1_At
    rw [ite_dec, if_pos (by omega), at_nat h, Option.bind_some, cellCode_f h0, Option.bind_some, ite_ndec]
    by_cases hc : chkC t.Columns.length cs[k] = 0
    · rw [if_pos hc, if_pos hc, ck_eq (by omega) (by omega), Option.bind_some]; rfl
    · rw [if_neg hc, if_neg hc, Option.bind_some]
  · unfold changeforgeref2_ApplyCells.l2
    rw [ite_dec, if_neg (by omega)]

theorem dl2r {ks : List ByteArray} {m : Nat} (hm : m < ks.length) {o a : List ByteArray} (hl : a.length = o.length) (ho : o.length ≤ 1000) {acc : List CellChange} (hb : acc.length ≤ 100000) :
    iter (fun s => changeforgeref2_DiffTables.l2 ks (m : Int) o a s.1 s.2) (0, acc) = some (acc ++ (List.range o.length).flatMap (diffC ks[m] o a)) := by
  obtain ⟨r, e, rfl⟩ := inv_loop (f := fun s => changeforgeref2_DiffTables.l2 ks (m : Int) o a s.1 s.2) o.length (fun j s => s = acc ++ (List.range j).flatMap (diffC ks[m] o a)) (fun r => r = acc ++ (List.range o.length).flatMap (diffC ks[m] o a)) (by
    rintro j s hj rfl
    have hlen := diffC_len ks[m] o a j
    have hj1 : ((j : Int) + 1) = ((j + 1 : Nat) : Int) := by omega
    have hj4 : ∀ q, changeforgeref2_DiffTables.j4 (j : Int) q = some (.next (((j + 1 : Nat) : Int), q)) := by
      intro q
      unfold changeforgeref2_DiffTables.j4
      rw [ck_eq (by omega) (by omega), Option.bind_some]; rfl
    refine ⟨_, ?_, rfl⟩
    unfold changeforgeref2_DiffTables.l2
    simp only
    rw [ite_dec, if_pos (by omega), at_nat hj, Option.bind_some, at_nat (by omega), Option.bind_some, ite_ndec, List.range_succ, List.flatMap_append]
    simp only [List.flatMap_cons, List.flatMap_nil, List.append_nil]
    have hd : diffC ks[m] o a j = if o[j] = a[j] then [] else [⟨ks[m], (j : Int), [nth o j], [nth a j]⟩] := by
      unfold diffC; rw [nth_at hj, nth_at (by omega : j < a.length)]
    rw [hd]
    by_cases hc : o[j] = a[j]
    · rw [if_pos hc, if_pos hc, hj4, List.append_nil]
    · rw [if_neg hc, if_neg hc, at_nat hm, Option.bind_some, ck_eq (by omega) (by omega), Option.bind_some, hj1, cut_one hj, Option.bind_some, Option.bind_some, cut_one (by omega), Option.bind_some,
        app_eq (by rw [List.length_append, List.length_singleton]; omega), Option.bind_some, hj4, List.append_assoc]) (by
    rintro s rfl
    unfold changeforgeref2_DiffTables.l2
    simp only
    rw [ite_dec, if_neg (by omega)]
    exact ⟨_, rfl, rfl⟩) acc (by simp)
  exact e

theorem dstepr {a b : Table} (h : Two a b) {ks : List ByteArray} {j : Nat} (hj : j < ks.length) (hks : ks.length ≤ 1000) {acc : List CellChange} (hb : acc.length ≤ 90000) :
    changeforgeref2_DiffTables.l1 a b ks (j : Int) acc = some (.next (((j + 1 : Nat) : Int), acc ++ dK a b ks[j])) := by
  obtain ⟨l1, l2⟩ := h.le ks[j]
  have hj2 : ∀ q, changeforgeref2_DiffTables.j2 (j : Int) q = some (.next (((j + 1 : Nat) : Int), q)) := by
    intro q
    unfold changeforgeref2_DiffTables.j2
    rw [ck_eq (by omega) (by omega), Option.bind_some]; rfl
  unfold changeforgeref2_DiffTables.l1 dK diffK
  rw [ite_dec, if_pos (by omega), at_nat hj, Option.bind_some, cellsOf_f h.a, Option.bind_some, Option.bind_some, cellsOf_f h.b, Option.bind_some, ors, Option.bind_some, ite_dec]
  have hz : ((cellsL a ks[j]).length : Int) = 0 ∨ ((cellsL b ks[j]).length : Int) = 0 ↔ cellsL a ks[j] = [] ∨ cellsL b ks[j] = [] := by
    rw [← List.length_eq_zero_iff, ← List.length_eq_zero_iff]; omega
  by_cases c1 : cellsL a ks[j] = [] ∨ cellsL b ks[j] = []
  · rw [if_pos (hz.2 c1), if_pos c1, Option.bind_some, app_eq (by rw [List.length_singleton]; omega), Option.bind_some, hj2]
  · rw [if_neg (fun hh => c1 (hz.1 hh)), if_neg c1]
    have e1 := (h.ca ks[j]).resolve_left (fun e => c1 (.inl e))
    have e2 := (h.cb ks[j]).resolve_left (fun e => c1 (.inr e))
    rw [dl2r hj (by omega) (by omega) (by omega), Option.bind_some]
    unfold changeforgeref2_DiffTables.j3
    rw [hj2]

theorem DiffTables_f (a b : Table) : changeforgeref2_DiffTables a b = some (diffT a b) := by
  unfold changeforgeref2_DiffTables diffT
  rw [TwoTables_f, Option.bind_some, ite_ndec]
  by_cases h1 : (pairF a b (-20)).Code ≠ 0
  · rw [if_neg h1, if_pos h1]
  rw [if_pos (Classical.not_not.1 h1), if_neg h1]
  have h := two_of (Classical.not_not.1 h1)
  rw [Keys_f h.a.asc h.b.asc (by have := h.a.len; omega) (by have := h.b.len; omega), Option.bind_some]
  show (iter (fun s => changeforgeref2_DiffTables.l1 a b (ks2 a b) s.1 s.2) (0, [])).bind _ = _
  have hkl := ks2_len h
  generalize ks2 a b = ks at hkl ⊢
  have hbl := flat_len (dK a b) 8 (dK_len h)
  obtain ⟨r, e, rfl⟩ := inv_loop (f := fun s => changeforgeref2_DiffTables.l1 a b ks s.1 s.2) ks.length (fun j t => t = (ks.take j).flatMap (dK a b)) (fun t => t = ks.flatMap (dK a b)) (by
    rintro j t hj rfl
    have b1 := hbl (ks.take j)
    rw [List.length_take] at b1
    refine ⟨_, dstepr h hj (by omega) (by simp only; omega), ?_⟩
    rw [List.take_succ_eq_append_getElem hj, List.flatMap_append]
    simp) (by
    rintro t rfl
    unfold changeforgeref2_DiffTables.l1
    simp only
    rw [ite_dec, if_neg (by omega), List.take_length]
    exact ⟨_, rfl, rfl⟩) [] rfl
  rw [e, Option.bind_some]
  rfl

theorem matches_spec (a b : Table) (changes : List CellChange) : changeforgelaw2_TablepatchMatchesSpec a b changes = some true := by
  unfold changeforgelaw2_TablepatchMatchesSpec
  rw [Diff_f, Option.bind_some, DiffTables_f, Option.bind_some, Apply_f, Option.bind_some, ApplyCells_f, Option.bind_some, Validate_f, Option.bind_some, TableFault_f, Option.bind_some]
  have hcl : changeforgeequal_Cells (diffT a b).1 (diffT a b).1 = some true := by
    unfold diffT
    by_cases h1 : (pairF a b (-20)).Code ≠ 0
    · rw [if_pos h1]; exact cls_refl _ (by simp) (by simp)
    rw [if_neg h1]
    have h := two_of (Classical.not_not.1 h1)
    refine cls_refl _ (by have := all_len h; simp only; omega) fun c hc => ?_
    rw [List.mem_flatMap] at hc
    obtain ⟨k, _, hc⟩ := hc
    obtain ⟨l1, l2⟩ := h.le k
    unfold dK diffK at hc
    split at hc
    · rw [List.mem_singleton] at hc; subst hc; simp only; omega
    · rw [List.mem_flatMap] at hc
      obtain ⟨i, _, hc⟩ := hc
      unfold diffC at hc
      split at hc
      · cases hc
      · rw [List.mem_singleton] at hc; subst hc; simp
  have htb : changeforgeequal_Table (applyT changes a).1 (applyT changes a).1 = some true := by
    have hnil : changeforgeequal_Table ⟨[], []⟩ ⟨[], []⟩ = some true := tbl_refl _ (by simp) (by simp) (by simp)
    by_cases h : (applyT changes a).2.Code = 0
    · obtain ⟨hv, hl, hc, q, hr, e⟩ := applyT_ok h
      obtain ⟨q1, q2⟩ := run_ok hv.np changes 0 a.Rows q hc hv.ok hv.len hr
      rw [e]
      exact tab_self (t := ⟨a.Columns, q⟩) ⟨hv.cols, q2, q1.row, q1.asc⟩
    · have : (applyT changes a).1 = ⟨[], []⟩ := by
        unfold applyT at h ⊢
        by_cases h1 : (tfault a).Code ≠ 0
        · rw [if_pos h1]
        rw [if_neg h1] at h ⊢
        by_cases h2 : changes.length > 300
        · rw [if_pos h2]
        rw [if_neg h2] at h ⊢
        cases hs : scn (chG a.Columns.length) 0 changes with
        | some f => rfl
        | none =>
          rw [hs] at h
          simp only at h ⊢
          cases hr : runR 0 a.Rows changes with
          | inl f => rfl
          | inr q => rw [hr] at h; exact absurd rfl h
      rw [this, hnil]
  simp only [decide_true, Bool.and_self, if_true, hcl, htb, Option.bind_some, both_f]
end Go.Dc
