/- Tables: what is at fault with them, on both sides. -/
import Derived.Test.YthknfnjdnclphaaDcLS
import Derived.Test.YthknfnjdnclphaaDcQ0
set_option linter.unusedSimpArgs false
set_option linter.unusedVariables false
namespace Go.Dc
open Go

theorem ite_nn {α : Type} {p : Prop} [Decidable (¬ p)] {x y : α} (h : p) : (if ¬ p then x else y) = y := if_neg (fun h2 => h2 h)

theorem text_f (l : List ByteArray) : tablepatch_text l = some (textFault l).Code := by
  unfold tablepatch_text
  rw [validate_f, Option.bind_some]

def nameC (s : ByteArray) : Int := if s = (⟨#[]⟩ : ByteArray) then 12 else (textFault [s]).Code
theorem nameCode_f (s : ByteArray) : changeforgeref2_nameCode s = some (nameC s) := by
  unfold changeforgeref2_nameCode nameC changeforgeref1_One
  rw [ite_dec, linesCode_f]
  by_cases h : s = (⟨#[]⟩ : ByteArray)
  · rw [if_pos h, if_pos h]
  · rw [if_neg h, if_neg h]; rfl

theorem contains_f (l : List ByteArray) (v : ByteArray) (hl : l.length ≤ 1000000) : slices_Contains l v = some (l.any fun y => decide (v = y)) := by
  unfold slices_Contains slices_Index
  rw [any_loop (f := fun s => slices_Index.l1 l v s) (fun k => .inl (k : Int)) (.inr ()) l (fun y => decide (v = y)) ?_ ?_, Option.bind_some]
  · cases h : firstB (fun y => decide (v = y)) 0 l with
    | some p =>
      have : (l.any fun y => decide (v = y)) = true := by
        cases h4 : l.any fun y => decide (v = y)
        · rw [firstB_none.2 h4] at h; cases h
        · rfl
      rw [this]
      show some (decide ((p : Int) ≥ 0)) = _
      rw [decide_eq_true (by omega)]
    | none => rw [firstB_none.1 h]; rfl
  · intro k h
    unfold slices_Index.l1
    rw [ite_dec, if_pos (by omega), at_nat h, Option.bind_some]
    by_cases hc : v = l[k]
    · rw [if_pos (decide_eq_true hc), if_pos (decide_eq_true hc)]
    · rw [if_neg (by simpa using hc), if_neg (by simpa using hc), ck_eq (by omega) (by omega), Option.bind_some]; rfl
  · unfold slices_Index.l1
    rw [ite_dec, if_neg (by omega)]

def colC (name : ByteArray) (ear : List ByteArray) : Int := if nameC name ≠ 0 then nameC name else if ear.any (fun y => decide (name = y)) then 7 else 0

theorem column_f (name : ByteArray) (ear : List ByteArray) (hl : ear.length ≤ 1000000) : tablepatch_column name ear = some (colC name ear) := by
  unfold tablepatch_column colC nameC
  rw [ite_dec, text_f, Option.bind_some, contains_f _ _ hl, Option.bind_some, ite_ndec]
  by_cases h : name = (⟨#[]⟩ : ByteArray)
  · rw [if_pos h, if_pos h, if_pos (by decide)]
  · rw [if_neg h, if_neg h]
    by_cases h2 : (textFault [name]).Code = 0
    · rw [if_pos h2, ite_nn h2]
      cases ear.any fun y => decide (name = y) <;> rfl
    · rw [if_neg h2, if_pos h2]

def notAfter (prev : Option Row) (k : ByteArray) : Bool := match prev with
  | Option.none => false
  | some q => sLt k q.Key || decide (k = q.Key)
def rowC (n : Nat) (prev : Option Row) (r : Row) : Int :=
  if nameC r.Key ≠ 0 then nameC r.Key else if r.Cells.length ≠ n then 9 else if (textFault r.Cells).Code ≠ 0 then (textFault r.Cells).Code else if notAfter prev r.Key then 5 else 0

theorem rlast_at {l : List Row} (h : 0 < l.length) : l.getLast? = some l[l.length - 1] := by
  rw [List.getLast?_eq_getElem?, List.getElem?_eq_getElem (by omega)]
theorem rlast_take {l : List Row} {k : Nat} (h : k < l.length) (h0 : 0 < k) : (l.take k).getLast? = some l[k - 1] := by
  have hlen : (l.take k).length = k := by rw [List.length_take]; omega
  rw [rlast_at (by omega), List.getElem_take]
  congr 2; omega

theorem after_f {l : List Row} {k : Nat} (h : k < l.length) (hl : l.length ≤ 1000000) (y : ByteArray) :
    (if decide ((k : Int) > 0) = true then (ckK .i64 ((k : Int) - 1)).bind fun z1 => (at? l z1).bind fun y4 => some (sLt y y4.Key || decide (y = y4.Key)) else some false) = some (notAfter ((l.take k).getLast?) y) := by
  rw [ite_dec]
  by_cases hk : 0 < k
  · rw [if_pos (by omega), ck_eq (by omega) (by omega), Option.bind_some, show ((k : Int) - 1) = ((k - 1 : Nat) : Int) by omega, at_nat (by omega), Option.bind_some, rlast_take h hk]; rfl
  · rw [if_neg (by omega)]
    have : k = 0 := by omega
    subst this
    rfl

theorem row_f (t : Table) {k : Nat} (h : k < t.Rows.length) (hl : t.Rows.length ≤ 1000000) : tablepatch_row t (k : Int) = some (rowC t.Columns.length ((t.Rows.take k).getLast?) t.Rows[k]) := by
  unfold tablepatch_row rowC nameC
  rw [at_nat h, Option.bind_some, ite_dec]
  by_cases h1 : t.Rows[k].Key = (⟨#[]⟩ : ByteArray)
  · rw [if_pos h1, if_pos h1, if_pos (by decide)]
  rw [if_neg h1, if_neg h1, text_f, Option.bind_some, ite_ndec]
  by_cases h2 : (textFault [t.Rows[k].Key]).Code = 0
  case neg => rw [if_neg h2, if_pos h2]
  rw [if_pos h2, ite_nn h2, ite_ndec]
  by_cases h3 : t.Rows[k].Cells.length = t.Columns.length
  case neg => rw [if_neg (by omega), if_pos h3]
  rw [if_pos (by omega), ite_nn h3, text_f, Option.bind_some, ite_ndec]
  by_cases h4 : (textFault t.Rows[k].Cells).Code = 0
  case neg => rw [if_neg h4, if_pos h4]
  rw [if_pos h4, ite_nn h4, after_f h hl, Option.bind_some]
  cases notAfter ((t.Rows.take k).getLast?) t.Rows[k].Key <;> rfl

def cG (cols : List ByteArray) (k : Nat) (v : ByteArray) : Option Fault := if colC v (cols.take k) = 0 then Option.none else some ⟨colC v (cols.take k), -2 - (k : Int)⟩
def rG (t : Table) (k : Nat) (r : Row) : Option Fault := if rowC t.Columns.length ((t.Rows.take k).getLast?) r = 0 then Option.none else some ⟨rowC t.Columns.length ((t.Rows.take k).getLast?) r, (k : Int)⟩
def tfault (t : Table) : Fault := if t.Columns.length = 0 then ⟨5, -1⟩ else if t.Columns.length > 8 ∨ t.Rows.length > 30 then ⟨2, -1⟩
  else match scn (cG t.Columns) 0 t.Columns with
    | some f => f
    | Option.none => (scn (rG t) 0 t.Rows).getD ⟨0, 0⟩

theorem many_cond (t : Table) : (if decide ((t.Columns.length : Int) > 8) = true then some true else some (decide ((t.Rows.length : Int) > 30))) = some (decide (t.Columns.length > 8 ∨ t.Rows.length > 30)) := by
  by_cases h : t.Columns.length > 8
  · have : (t.Columns.length : Int) > 8 := by omega
    simp [h, this]
  · have : ¬ (t.Columns.length : Int) > 8 := by omega
    by_cases h2 : t.Rows.length > 30
    · have : (t.Rows.length : Int) > 30 := by omega
      simp [*]
    · have : ¬ (t.Rows.length : Int) > 30 := by omega
      simp [*]

theorem Validate_f (t : Table) : tablepatch_Validate t = some (tfault t) := by
  unfold tablepatch_Validate tfault
  rw [ite_dec]
  by_cases h0 : t.Columns.length = 0
  · rw [if_pos (by omega), if_pos h0]
  rw [if_neg (by omega), if_neg h0, many_cond, Option.bind_some, ite_dec]
  by_cases h1 : t.Columns.length > 8 ∨ t.Rows.length > 30
  · rw [if_pos h1, if_pos h1]
  rw [if_neg h1, if_neg h1]
  rw [scn_loop (f := fun s => tablepatch_Validate.l2 t s) Sum.inl (.inr ()) t.Columns (cG t.Columns) ?_ ?_, Option.bind_some]
  · cases scn (cG t.Columns) 0 t.Columns with
    | some f => rfl
    | none =>
      simp only
      unfold tablepatch_Validate.j1
      rw [scn_loop (f := fun s => tablepatch_Validate.l1 t s) Sum.inl (.inr ()) t.Rows (rG t) ?_ ?_, Option.bind_some]
      · cases scn (rG t) 0 t.Rows <;> rfl
      · intro k h _
        unfold tablepatch_Validate.l1 rG
        rw [ite_dec, if_pos (by omega), row_f t h (by omega), Option.bind_some, ite_ndec]
        by_cases hc : rowC t.Columns.length ((t.Rows.take k).getLast?) t.Rows[k] = 0
        · rw [if_pos hc, if_pos hc, ck_eq (by omega) (by omega), Option.bind_some]; rfl
        · rw [if_neg hc, if_neg hc]
      · unfold tablepatch_Validate.l1
        rw [ite_dec, if_neg (by omega)]
  · intro k h _
    unfold tablepatch_Validate.l2 cG
    rw [ite_dec, if_pos (by omega), at_nat h, Option.bind_some, cut_eq (by omega) (by omega) (by omega), Option.bind_some]
    have e : (t.Columns.take (k : Int).toNat).drop (0 : Int).toNat = t.Columns.take k := by simp
    rw [e, column_f _ _ (by rw [List.length_take]; omega), Option.bind_some, ite_ndec]
    by_cases hc : colC t.Columns[k] (t.Columns.take k) = 0
    · rw [if_pos hc, if_pos hc, ck_eq (by omega) (by omega), Option.bind_some]; rfl
    · rw [if_neg hc, if_neg hc, ck_eq (by omega) (by omega), Option.bind_some]
  · unfold tablepatch_Validate.l2
    rw [ite_dec, if_neg (by omega)]

theorem TableFault_f (t : Table) : changeforgeref2_TableFault t = some (tfault t) := by
  unfold changeforgeref2_TableFault tfault changeforgeref1_At
  rw [ite_dec]
  by_cases h0 : t.Columns.length = 0
  · rw [if_pos (by omega), if_pos h0]; rfl
  rw [if_neg (by omega), if_neg h0, many_cond, Option.bind_some, ite_dec]
  by_cases h1 : t.Columns.length > 8 ∨ t.Rows.length > 30
  · rw [if_pos h1, if_pos h1]; rfl
  rw [if_neg h1, if_neg h1]
  rw [scn_loop (f := fun s => changeforgeref2_TableFault.l2 t s) Sum.inl (.inr ()) t.Columns (cG t.Columns) ?_ ?_, Option.bind_some]
  · cases scn (cG t.Columns) 0 t.Columns with
    | some f => rfl
    | none =>
      simp only
      unfold changeforgeref2_TableFault.j1
      rw [scn_loop (f := fun s => changeforgeref2_TableFault.l1 t s) Sum.inl (.inr ()) t.Rows (rG t) ?_ ?_, Option.bind_some]
      · cases scn (rG t) 0 t.Rows <;> rfl
      · intro k h _
        unfold changeforgeref2_TableFault.l1 rG
        rw [ite_dec, if_pos (by omega), at_nat h, Option.bind_some, nameCode_f, Option.bind_some]
        let stp : Int → Option (Step Int (Fault ⊕ Unit)) := fun c => if c = 0 then some (.next ((k + 1 : Nat) : Int)) else some (.done (.inl ⟨c, (k : Int)⟩))
        have j5 : ∀ c : Int, changeforgeref2_TableFault.j5 (k : Int) c = stp c := by
          intro c
          unfold changeforgeref2_TableFault.j5 changeforgeref1_At
          rw [ite_ndec]
          by_cases hc : c = 0
          · rw [if_pos hc, ck_eq (by omega) (by omega), Option.bind_some]
            show _ = stp c
            simp only [stp, if_pos hc]; rfl
          · rw [if_neg hc, Option.bind_some]
            show _ = stp c
            simp only [stp, if_neg hc]
        have j4 : ∀ c : Int, changeforgeref2_TableFault.j4 t (k : Int) t.Rows[k] c = changeforgeref2_TableFault.j5 (k : Int) (if c = 0 then (if notAfter ((t.Rows.take k).getLast?) t.Rows[k].Key then 5 else 0) else c) := by
          intro c
          unfold changeforgeref2_TableFault.j4
          by_cases hc : c = 0
          · subst hc
            simp only [decide_true, if_true, Option.bind_some]
            have := after_f h (by omega) t.Rows[k].Key
            rw [this, Option.bind_some]
            cases notAfter ((t.Rows.take k).getLast?) t.Rows[k].Key <;> rfl
          · rw [decide_eq_false hc, if_neg Bool.false_ne_true, Option.bind_some, if_neg Bool.false_ne_true, Option.bind_some, if_neg Bool.false_ne_true, if_neg hc]
        have j3 : ∀ c : Int, changeforgeref2_TableFault.j3 t (k : Int) t.Rows[k] c = changeforgeref2_TableFault.j4 t (k : Int) t.Rows[k] (if c = 0 then (textFault t.Rows[k].Cells).Code else c) := by
          intro c
          unfold changeforgeref2_TableFault.j3
          rw [ite_dec, linesCode_f]
          by_cases hc : c = 0
          · rw [if_pos hc, if_pos hc, Option.bind_some]
          · rw [if_neg hc, if_neg hc]
        simp only [j3, j4, j5]
        refine Eq.trans (b := stp (rowC t.Columns.length ((t.Rows.take k).getLast?) t.Rows[k])) ?_ (by
          by_cases hc : rowC t.Columns.length ((t.Rows.take k).getLast?) t.Rows[k] = 0
          · simp only [stp, if_pos hc]
          · simp only [stp, if_neg hc])
        have hx : ∀ c c' : Int, c = c' → stp c = stp c' := fun c c' h => by rw [h]
        by_cases h2 : nameC t.Rows[k].Key = 0
        · rw [decide_eq_true h2, if_pos rfl, Option.bind_some, ite_ndec]
          by_cases h3 : t.Rows[k].Cells.length = t.Columns.length
          · rw [if_pos (by omega)]
            refine hx _ _ ?_
            unfold rowC
            rw [if_pos h2, ite_nn h2, ite_nn h3]
            by_cases h4 : (textFault t.Rows[k].Cells).Code = 0
            · rw [if_pos h4, ite_nn h4]
            · rw [if_neg h4, if_pos h4]
          · rw [if_neg (by omega)]
            refine hx _ _ ?_
            unfold rowC
            rw [if_neg (show ¬ (9 : Int) = 0 by decide), if_neg (show ¬ (9 : Int) = 0 by decide), ite_nn h2, if_pos h3]
        · rw [decide_eq_false h2, if_neg Bool.false_ne_true, Option.bind_some, if_neg Bool.false_ne_true]
          refine hx _ _ ?_
          unfold rowC
          rw [if_neg h2, if_neg h2, if_pos h2]
      · unfold changeforgeref2_TableFault.l1
        rw [ite_dec, if_neg (by omega)]
  · intro k h _
    unfold changeforgeref2_TableFault.l2 cG changeforgeref1_At
    rw [ite_dec, if_pos (by omega), at_nat h, Option.bind_some, nameCode_f, Option.bind_some, ite_ndec]
    by_cases h2 : nameC t.Columns[k] = 0
    case neg =>
      have hc : colC t.Columns[k] (t.Columns.take k) = nameC t.Columns[k] := by unfold colC; rw [if_pos h2]
      rw [if_neg h2, hc, if_neg h2, ck_eq (by omega) (by omega), Option.bind_some, Option.bind_some]
    rw [if_pos h2]
    have hlen : (t.Columns.take k).length = k := by rw [List.length_take]; omega
    have hc : colC t.Columns[k] (t.Columns.take k) = if (t.Columns.take k).any (fun y => decide (t.Columns[k] = y)) then 7 else 0 := by unfold colC; rw [ite_nn h2]
    rw [any_loopC (f := fun s => changeforgeref2_TableFault.l3 t (k : Int) s) (.inl ⟨7, -2 - (k : Int)⟩) (.inr ()) (t.Columns.take k) (fun y => decide (t.Columns[k] = y)) ?_ ?_, Option.bind_some, hc]
    · by_cases h3 : (t.Columns.take k).any (fun y => decide (t.Columns[k] = y)) = true
      · rw [if_pos h3, if_pos h3, if_neg (by decide)]
      · rw [if_neg h3, if_neg h3, if_pos rfl]
        unfold changeforgeref2_TableFault.j7 changeforgeref2_TableFault.j6
        simp only
        rw [ck_eq (by omega) (by omega), Option.bind_some]; rfl
    · intro j hj
      rw [hlen] at hj
      rw [List.getElem_take]
      unfold changeforgeref2_TableFault.l3 changeforgeref1_At
      rw [ite_dec, if_pos (by omega), at_nat (by omega), Option.bind_some, at_nat h, Option.bind_some]
      by_cases hc : t.Columns[j] = t.Columns[k]
      · rw [if_pos (decide_eq_true hc), if_pos (decide_eq_true hc.symm), ck_eq (by omega) (by omega), Option.bind_some, Option.bind_some]
      · rw [if_neg (by simpa using hc), if_neg (by simpa using fun h => hc h.symm), ck_eq (by omega) (by omega), Option.bind_some]; rfl
    · unfold changeforgeref2_TableFault.l3
      rw [hlen, ite_dec, if_neg (by omega)]
  · unfold changeforgeref2_TableFault.l2
    rw [ite_dec, if_neg (by omega)]

/-! tables without fault -/
structure ColsOk (cols : List ByteArray) : Prop where
  ne : cols.length ≠ 0
  le : cols.length ≤ 8
  ok : scn (cG cols) 0 cols = Option.none
structure RowOk (n : Nat) (r : Row) : Prop where
  key : nameC r.Key = 0
  len : r.Cells.length = n
  ok : (textFault r.Cells).Code = 0
structure VTab (t : Table) : Prop where
  cols : ColsOk t.Columns
  len : t.Rows.length ≤ 30
  row : ∀ r ∈ t.Rows, RowOk t.Columns.length r
  asc : t.Rows.Pairwise fun x y => sLt x.Key y.Key = true

theorem rowC_zero {n : Nat} {prev : Option Row} {r : Row} : rowC n prev r = 0 ↔ RowOk n r ∧ notAfter prev r.Key = false := by
  unfold rowC
  by_cases h1 : nameC r.Key = 0
  case neg => rw [if_pos h1]; exact ⟨fun h => absurd h h1, fun h => absurd h.1.key h1⟩
  rw [ite_nn h1]
  by_cases h2 : r.Cells.length = n
  case neg => rw [if_pos h2]; exact ⟨fun h => absurd h (by decide), fun h => absurd h.1.len h2⟩
  rw [ite_nn h2]
  by_cases h3 : (textFault r.Cells).Code = 0
  case neg => rw [if_pos h3]; exact ⟨fun h => absurd h h3, fun h => absurd h.1.ok h3⟩
  rw [ite_nn h3]
  cases h4 : notAfter prev r.Key
  · exact ⟨fun _ => ⟨⟨h1, h2, h3⟩, rfl⟩, fun _ => rfl⟩
  · exact ⟨fun h => absurd h (by decide), fun h => absurd h.2 (by simp)⟩

theorem tfault_code (t : Table) : tfault t = ⟨0, 0⟩ ∨ (tfault t).Code ≠ 0 := by
  unfold tfault
  by_cases h0 : t.Columns.length = 0
  · rw [if_pos h0]; right; decide
  rw [if_neg h0]
  by_cases h1 : t.Columns.length > 8 ∨ t.Rows.length > 30
  · rw [if_pos h1]; right; decide
  rw [if_neg h1]
  cases hs : scn (cG t.Columns) 0 t.Columns with
  | some f =>
    obtain ⟨j, hj, he⟩ := scn_some hs
    unfold cG at he
    split at he
    · cases he
    · rename_i hc; cases he; exact .inr hc
  | none =>
    simp only
    cases hs2 : scn (rG t) 0 t.Rows with
    | none => exact .inl rfl
    | some f =>
      obtain ⟨j, hj, he⟩ := scn_some hs2
      unfold rG at he
      split at he
      · cases he
      · rename_i hc; cases he; exact .inr hc

theorem vtab_iff (t : Table) : VTab t ↔ tfault t = ⟨0, 0⟩ := by
  have hN : tfault t = ⟨0, 0⟩ ↔ ColsOk t.Columns ∧ t.Rows.length ≤ 30 ∧ ∀ j (h : j < t.Rows.length), rowC t.Columns.length ((t.Rows.take j).getLast?) t.Rows[j] = 0 := by
    unfold tfault
    by_cases h0 : t.Columns.length = 0
    · rw [if_pos h0]; exact ⟨fun h => (by cases h), fun h => absurd h0 h.1.ne⟩
    rw [if_neg h0]
    by_cases h1 : t.Columns.length > 8 ∨ t.Rows.length > 30
    · rw [if_pos h1]; exact ⟨fun h => (by cases h), fun h => (by have := h.1.le; have := h.2.1; omega)⟩
    rw [if_neg h1]
    cases hs : scn (cG t.Columns) 0 t.Columns with
    | some f =>
      obtain ⟨j, hj, he⟩ := scn_some hs
      unfold cG at he
      split at he
      · cases he
      · rename_i hc; cases he
        constructor
        · intro h
          simp only [Fault.mk.injEq] at h
          exact absurd h.1 hc
        · intro h; have := h.1.ok; rw [hs] at this; cases this
    | none =>
      simp only
      constructor
      · intro h
        refine ⟨⟨h0, by omega, hs⟩, by omega, ?_⟩
        cases hs2 : scn (rG t) 0 t.Rows with
        | none =>
          intro j hj
          have := scn_none.1 hs2 j hj
          rw [Nat.zero_add] at this
          unfold rG at this
          split at this
          · assumption
          · cases this
        | some f =>
          obtain ⟨j, hj, he⟩ := scn_some hs2
          unfold rG at he
          split at he
          · cases he
          · rename_i hc; cases he
            rw [hs2] at h
            simp only [Option.getD_some, Fault.mk.injEq] at h
            exact absurd h.1 hc
      · rintro ⟨_, _, h⟩
        rw [scn_none.2 (fun j hj => by rw [Nat.zero_add]; unfold rG; rw [if_pos (h j hj)])]; rfl
  rw [hN]
  constructor
  · intro h
    refine ⟨h.cols, h.len, fun j hj => rowC_zero.2 ⟨h.row _ (List.getElem_mem hj), ?_⟩⟩
    by_cases hj0 : 0 < j
    · rw [rlast_take hj hj0]
      have := (List.pairwise_iff_getElem.1 h.asc) (j - 1) j (by omega) hj (by omega)
      show (sLt t.Rows[j].Key t.Rows[j - 1].Key || decide (t.Rows[j].Key = t.Rows[j - 1].Key)) = false
      rw [sLt_asymm this, decide_eq_false (fun e => sLt_ne this e.symm)]; rfl
    · have : j = 0 := by omega
      subst this
      rfl
  · rintro ⟨hc, hl, h⟩
    have hr := fun j hj => rowC_zero.1 (h j hj)
    refine ⟨hc, hl, fun r hm => by obtain ⟨j, hj, rfl⟩ := List.getElem_of_mem hm; exact (hr j hj).1, ?_⟩
    have adj : ∀ j (hj : j + 1 < t.Rows.length), sLt t.Rows[j].Key t.Rows[j + 1].Key = true := by
      intro j hj
      have := (hr (j + 1) hj).2
      rw [rlast_take hj (by omega)] at this
      have h2 : (sLt t.Rows[j + 1].Key t.Rows[j].Key || decide (t.Rows[j + 1].Key = t.Rows[j].Key)) = false := this
      rw [Bool.or_eq_false_iff] at h2
      rcases sLt_not h2.1 with h3 | h3
      · exact absurd h3 (of_decide_eq_false h2.2)
      · exact h3
    rw [List.pairwise_iff_getElem]
    intro i j hi hj hij
    obtain ⟨d, rfl⟩ : ∃ d, j = i + 1 + d := ⟨j - (i + 1), by omega⟩
    clear hij
    induction d with
    | zero => exact adj i hj
    | succ d ih => exact sLt_trans (ih (by omega)) (adj (i + 1 + d) (by omega))

/-! equal texts -/
theorem szip_eq {a b : List ByteArray} (hl : a.length = b.length) : (∀ i (h : i < a.length), a[i] = b[i]'(hl ▸ h)) ↔ a = b :=
  ⟨fun h => List.ext_getElem hl fun i h1 h2 => h i h1, fun h => by subst h; exact fun _ _ => rfl⟩

theorem eq_loop {f : Int → Option (Step Int (Bool ⊕ Unit))} (a b : List ByteArray) (ha : a.length ≤ 1000000) (hl : a.length = b.length)
    (hs : ∀ k (h : k < a.length) (h' : k < b.length), f (k : Int) = if !decide (a[k] = b[k]) then some (.done (.inl false)) else some (.next ((k + 1 : Nat) : Int)))
    (he : f (a.length : Int) = some (.done (.inr ()))) : iter f 0 = some (if a = b then .inr () else .inl false) := by
  have hz : (List.zip a b).length = a.length := by rw [List.length_zip, hl, Nat.min_self]
  rw [any_loopC (f := f) (.inl false) (.inr ()) (List.zip a b) (fun p => !decide (p.1 = p.2)) (fun k h => by rw [List.getElem_zip]; exact hs k (by omega) (by omega)) (by rw [hz]; exact he)]
  by_cases h : a = b
  · rw [if_pos h, if_neg]
    simp only [Bool.not_eq_true]
    rw [List.any_eq_false]
    intro p hp
    obtain ⟨i, hi, rfl⟩ := List.getElem_of_mem hp
    rw [List.getElem_zip]
    subst h
    simp
  · rw [if_neg h, if_pos]
    rw [List.any_eq_true]
    apply Classical.byContradiction
    intro hn
    refine h ((szip_eq hl).1 fun i hi => ?_)
    apply Classical.byContradiction
    intro hne
    exact hn ⟨(List.zip a b)[i]'(by omega), List.getElem_mem _, by rw [List.getElem_zip]; simpa using hne⟩

theorem sEq_f (a b : List ByteArray) (ha : a.length ≤ 1000000) : slices_Equal a b = some (decide (a = b)) := by
  unfold slices_Equal
  rw [ite_ndec]
  by_cases hl : (a.length : Int) = (b.length : Int)
  · rw [if_pos hl, eq_loop (f := fun s => slices_Equal.l1 a b s) a b ha (by omega) ?_ ?_, Option.bind_some]
    · by_cases h : a = b
      · rw [if_pos h, decide_eq_true h]; rfl
      · rw [if_neg h, decide_eq_false h]
    · intro k h h'
      unfold slices_Equal.l1
      rw [ite_dec, if_pos (by omega), at_nat h, Option.bind_some, at_nat h', Option.bind_some, ck_eq (by omega) (by omega), Option.bind_some]; rfl
    · unfold slices_Equal.l1
      rw [ite_dec, if_neg (by omega)]
  · rw [if_neg hl, decide_eq_false (fun h => hl (by rw [h]))]

theorem rEq_f (a b : List ByteArray) (ha : a.length ≤ 1000000) : changeforgeref1_Equal a b = some (decide (a = b)) := by
  unfold changeforgeref1_Equal
  rw [ite_ndec]
  by_cases hl : (a.length : Int) = (b.length : Int)
  · rw [if_pos hl, eq_loop (f := fun s => changeforgeref1_Equal.l1 a b s) a b ha (by omega) ?_ ?_, Option.bind_some]
    · by_cases h : a = b
      · rw [if_pos h, decide_eq_true h]; rfl
      · rw [if_neg h, decide_eq_false h]
    · intro k h h'
      unfold changeforgeref1_Equal.l1
      rw [ite_dec, if_pos (by omega), at_nat h, Option.bind_some, at_nat h', Option.bind_some, ck_eq (by omega) (by omega), Option.bind_some]; rfl
    · unfold changeforgeref1_Equal.l1
      rw [ite_dec, if_neg (by omega)]
  · rw [if_neg hl, decide_eq_false (fun h => hl (by rw [h]))]

def pairF (a b : Table) (ix : Int) : Fault := if (tfault a).Code ≠ 0 then tfault a else if (tfault b).Code ≠ 0 then ⟨(tfault b).Code, ix⟩ else if a.Columns ≠ b.Columns then ⟨8, ix⟩ else ⟨0, 0⟩

theorem tf_cond (f : Fault) (h : f = ⟨0, 0⟩ ∨ f.Code ≠ 0) : (!(decide (f.Code = 0) && decide (f.Index = 0))) = decide (f.Code ≠ 0) := by
  rcases h with h | h
  · subst h; rfl
  · simp [h]

theorem pairF_code (a b : Table) (ix : Int) : pairF a b ix = ⟨0, 0⟩ ∨ (pairF a b ix).Code ≠ 0 := by
  unfold pairF
  split
  · rename_i h; exact .inr h
  · split
    · rename_i h; exact .inr h
    · split
      · exact .inr (show (8 : Int) ≠ 0 by decide)
      · exact .inl rfl

theorem pairF_ok {a b : Table} {ix : Int} : (pairF a b ix).Code = 0 ↔ VTab a ∧ VTab b ∧ a.Columns = b.Columns := by
  unfold pairF
  by_cases h1 : (tfault a).Code = 0
  case neg => rw [if_pos h1]; exact ⟨fun h => absurd h h1, fun h => absurd (by rw [(vtab_iff a).1 h.1]) h1⟩
  rw [ite_nn h1]
  by_cases h2 : (tfault b).Code = 0
  case neg => rw [if_pos h2]; exact ⟨fun h => absurd h h2, fun h => absurd (by rw [(vtab_iff b).1 h.2.1]) h2⟩
  rw [ite_nn h2]
  have ha := (vtab_iff a).2 ((tfault_code a).resolve_right (fun h => h h1))
  have hb := (vtab_iff b).2 ((tfault_code b).resolve_right (fun h => h h2))
  by_cases h3 : a.Columns = b.Columns
  · rw [ite_nn h3]; exact ⟨fun _ => ⟨ha, hb, h3⟩, fun _ => rfl⟩
  · rw [if_pos h3]; exact ⟨fun h => absurd (show (8 : Int) = 0 from h) (by decide), fun h => absurd h.2.2 h3⟩

theorem pair_f (a b : Table) (ix : Int) : tablepatch_pair a b ix = some (pairF a b ix) := by
  unfold tablepatch_pair pairF
  rw [Validate_f, Option.bind_some, Validate_f, Option.bind_some, tf_cond _ (tfault_code a), tf_cond _ (tfault_code b), ite_dec, ite_dec]
  by_cases h1 : (tfault a).Code ≠ 0
  · rw [if_pos h1, if_pos h1]
  rw [if_neg h1, if_neg h1]
  by_cases h2 : (tfault b).Code ≠ 0
  · rw [if_pos h2, if_pos h2]
  rw [if_neg h2, if_neg h2]
  have ha := (vtab_iff a).2 ((tfault_code a).resolve_right h1)
  rw [sEq_f _ _ (by have := ha.cols.le; omega), Option.bind_some, ite_ndec]
  by_cases h3 : a.Columns = b.Columns
  · rw [if_pos h3, ite_nn h3]
  · rw [if_neg h3, if_pos h3]

theorem TwoTables_f (a b : Table) (ix : Int) : changeforgeref2_TwoTables a b ix = some (pairF a b ix) := by
  unfold changeforgeref2_TwoTables pairF changeforgeref2_TwoTables.j1 changeforgeref2_TwoTables.j2 changeforgeref1_At
  rw [TableFault_f, Option.bind_some, TableFault_f]
  simp only [Option.bind_some]
  by_cases h1 : (tfault a).Code = 0
  case neg =>
    rw [decide_eq_false h1, if_pos h1]
    simp only [Bool.false_eq_true, if_false, Option.bind_some]
  rw [decide_eq_true h1, ite_nn h1]
  simp only [if_true, Option.bind_some]
  by_cases h2 : (tfault b).Code = 0
  case neg =>
    rw [decide_eq_false h2, if_pos h2]
    simp only [Bool.not_false, if_true]
    rw [if_neg Bool.false_ne_true, Option.bind_some, if_neg Bool.false_ne_true]
  rw [decide_eq_true h2, ite_nn h2]
  have ha := (vtab_iff a).2 ((tfault_code a).resolve_right (fun h => h h1))
  rw [rEq_f _ _ (by have := ha.cols.le; omega)]
  simp only [Bool.not_true, Bool.false_eq_true, if_false, Option.bind_some]
  by_cases h3 : a.Columns = b.Columns
  · rw [decide_eq_true h3, ite_nn h3, if_neg (by decide), (vtab_iff a).1 ha]
  · rw [decide_eq_false h3, if_pos h3, if_pos (by rfl)]
end Go.Dc
