/- Apply of tables: what a list of changes does; changes taken back. -/
import Derived.Test.YthknfnjdnclphaaDcLE
set_option linter.unusedSimpArgs false
set_option linter.unusedVariables false
namespace Go.Dc
open Go

theorem ands {p q : Prop} [Decidable p] [Decidable q] : (if decide p = true then some (decide q) else some false) = some (decide (p ∧ q)) := by by_cases h : p <;> simp [h]
theorem ors {p q : Prop} [Decidable p] [Decidable q] : (if decide p = true then some true else some (decide q)) = some (decide (p ∨ q)) := by by_cases h : p <;> simp [h]

theorem tscan_off : ∀ (l : List ByteArray) (i j : Int), (tscan i l).map (·.Code) = (tscan j l).map (·.Code)
  | [], _, _ => rfl
  | s :: r, i, j => by
    rw [tscan, tscan]
    by_cases h1 : s.size > 80
    · rw [if_pos h1, if_pos h1]; rfl
    rw [if_neg h1, if_neg h1]
    by_cases h2 : hasNL s = true
    · rw [if_pos h2, if_pos h2]; rfl
    rw [if_neg h2, if_neg h2]
    exact tscan_off r _ _

theorem tscan_app : ∀ (a b : List ByteArray) (i : Int), (tscan i (a ++ b)).map (·.Code) = if tscan i a = Option.none then (tscan i b).map (·.Code) else (tscan i a).map (·.Code)
  | [], b, i => by rw [List.nil_append]; exact (if_pos (show tscan i [] = Option.none from rfl)).symm
  | s :: r, b, i => by
    rw [List.cons_append, tscan, tscan]
    by_cases h1 : s.size > 80
    · rw [if_pos h1, if_pos h1, if_neg (by simp)]
    rw [if_neg h1, if_neg h1]
    by_cases h2 : hasNL s = true
    · rw [if_pos h2, if_pos h2, if_neg (by simp)]
    rw [if_neg h2, if_neg h2, tscan_app r b, tscan_off b (i + 1) i]

theorem text_scan {l : List ByteArray} (h : l.length ≤ 120) : (textFault l).Code = ((tscan 0 l).map (·.Code)).getD 0 := by
  unfold textFault
  rw [if_neg (by omega)]
  cases tscan 0 l <;> rfl

theorem text_app {a b : List ByteArray} (h : a.length + b.length ≤ 120) : (textFault (a ++ b)).Code = if (textFault a).Code ≠ 0 then (textFault a).Code else (textFault b).Code := by
  rw [text_scan (by rw [List.length_append]; omega), text_scan (l := a) (by omega), text_scan (l := b) (by omega), tscan_app]
  cases hs : tscan 0 a with
  | none => rw [if_pos rfl]; rfl
  | some f =>
    rw [if_neg (by simp)]
    have := tscan_code a 0 f hs
    simp [this]

theorem concat_f (a b : List ByteArray) (h : a.length + b.length ≤ 1000) : slices_Concat [a, b] = some (a ++ b) := by
  unfold slices_Concat
  have e1 : slices_Concat.l2 [a, b] 0 0 = some (.next (1, (a.length : Int))) := by
    unfold slices_Concat.l2 slices_Concat.j3
    rw [ite_dec, if_pos (by simp), show at? [a, b] 0 = some a from at_nat (l := [a, b]) (k := 0) (by simp), Option.bind_some, ck_eq (by omega) (by omega), Option.bind_some, ite_dec, if_neg (by omega), ck_eq (by omega) (by omega), Option.bind_some, show (0 : Int) + (a.length : Int) = a.length from Int.zero_add _]; rfl
  have e2 : slices_Concat.l2 [a, b] 1 (a.length : Int) = some (.next (2, (a.length : Int) + b.length)) := by
    unfold slices_Concat.l2 slices_Concat.j3
    rw [ite_dec, if_pos (by simp), show at? [a, b] 1 = some b from at_nat (l := [a, b]) (k := 1) (by simp), Option.bind_some, ck_eq (by omega) (by omega), Option.bind_some, ite_dec, if_neg (by omega), ck_eq (by omega) (by omega), Option.bind_some]; rfl
  have e3 : slices_Concat.l2 [a, b] 2 ((a.length : Int) + b.length) = some (.done ((a.length : Int) + b.length)) := by
    unfold slices_Concat.l2
    rw [ite_dec, if_neg (by simp)]
  rw [iter_next e1, iter_next e2, iter_done e3, Option.bind_some]
  unfold slices_Concat.j1 slices_Concat.j2
  have hg : grow0 ByteArray 16 ((a.length : Int) + b.length) = some [] := by
    unfold grow0; rw [if_pos ⟨by omega, by omega⟩]
  rw [hg, Option.bind_some]
  have f1 : slices_Concat.l1 [a, b] 0 [] = some (.next (1, a)) := by
    unfold slices_Concat.l1
    rw [ite_dec, if_pos (by simp), show at? [a, b] 0 = some a from at_nat (l := [a, b]) (k := 0) (by simp), Option.bind_some, app_eq (by simp only [List.length_nil]; omega), Option.bind_some, ck_eq (by omega) (by omega), Option.bind_some]; rfl
  have f2 : slices_Concat.l1 [a, b] 1 a = some (.next (2, a ++ b)) := by
    unfold slices_Concat.l1
    rw [ite_dec, if_pos (by simp), show at? [a, b] 1 = some b from at_nat (l := [a, b]) (k := 1) (by simp), Option.bind_some, app_eq (by omega), Option.bind_some, ck_eq (by omega) (by omega), Option.bind_some]; rfl
  have f3 : slices_Concat.l1 [a, b] 2 (a ++ b) = some (.done (a ++ b)) := by
    unfold slices_Concat.l1
    rw [ite_dec, if_neg (by simp)]
  rw [iter_next f1, iter_next f2, iter_done f3, Option.bind_some]

theorem chk_j1 (c : CellChange) (m : Int) : tablepatch_check.j1 c m = if (c.Column = -1 ∧ ((c.Old.length : Int) = 0 ↔ (c.New.length : Int) = 0)) ∨ (c.Column ≥ 0 ∧ ((c.Old.length : Int) = 0 ∨ (c.New.length : Int) = 0)) ∨ (¬ (c.Old.length : Int) = 0 ∧ ¬ (c.Old.length : Int) = m) ∨ (¬ (c.New.length : Int) = 0 ∧ ¬ (c.New.length : Int) = m) then some 9 else (slices_Concat [c.Old, c.New]).bind fun y2 => some (textFault y2).Code := by
  unfold tablepatch_check.j1
  simp only [text_f, Option.bind_some]
  generalize slices_Concat [c.Old, c.New] = K
  simp only [← decide_not, decide_eq_decide, ands, ors, Option.bind_some]
  simp only [ite_dec]
  by_cases p1 : (c.Column = -1 ∧ ((c.Old.length : Int) = 0 ↔ (c.New.length : Int) = 0))
  · rw [if_pos p1, if_pos (.inl p1)]
  rw [if_neg p1]
  by_cases p2 : (c.Column ≥ 0 ∧ ((c.Old.length : Int) = 0 ∨ (c.New.length : Int) = 0))
  · rw [if_pos p2, if_pos (.inr (.inl p2))]
  rw [if_neg p2]
  by_cases p3 : (¬ (c.Old.length : Int) = 0 ∧ ¬ (c.Old.length : Int) = m) ∨ (¬ (c.New.length : Int) = 0 ∧ ¬ (c.New.length : Int) = m)
  · rw [if_pos p3, if_pos (.inr (.inr p3))]
  · rw [if_neg p3, if_neg (fun h => h.elim p1 fun h => h.elim p2 p3)]

theorem need_iff {n : Nat} {c : CellChange} : needOk n c ↔ (c.Column = -1 ∧ ((c.Old.length = 0 ∧ c.New.length = n) ∨ (c.New.length = 0 ∧ c.Old.length = n))) ∨ (0 ≤ c.Column ∧ c.Column < n ∧ c.Old.length = 1 ∧ c.New.length = 1) := by
  unfold needOk
  rw [← List.length_eq_zero_iff, ← List.length_eq_zero_iff]

theorem check_f {n : Nat} (h0 : 0 < n) (hn : n ≤ 8) (c : CellChange) : tablepatch_check c (n : Int) = some (chkC n c) := by
  unfold tablepatch_check chkC nameC
  rw [ite_dec, text_f, Option.bind_some, ite_ndec]
  by_cases k1 : c.Key = (⟨#[]⟩ : ByteArray)
  · rw [if_pos k1, if_pos k1, if_pos (by decide)]
  rw [if_neg k1, if_neg k1]
  by_cases k2 : (textFault [c.Key]).Code = 0
  case neg => rw [if_neg k2, if_pos k2]
  rw [if_pos k2, ite_nn k2, ors, Option.bind_some, ite_dec]
  by_cases k3 : c.Column < -1 ∨ c.Column ≥ (n : Int)
  · rw [if_pos k3, if_pos k3]
  rw [if_neg k3, if_neg k3, ite_dec, chk_j1, chk_j1]
  have hend : needOk n c → (slices_Concat [c.Old, c.New]).bind (fun y2 => some (textFault y2).Code) = some (if (textFault c.Old).Code ≠ 0 then (textFault c.Old).Code else (textFault c.New).Code) := by
    intro hk
    have hk := need_iff.1 hk
    rw [concat_f _ _ (by omega), Option.bind_some, text_app (by omega)]
  by_cases k4 : needOk n c
  · rw [ite_nn k4, hend k4]
    have hk := need_iff.1 k4
    by_cases k5 : c.Column = -1
    · rw [if_pos k5, if_neg (by omega)]
    · rw [if_neg k5, if_neg (by omega)]
  · rw [if_pos k4]
    have hk := mt need_iff.2 k4
    by_cases k5 : c.Column = -1
    · rw [if_pos k5, if_pos (by omega)]
    · rw [if_neg k5, if_pos (by omega)]

structure Chk (n : Nat) (c : CellChange) : Prop where
  key : nameC c.Key = 0
  need : needOk n c
  old : (textFault c.Old).Code = 0
  new : (textFault c.New).Code = 0

theorem chk_zero {n : Nat} {c : CellChange} : chkC n c = 0 ↔ Chk n c := by
  unfold chkC
  by_cases h1 : nameC c.Key = 0
  case neg => rw [if_pos h1]; exact ⟨fun h => absurd h h1, fun h => absurd h.key h1⟩
  rw [ite_nn h1]
  by_cases h2 : c.Column < -1 ∨ c.Column ≥ (n : Int)
  · rw [if_pos h2]; exact ⟨fun h => absurd h (by decide), fun h => by have := need_iff.1 h.need; omega⟩
  rw [if_neg h2]
  by_cases h3 : needOk n c
  case neg => rw [if_pos h3]; exact ⟨fun h => absurd h (by decide), fun h => absurd h.need h3⟩
  rw [ite_nn h3]
  by_cases h4 : (textFault c.Old).Code = 0
  case neg => rw [if_pos h4]; exact ⟨fun h => absurd h h4, fun h => absurd h.old h4⟩
  rw [ite_nn h4]
  exact ⟨fun h => ⟨h1, h3, h4, h⟩, fun h => h.new⟩

theorem okTextC {l : List ByteArray} : (textFault l).Code = 0 ↔ OkText l := by rw [okText_iff, textFault_zero]

theorem set_ok {l : List ByteArray} {v : ByteArray} {q : Nat} (h : OkText l) (hv : OkLine v) : OkText (l.set q v) :=
  ⟨by rw [List.length_set]; exact h.1, fun s hs => by
    rcases List.mem_or_eq_of_mem_set hs with h1 | h1
    · exact h.2 s h1
    · rw [h1]; exact hv⟩

theorem perf_ok {n : Nat} {rows : List Row} (h : RowsOk n rows) (hn : 0 < n) (hl : rows.length ≤ 30) {c : CellChange} (hc : Chk n c) (h0 : (perfR rows c).1 = 0) : RowsOk n (perfR rows c).2 ∧ (perfR rows c).2.length ≤ 30 := by
  have hd := need_iff.1 hc.need
  unfold perfR at h0 ⊢
  by_cases c1 : c.Column = -1 ∧ c.Old = []
  · rw [if_pos c1] at h0 ⊢
    have hol : c.Old.length = 0 := by rw [c1.2]; rfl
    by_cases c2 : lkR rows c.Key = []
    case neg => rw [if_pos c2] at h0; exact absurd h0 (by decide)
    rw [ite_nn c2] at h0 ⊢
    by_cases c3 : rows.length ≥ 30
    · rw [if_pos c3] at h0; exact absurd h0 (by decide)
    rw [if_neg c3]
    have hr : RowOk n ⟨c.Key, c.New⟩ := ⟨hc.key, by show c.New.length = n; omega, hc.new⟩
    have hu := upd_len h hn c.Key c.New
    rw [if_pos c2] at hu
    refine ⟨upd_ok h (.inr hr), ?_⟩
    simp only
    split at hu <;> omega
  rw [if_neg c1] at h0 ⊢
  by_cases c2 : lkR rows c.Key = []
  · rw [if_pos c2] at h0; exact absurd h0 (by decide)
  rw [if_neg c2] at h0 ⊢
  by_cases c3 : c.Column = -1
  · rw [if_pos c3] at h0 ⊢
    by_cases c4 : lkR rows c.Key = c.Old
    case neg => rw [if_pos c4] at h0; exact absurd h0 (by decide)
    rw [ite_nn c4]
    have hu := upd_len h hn c.Key []
    rw [if_neg c2, if_pos rfl] at hu
    exact ⟨upd_ok h (.inl rfl), by simp only; omega⟩
  rw [if_neg c3] at h0 ⊢
  by_cases c4 : nth (lkR rows c.Key) c.Column.toNat = nth c.Old 0
  case neg => rw [if_pos c4] at h0; exact absurd h0 (by decide)
  rw [ite_nn c4]
  have hr := (lk_rowOk h c.Key).resolve_left c2
  have hnl : 0 < c.New.length := by omega
  have hr2 : RowOk n ⟨c.Key, (lkR rows c.Key).set c.Column.toNat (nth c.New 0)⟩ := by
    refine ⟨hc.key, ?_, okTextC.2 (set_ok (okTextC.1 hr.ok) ?_)⟩
    · have := hr.len; simp only [List.length_set] at this ⊢; exact this
    · rw [nth_at hnl]; exact (okTextC.1 hc.new).2 _ (List.getElem_mem hnl)
  have hu := upd_len h hn c.Key ((lkR rows c.Key).set c.Column.toNat (nth c.New 0))
  rw [if_neg c2] at hu
  refine ⟨upd_ok h (.inr hr2), ?_⟩
  simp only
  split at hu <;> omega

def runR : Nat → List Row → List CellChange → Fault ⊕ List Row
  | _, rows, [] => .inr rows
  | j, rows, c :: r => if (perfR rows c).1 ≠ 0 then .inl ⟨(perfR rows c).1, (j : Int)⟩ else runR (j + 1) (perfR rows c).2 r

theorem run_loop {cs : List CellChange} {n : Nat} (hcs : cs.length ≤ 1000) (hn : 0 < n) (hc : ∀ c ∈ cs, Chk n c) {f : Int × List Row → Option (Step (Int × List Row) ((Table × Fault) ⊕ List Row))}
    (hs : ∀ j (hj : j < cs.length) rows, RowsOk n rows → rows.length ≤ 30 → f ((j : Int), rows) = if (perfR rows cs[j]).1 ≠ 0 then some (.done (.inl (⟨[], []⟩, ⟨(perfR rows cs[j]).1, (j : Int)⟩))) else some (.next (((j + 1 : Nat) : Int), (perfR rows cs[j]).2)))
    (he : ∀ rows, f ((cs.length : Int), rows) = some (.done (.inr rows))) : ∀ (rest : List CellChange) (j : Nat) (rows : List Row), cs.drop j = rest → j ≤ cs.length → RowsOk n rows → rows.length ≤ 30 →
      iter f ((j : Int), rows) = some (match runR j rows rest with | .inl e => .inl (⟨[], []⟩, e) | .inr q => .inr q) := by
  intro rest
  induction rest with
  | nil =>
    intro j rows hj hjl _ _
    have h2 : cs.length ≤ j := by simpa using hj
    have e : j = cs.length := by omega
    subst e
    exact iter_done (he rows)
  | cons x r ih =>
    intro j rows hj hjl h1 h2
    obtain ⟨hlt, hx, hr⟩ := dropAt hj
    have e := hs j hlt rows h1 h2
    rw [hx] at e
    rw [runR]
    by_cases hp : (perfR rows x).1 = 0
    · rw [ite_nn hp] at e ⊢
      rw [iter_next e]
      obtain ⟨q1, q2⟩ := perf_ok h1 hn h2 (hc x (hx ▸ List.getElem_mem hlt)) hp
      exact ih (j + 1) _ hr (by omega) q1 q2
    · rw [if_pos hp] at e ⊢
      exact iter_done e

theorem clone_f {t : Table} (h : VTab t) : tablepatch_clone t = some t := by
  have h1 := h.cols.le
  have h2 := h.len
  unfold tablepatch_clone
  rw [clone_t _ (by omega), Option.bind_some]
  obtain ⟨r, e, rfl⟩ := inv_loop (f := fun s => tablepatch_clone.l1 t s.1 s.2) t.Rows.length (fun j s => s = t.Rows.take j) (fun r => r = t.Rows) (by
    rintro j s hj rfl
    have hl := (h.row _ (List.getElem_mem hj)).len
    unfold tablepatch_clone.l1
    simp only
    rw [ite_dec, if_pos (by omega), at_nat hj, Option.bind_some, clone_t _ (by omega), Option.bind_some, app_eq (by rw [List.length_take, List.length_singleton]; omega), Option.bind_some, ck_eq (by omega) (by omega), Option.bind_some]
    exact ⟨_, rfl, by rw [List.take_succ_eq_append_getElem hj]⟩) (by
    rintro s rfl
    unfold tablepatch_clone.l1
    simp only
    rw [ite_dec, if_neg (by omega), List.take_length]
    exact ⟨_, rfl, rfl⟩) [] rfl
  rw [e, Option.bind_some]
  rfl

noncomputable def chG (n : Nat) (k : Nat) (c : CellChange) : Option Fault := if chkC n c = 0 then Option.none else some ⟨chkC n c, (k : Int)⟩

noncomputable def applyT (cs : List CellChange) (t : Table) : Table × Fault :=
  if (tfault t).Code ≠ 0 then (⟨[], []⟩, ⟨(tfault t).Code, -2⟩) else if cs.length > 300 then (⟨[], []⟩, ⟨2, -1⟩)
  else match scn (chG t.Columns.length) 0 cs with
    | some f => (⟨[], []⟩, f)
    | Option.none => match runR 0 t.Rows cs with
      | .inl f => (⟨[], []⟩, f)
      | .inr rows => (⟨t.Columns, rows⟩, ⟨0, 0⟩)

theorem chG_none {n : Nat} {cs : List CellChange} : scn (chG n) 0 cs = Option.none ↔ ∀ c ∈ cs, Chk n c := by
  rw [scn_none]
  have hz : ∀ (j : Nat) (c : CellChange), chG n j c = Option.none ↔ Chk n c := by
    intro j c
    unfold chG
    rw [← chk_zero]
    by_cases h : chkC n c = 0 <;> simp [h]
  constructor
  · intro h c hc
    obtain ⟨j, hj, rfl⟩ := List.getElem_of_mem hc
    exact (hz _ _).1 (h j hj)
  · intro h j hj
    exact (hz _ _).2 (h _ (List.getElem_mem hj))

theorem vt {t : Table} (h : ¬ (tfault t).Code ≠ 0) : VTab t := by
  rw [vtab_iff]
  rcases tfault_code t with h1 | h1
  · exact h1
  · exact absurd h1 h

theorem vt0 {t : Table} (h : VTab t) : (tfault t).Code = 0 := by rw [(vtab_iff t).1 h]

theorem VTab.np {t : Table} (h : VTab t) : 0 < t.Columns.length := Nat.pos_of_ne_zero h.cols.ne

theorem Apply_f (cs : List CellChange) (t : Table) : tablepatch_Apply cs t = some (applyT cs t) := by
  unfold tablepatch_Apply applyT
  rw [Validate_f, Option.bind_some, tf_cond _ (tfault_code t), ite_dec]
  by_cases h1 : (tfault t).Code ≠ 0
  · rw [if_pos h1, if_pos h1]
  rw [if_neg h1, if_neg h1, ite_dec]
  by_cases h2 : cs.length > 300
  · rw [if_pos (by omega), if_pos h2]
  rw [if_neg (by omega), if_neg h2]
  have hv := vt h1
  have h0 := hv.np
  have h8 := hv.cols.le
  rw [scn_loop (f := fun s => tablepatch_Apply.l2 cs t s) (fun f => Sum.inl ((⟨[], []⟩ : Table), f)) (.inr ()) cs (chG t.Columns.length) ?_ ?_, Option.bind_some]
  · cases hs : scn (chG t.Columns.length) 0 cs with
    | some f => rfl
    | none =>
      simp only
      have hc := chG_none.1 hs
      unfold tablepatch_Apply.j1
      rw [clone_f hv, Option.bind_some]
      have := run_loop (f := fun s => tablepatch_Apply.l1 cs s.1 s.2) (by omega) h0 hc (fun j hj rows a b => perf_f hj (by omega) a h0 h8 b (hc _ (List.getElem_mem hj)).need) (by
        intro rows
        unfold tablepatch_Apply.l1
        simp only
        rw [ite_dec, if_neg (by omega)]) cs 0 t.Rows rfl (Nat.zero_le _) hv.ok hv.len
      have e0 : ((0 : Nat) : Int) = 0 := rfl
      rw [e0] at this
      rw [this, Option.bind_some]
      cases runR 0 t.Rows cs <;> rfl
  · intro k h _
    unfold tablepatch_Apply.l2 chG
    rw [ite_dec, if_pos (by omega), at_nat h, Option.bind_some, check_f h0 h8, Option.bind_some, ite_ndec]
    by_cases hc : chkC t.Columns.length cs[k] = 0
    · rw [if_pos hc, if_pos hc, ck_eq (by omega) (by omega), Option.bind_some]; rfl
    · rw [if_neg hc, if_neg hc]
  · unfold tablepatch_Apply.l2
    rw [ite_dec, if_neg (by omega)]

/-! taken back -/
theorem upd_back {n : Nat} {rows : List Row} (h : RowsOk n rows) (hn : 0 < n) {k : ByteArray} {c : List ByteArray} (hc : c = [] ∨ RowOk n ⟨k, c⟩) : updR (updR rows k c) k (lkR rows k) = rows := by
  have hu := upd_ok h hc
  have hr := lk_rowOk h k
  refine rows_ext (upd_ok hu hr) h hn fun k' => ?_
  rw [lk_upd hu hn hr, lk_upd h hn hc]
  by_cases e : k' = k
  · rw [if_pos e, e]
  · rw [if_neg e, if_neg e]

theorem Chk.swp {n : Nat} {c : CellChange} (h : Chk n c) : Chk n (swp c) :=
  ⟨h.key, need_iff.2 (by
    have := need_iff.1 h.need
    show (c.Column = -1 ∧ ((c.New.length = 0 ∧ c.Old.length = n) ∨ (c.Old.length = 0 ∧ c.New.length = n))) ∨ (0 ≤ c.Column ∧ c.Column < n ∧ c.New.length = 1 ∧ c.Old.length = 1)
    omega), h.new, h.old⟩

theorem perf_back {n : Nat} {rows : List Row} (h : RowsOk n rows) (hn : 0 < n) (hl : rows.length ≤ 30) {c : CellChange} (hc : Chk n c) (h0 : (perfR rows c).1 = 0) : perfR (perfR rows c).2 (swp c) = (0, rows) := by
  have hd := need_iff.1 hc.need
  unfold perfR at h0
  by_cases c1 : c.Column = -1 ∧ c.Old = []
  · have hol : c.Old.length = 0 := by rw [c1.2]; rfl
    have hnl : c.New.length = n := by omega
    have hne : c.New ≠ [] := by intro e; rw [e] at hnl; simp only [List.length_nil] at hnl; omega
    rw [if_pos c1] at h0
    by_cases c2 : lkR rows c.Key = []
    case neg => rw [if_pos c2] at h0; exact absurd h0 (by decide)
    rw [ite_nn c2] at h0
    by_cases c3 : rows.length ≥ 30
    · rw [if_pos c3] at h0; exact absurd h0 (by decide)
    have e : perfR rows c = (0, updR rows c.Key c.New) := by unfold perfR; rw [if_pos c1, ite_nn c2, if_neg c3]
    have hr : c.New = [] ∨ RowOk n ⟨c.Key, c.New⟩ := .inr ⟨hc.key, hnl, hc.new⟩
    have hlk : lkR (updR rows c.Key c.New) c.Key = c.New := by rw [lk_upd h hn hr, if_pos rfl]
    have hb := upd_back h hn hr
    rw [c2] at hb
    rw [e]
    unfold perfR Dc.swp
    simp only
    rw [if_neg (fun hh => hne hh.2), hlk, if_neg hne, if_pos c1.1, ite_nn rfl, hb]
  rw [if_neg c1] at h0
  by_cases c2 : lkR rows c.Key = []
  · rw [if_pos c2] at h0; exact absurd h0 (by decide)
  rw [if_neg c2] at h0
  by_cases c3 : c.Column = -1
  · rw [if_pos c3] at h0
    by_cases c4 : lkR rows c.Key = c.Old
    case neg => rw [if_pos c4] at h0; exact absurd h0 (by decide)
    have hone : c.Old.length ≠ 0 := fun e => c1 ⟨c3, List.length_eq_zero_iff.1 e⟩
    have hn0 : c.New = [] := List.length_eq_zero_iff.1 (by omega)
    have e : perfR rows c = (0, updR rows c.Key []) := by unfold perfR; rw [if_neg c1, if_neg c2, if_pos c3, ite_nn c4]
    have hlk : lkR (updR rows c.Key []) c.Key = [] := by rw [lk_upd h hn (.inl rfl), if_pos rfl]
    have hb := upd_back h hn (k := c.Key) (c := []) (.inl rfl)
    have hu := upd_len h hn c.Key []
    rw [if_neg c2, if_pos rfl] at hu
    rw [e]
    unfold perfR Dc.swp
    simp only
    rw [if_pos ⟨c3, hn0⟩, hlk, ite_nn rfl, if_neg (by omega), ← c4, hb]
  rw [if_neg c3] at h0
  by_cases c4 : nth (lkR rows c.Key) c.Column.toNat = nth c.Old 0
  case neg => rw [if_pos c4] at h0; exact absurd h0 (by decide)
  have e : perfR rows c = (0, updR rows c.Key ((lkR rows c.Key).set c.Column.toNat (nth c.New 0))) := by unfold perfR; rw [if_neg c1, if_neg c2, if_neg c3, ite_nn c4]
  have hr := (lk_rowOk h c.Key).resolve_left c2
  have hlen : (lkR rows c.Key).length = n := hr.len
  have hnl : 0 < c.New.length := by omega
  have hq : c.Column.toNat < n := by omega
  have hr2 : (lkR rows c.Key).set c.Column.toNat (nth c.New 0) = [] ∨ RowOk n ⟨c.Key, (lkR rows c.Key).set c.Column.toNat (nth c.New 0)⟩ := .inr (by
    refine ⟨hc.key, ?_, okTextC.2 (set_ok (okTextC.1 hr.ok) ?_)⟩
    · simp only [List.length_set]; exact hlen
    · rw [nth_at hnl]; exact (okTextC.1 hc.new).2 _ (List.getElem_mem hnl))
  have hlk : lkR (updR rows c.Key ((lkR rows c.Key).set c.Column.toNat (nth c.New 0))) c.Key = (lkR rows c.Key).set c.Column.toNat (nth c.New 0) := by rw [lk_upd h hn hr2, if_pos rfl]
  have hb := upd_back h hn hr2
  have hne : (lkR rows c.Key).set c.Column.toNat (nth c.New 0) ≠ [] := by
    intro e
    have := congrArg List.length e
    rw [List.length_set, hlen] at this
    simp only [List.length_nil] at this; omega
  have hset : ((lkR rows c.Key).set c.Column.toNat (nth c.New 0)).set c.Column.toNat (nth c.Old 0) = lkR rows c.Key := by
    rw [List.set_set, ← c4, nth_at (by omega), List.set_getElem_self]
  have hnth : nth ((lkR rows c.Key).set c.Column.toNat (nth c.New 0)) c.Column.toNat = nth c.New 0 := by
    rw [nth_at (by rw [List.length_set]; omega), List.getElem_set_self]
  rw [e]
  unfold perfR Dc.swp
  simp only
  rw [if_neg (fun hh => c3 hh.1), hlk, if_neg hne, if_neg c3, hnth, ite_nn rfl, hset, hb]

theorem run_app : ∀ (a b : List CellChange) (j : Nat) (rows : List Row), runR j rows (a ++ b) = match runR j rows a with | .inl e => .inl e | .inr q => runR (j + a.length) q b
  | [], b, j, rows => rfl
  | c :: r, b, j, rows => by
    rw [List.cons_append, runR, runR]
    by_cases h : (perfR rows c).1 = 0
    · rw [ite_nn h, ite_nn h, run_app r b, List.length_cons, show j + (r.length + 1) = j + 1 + r.length by omega]
    · rw [if_pos h, if_pos h]

theorem run_ok {n : Nat} (hn : 0 < n) : ∀ (cs : List CellChange) (j : Nat) (rows q : List Row), (∀ c ∈ cs, Chk n c) → RowsOk n rows → rows.length ≤ 30 → runR j rows cs = .inr q → RowsOk n q ∧ q.length ≤ 30
  | [], j, rows, q, _, h, hl, e => by cases e; exact ⟨h, hl⟩
  | c :: r, j, rows, q, hc, h, hl, e => by
    rw [runR] at e
    by_cases h0 : (perfR rows c).1 = 0
    · rw [ite_nn h0] at e
      obtain ⟨a, b⟩ := perf_ok h hn hl (hc c (List.mem_cons_self ..)) h0
      exact run_ok hn r _ _ q (fun x hx => hc x (List.mem_cons_of_mem _ hx)) a b e
    · rw [if_pos h0] at e; cases e

theorem run_back {n : Nat} (hn : 0 < n) : ∀ (cs : List CellChange) (j i : Nat) (rows q : List Row), (∀ c ∈ cs, Chk n c) → RowsOk n rows → rows.length ≤ 30 → runR j rows cs = .inr q → runR i q (cs.map swp).reverse = .inr rows
  | [], j, i, rows, q, _, h, hl, e => by cases e; rfl
  | c :: r, j, i, rows, q, hc, h, hl, e => by
    rw [runR] at e
    by_cases h0 : (perfR rows c).1 = 0
    · rw [ite_nn h0] at e
      have hcc := hc c (List.mem_cons_self ..)
      obtain ⟨a, b⟩ := perf_ok h hn hl hcc h0
      have ih := run_back hn r (j + 1) i _ q (fun x hx => hc x (List.mem_cons_of_mem _ hx)) a b e
      have hb := perf_back h hn hl hcc h0
      rw [List.map_cons, List.reverse_cons, run_app, ih]
      simp only
      rw [runR, hb, ite_nn rfl, runR]
    · rw [if_pos h0] at e; cases e

theorem undone_f (l : List CellChange) (hl : l.length ≤ 1000) : changeforgelaw2_undone l = some (l.map swp).reverse := by
  unfold changeforgelaw2_undone changeforgelaw2_undone.j1
  rw [ck_eq (by omega) (by omega), Option.bind_some]
  obtain ⟨r, e, rfl⟩ := iter_rule (m := fun s => changeforgelaw2_undone.l1 l s.1 s.2)
    (fun s => ∃ k : Nat, k ≤ l.length ∧ s = ((k : Int) - 1, ((l.drop k).map swp).reverse)) (fun s => (s.1 + 1).toNat) (fun r => r = (l.map swp).reverse) (by
    rintro s ⟨k, hk, rfl⟩
    unfold changeforgelaw2_undone.l1
    simp only
    rw [ite_dec]
    by_cases h0 : k = 0
    · subst h0
      right
      rw [if_neg (by omega)]
      exact ⟨_, rfl, rfl⟩
    · left
      obtain ⟨p, rfl⟩ := Nat.exists_eq_succ_of_ne_zero h0
      have e : ((p.succ : Nat) : Int) - 1 = (p : Int) := by omega
      have hp : p < l.length := by omega
      rw [if_pos (by omega), e, at_nat hp]
      simp only [Option.bind_some]
      rw [app_eq (by rw [List.length_reverse, List.length_map, List.length_drop, List.length_singleton]; omega), Option.bind_some, ck_eq (by omega) (by omega), Option.bind_some]
      refine ⟨_, rfl, ⟨p, by omega, ?_⟩, by simp only; omega⟩
      rw [List.drop_eq_getElem_cons hp, List.map_cons, List.reverse_cons]
      rfl) ((l.length : Int) - 1, []) ⟨l.length, Nat.le_refl _, by rw [List.drop_length]; rfl⟩
  rw [e, Option.bind_some]

theorem applyT_ok {cs : List CellChange} {t : Table} (h : (applyT cs t).2.Code = 0) : VTab t ∧ cs.length ≤ 300 ∧ (∀ c ∈ cs, Chk t.Columns.length c) ∧ ∃ q, runR 0 t.Rows cs = .inr q ∧ applyT cs t = (⟨t.Columns, q⟩, ⟨0, 0⟩) := by
  unfold applyT at h ⊢
  by_cases h1 : (tfault t).Code ≠ 0
  · rw [if_pos h1] at h; exact absurd h h1
  rw [if_neg h1] at h ⊢
  by_cases h2 : cs.length > 300
  · rw [if_pos h2] at h; exact absurd h (by decide)
  rw [if_neg h2] at h ⊢
  refine ⟨vt h1, by omega, ?_⟩
  cases hs : scn (chG t.Columns.length) 0 cs with
  | some f =>
    rw [hs] at h
    obtain ⟨j, hj, he⟩ := scn_some hs
    unfold chG at he
    split at he
    · cases he
    · rename_i hc
      cases he
      exact absurd h hc
  | none =>
    rw [hs] at h
    refine ⟨chG_none.1 hs, ?_⟩
    simp only at h ⊢
    cases hr : runR 0 t.Rows cs with
    | inr q => exact ⟨q, rfl, rfl⟩
    | inl f =>
      rw [hr] at h
      exfalso
      have key : ∀ (l : List CellChange) (j : Nat) (rows : List Row) (f : Fault), runR j rows l = .inl f → f.Code ≠ 0 := by
        intro l
        induction l with
        | nil => intro j rows f e; cases e
        | cons c r ih =>
          intro j rows f e
          rw [runR] at e
          by_cases h0 : (perfR rows c).1 = 0
          · rw [ite_nn h0] at e; exact ih _ _ _ e
          · rw [if_pos h0] at e; cases e; exact h0
      exact key _ _ _ _ hr h

theorem applyT_run {cs : List CellChange} {t : Table} (h : VTab t) (hl : cs.length ≤ 300) (hc : ∀ c ∈ cs, Chk t.Columns.length c) : applyT cs t = match runR 0 t.Rows cs with
      | .inl f => (⟨[], []⟩, f)
      | .inr rows => (⟨t.Columns, rows⟩, ⟨0, 0⟩) := by
  unfold applyT
  rw [ite_nn (vt0 h), if_neg (by omega), chG_none.2 hc]

theorem tab_self {t : Table} (h : VTab t) : changeforgeequal_Table t t = some true := by
  have h1 := h.cols.le
  have h2 := h.len
  exact tbl_refl t (by omega) (by omega) fun r hr => by have := (h.row r hr).len; omega

theorem undo_eq (l : List CellChange) (t : Table) : changeforgelaw2_TablepatchUndo l t = some true := by
  unfold changeforgelaw2_TablepatchUndo
  rw [Apply_f, Option.bind_some, ite_ndec]
  by_cases h : (applyT l t).2.Code = 0
  case neg => rw [if_neg h, both_f, Option.bind_some]
  rw [if_pos h]
  obtain ⟨hv, hl, hc, q, hr, e⟩ := applyT_ok h
  have h0 := hv.np
  obtain ⟨q1, q2⟩ := run_ok h0 l 0 t.Rows q hc hv.ok hv.len hr
  have hb := run_back h0 l 0 0 t.Rows q hc hv.ok hv.len hr
  have hv2 : VTab ⟨t.Columns, q⟩ := ⟨hv.cols, q2, q1.row, q1.asc⟩
  rw [undone_f _ (by omega), Option.bind_some, e, Apply_f, Option.bind_some]
  have e2 : applyT (l.map swp).reverse ⟨t.Columns, q⟩ = (t, ⟨0, 0⟩) := by
    rw [applyT_run hv2 (by rw [List.length_reverse, List.length_map]; exact hl) (fun c hh => by
      rw [List.mem_reverse, List.mem_map] at hh
      obtain ⟨d, hd, rfl⟩ := hh
      exact (hc d hd).swp)]
    show (match runR 0 q (l.map swp).reverse with
      | .inl f => ((⟨[], []⟩ : Table), f)
      | .inr rows => (⟨t.Columns, rows⟩, (⟨0, 0⟩ : Fault))) = _
    rw [hb]
  rw [e2]
  unfold changeforgelaw2_TablepatchUndo.j1
  simp only [decide_true, if_true]
  rw [tab_self hv]
  simp only [Option.bind_some, if_true]
  rw [both_f]
  rfl
end Go.Dc
