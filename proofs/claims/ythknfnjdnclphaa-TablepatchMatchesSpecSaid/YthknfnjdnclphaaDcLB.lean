/- Tables: finding rows, the keys of tables. -/
import Derived.Test.YthknfnjdnclphaaDcLA
set_option linter.unusedSimpArgs false
set_option linter.unusedVariables false
namespace Go.Dc
open Go

theorem shr1w {b : Int} (h : 0 ≤ b) : shr? .u64 b 1 = some (b / 2) := by
  unfold shr?
  rw [if_neg (by decide)]
  have : (2 : Int) ^ (min (1 : Int).toNat IntKind.u64.bits) = 2 := by decide
  rw [this, Int.fdiv_eq_ediv_of_nonneg _ (by decide)]

theorem ckW {x : Int} (h1 : 0 ≤ x) (h2 : x ≤ 9223372036854775807) : ckK .u64 x = some x := by
  unfold ckK inK
  have : IntKind.u64.wrap x = x := by
    simp [IntKind.wrap, IntKind.bits, IntKind.signed]
    omega
  rw [if_pos (decide_eq_true this)]

theorem finds_t (r : Row) (p : ByteArray) : tablepatch_find_s1 r p = some (cmpB r.Key p) := rfl

def RAsc (l : List Row) : Prop := l.Pairwise fun x y => sLt x.Key y.Key = true

theorem rasc_lt {l : List Row} (h : RAsc l) {p : ByteArray} {i j : Nat} (hi : i < l.length) (hj : j < l.length) (hij : i ≤ j) (hl : sLt l[j].Key p = true) : sLt l[i].Key p = true := by
  by_cases e : i = j
  · subst e; exact hl
  · exact sLt_trans ((List.pairwise_iff_getElem.1 h) i j hi hj (by omega)) hl

theorem find_f {l : List Row} (h : RAsc l) (hl : l.length ≤ 1000000) (p : ByteArray) :
    ∃ q b, tablepatch_find l p = some (q, b) ∧ (b = true → ∃ k, ∃ hk : k < l.length, q = (k : Int) ∧ l[k].Key = p) ∧ (b = false → ∀ r ∈ l, r.Key ≠ p) := by
  obtain ⟨q, e, k, rfl, hk, h1, h2⟩ := iter_rule (m := fun s => tablepatch_find.l1 l p s.1 s.2)
    (fun s => ∃ lo hi : Nat, s = ((hi : Int), (lo : Int)) ∧ lo ≤ hi ∧ hi ≤ l.length ∧ (∀ i (hi : i < l.length), i < lo → sLt l[i].Key p = true) ∧ (∀ i (hi' : i < l.length), hi ≤ i → sLt l[i].Key p = false))
    (fun s => s.1.toNat - s.2.toNat)
    (fun q => ∃ k : Nat, q = (k : Int) ∧ k ≤ l.length ∧ (∀ i (hi : i < l.length), i < k → sLt l[i].Key p = true) ∧ (∀ i (hi : i < l.length), k ≤ i → sLt l[i].Key p = false)) (by
    rintro s ⟨lo, hi, rfl, hlh, hhl, h1, h2⟩
    unfold tablepatch_find.l1
    simp only
    by_cases hlt : lo < hi
    · left
      have hm : (((lo : Int) + hi) / 2) = ((lo + hi) / 2 : Nat) := by omega
      have hml : (lo + hi) / 2 < l.length := by omega
      rw [decide_eq_true (by omega : (lo : Int) < hi), if_pos rfl, ck_eq (by omega) (by omega), Option.bind_some, ckW (by omega) (by omega), Option.bind_some, shr1w (by omega), Option.bind_some, hm, ck_eq (by omega) (by omega), Option.bind_some, at_nat hml, Option.bind_some, finds_t, Option.bind_some, cmpB_neg]
      cases hc : sLt l[(lo + hi) / 2].Key p
      · rw [if_neg Bool.false_ne_true]
        refine ⟨_, rfl, ⟨lo, (lo + hi) / 2, rfl, by omega, by omega, h1, fun i hi' hle => ?_⟩, by simp only; omega⟩
        cases hx : sLt l[i].Key p
        · rfl
        · have := rasc_lt h hml hi' hle hx
          rw [this] at hc; cases hc
      · rw [if_pos rfl, ck_eq (by omega) (by omega), Option.bind_some]
        exact ⟨_, rfl, ⟨(lo + hi) / 2 + 1, hi, rfl, by omega, by omega, fun i hi' hle => rasc_lt h hi' hml (by omega) hc, h2⟩, by simp only; omega⟩
    · right
      rw [decide_eq_false (by omega), if_neg Bool.false_ne_true]
      exact ⟨_, rfl, lo, rfl, by omega, h1, fun i hi' hle => h2 i hi' (by omega)⟩)
    ((l.length : Int), 0) ⟨0, l.length, rfl, Nat.zero_le _, Nat.le_refl _, fun i _ h => absurd h (by omega), fun i hi h => absurd h (by omega)⟩
  unfold tablepatch_find tablepatch_find.j1
  rw [e, Option.bind_some, ite_dec]
  by_cases hkl : k < l.length
  · rw [if_pos (by omega), at_nat hkl, Option.bind_some, finds_t, Option.bind_some, cmpB_zero, Option.bind_some]
    refine ⟨_, _, rfl, fun hb => ⟨k, hkl, rfl, of_decide_eq_true hb⟩, fun hb r hr he => ?_⟩
    have hne := of_decide_eq_false hb
    obtain ⟨i, hi, rfl⟩ := List.getElem_of_mem hr
    rcases Nat.lt_trichotomy i k with h3 | h3 | h3
    · have := h1 i hi h3; rw [he, sLt_irr] at this; cases this
    · subst h3; exact hne he
    · have := (List.pairwise_iff_getElem.1 h) k i hkl hi h3
      rw [he, h2 k hkl (Nat.le_refl _)] at this; cases this
  · rw [if_neg (by omega), Option.bind_some]
    refine ⟨_, _, rfl, fun hb => (by cases hb), fun _ r hr he => ?_⟩
    obtain ⟨i, hi, rfl⟩ := List.getElem_of_mem hr
    have := h1 i hi (by omega)
    rw [he, sLt_irr] at this; cases this

/-- the cells of a row, or none -/
def cellsL (t : Table) (k : ByteArray) : List ByteArray := match t.Rows.find? (fun r => decide (r.Key = k)) with
  | some r => r.Cells
  | Option.none => []

theorem rasc_inj {l : List Row} (h : RAsc l) {x y : Row} (hx : x ∈ l) (hy : y ∈ l) (he : x.Key = y.Key) : x = y := by
  obtain ⟨i, hi, rfl⟩ := List.getElem_of_mem hx
  obtain ⟨j, hj, rfl⟩ := List.getElem_of_mem hy
  rcases Nat.lt_trichotomy i j with h1 | h1 | h1
  · have := (List.pairwise_iff_getElem.1 h) i j hi hj h1; rw [he, sLt_irr] at this; cases this
  · subst h1; rfl
  · have := (List.pairwise_iff_getElem.1 h) j i hj hi h1; rw [he, sLt_irr] at this; cases this

theorem cellsL_mem {t : Table} (h : RAsc t.Rows) {r : Row} (hr : r ∈ t.Rows) : cellsL t r.Key = r.Cells := by
  unfold cellsL
  cases hf : t.Rows.find? (fun q => decide (q.Key = r.Key)) with
  | some q =>
    have h1 := List.mem_of_find?_eq_some hf
    have h2 := List.find?_some hf
    have := rasc_inj h h1 hr (of_decide_eq_true h2)
    rw [this]
  | none =>
    have := List.find?_eq_none.1 hf r hr
    simp at this

theorem cellsL_none {t : Table} {k : ByteArray} (h : ∀ r ∈ t.Rows, r.Key ≠ k) : cellsL t k = [] := by
  unfold cellsL
  rw [List.find?_eq_none.2 (fun r hr => by simpa using h r hr)]

theorem cellsL_len {t : Table} (h : VTab t) (k : ByteArray) : cellsL t k = [] ∨ ((cellsL t k).length = t.Columns.length ∧ ⟨k, cellsL t k⟩ ∈ t.Rows) := by
  by_cases hx : ∃ r ∈ t.Rows, r.Key = k
  · obtain ⟨r, hr, rfl⟩ := hx
    right
    rw [cellsL_mem h.asc hr]
    exact ⟨(h.row r hr).len, hr⟩
  · left
    exact cellsL_none fun r hr he => hx ⟨r, hr, he⟩

theorem cellsL_ne {t : Table} (h : VTab t) {k : ByteArray} : cellsL t k ≠ [] ↔ ∃ r ∈ t.Rows, r.Key = k := by
  constructor
  · intro hn
    rcases cellsL_len h k with h1 | ⟨_, h2⟩
    · exact absurd h1 hn
    · exact ⟨_, h2, rfl⟩
  · rintro ⟨r, hr, rfl⟩ he
    rw [cellsL_mem h.asc hr] at he
    have := (h.row r hr).len
    rw [he] at this
    exact h.cols.ne this.symm

theorem neE_some {l : List ByteArray} (h : l ≠ []) : neE? l = some () := by
  unfold neE?
  cases l with
  | nil => exact absurd rfl h
  | cons x r => rfl

theorem get_f {t : Table} (h : VTab t) (k : ByteArray) : tablepatch_get t k = some (cellsL t k) := by
  unfold tablepatch_get
  obtain ⟨q, b, e, h1, h2⟩ := find_f h.asc (by have := h.len; omega) k
  rw [e, Option.bind_some]
  simp only
  cases b with
  | false => rw [if_pos (show (!false) = true from rfl), cellsL_none (h2 rfl)]
  | true =>
    obtain ⟨i, hi, rfl, rfl⟩ := h1 rfl
    have hm := List.getElem_mem hi
    rw [if_neg (show ¬ (!true) = true by decide), at_nat hi, Option.bind_some, cellsL_mem h.asc hm, neE_some (fun he => by have := (h.row _ hm).len; rw [he] at this; exact h.cols.ne this.symm), Option.bind_some]

theorem cellsOf_f {t : Table} (h : VTab t) (k : ByteArray) : changeforgeref2_cellsOf t k = some (cellsL t k) := by
  unfold changeforgeref2_cellsOf changeforgeref2_RowAt
  have hl := h.len
  rw [any_loop (f := fun s => changeforgeref2_RowAt.l1 t k s) (fun i => .inl (i : Int)) (.inr ()) t.Rows (fun r => decide (r.Key = k)) ?_ ?_, Option.bind_some]
  · have key : ∀ (l : List Row) (j : Nat), t.Rows.drop j = l → firstB (fun r => decide (r.Key = k)) j l = Option.none ∨ ∃ i, ∃ hi : i < t.Rows.length, firstB (fun r => decide (r.Key = k)) j l = some i ∧ t.Rows[i].Key = k := by
      intro l
      induction l with
      | nil => intro j _; exact .inl rfl
      | cons x r ih =>
        intro j hj
        obtain ⟨hlt, hx, hr⟩ := dropAt hj
        rw [firstB]
        by_cases hk : x.Key = k
        · rw [if_pos (decide_eq_true hk)]
          exact .inr ⟨j, hlt, rfl, by rw [hx]; exact hk⟩
        · rw [if_neg (by simpa using hk)]
          exact ih (j + 1) hr
    rcases key t.Rows 0 rfl with h1 | ⟨i, hi, h1, h2⟩
    · rw [h1]
      have := firstB_none.1 h1
      rw [List.any_eq_false] at this
      rw [cellsL_none (fun r hr => by have := this r hr; simpa using this)]
      rfl
    · rw [h1]
      subst h2
      rw [cellsL_mem h.asc (List.getElem_mem hi)]
      simp only [Option.bind_some]
      rw [ite_dec, if_pos (by omega), at_nat hi, Option.bind_some]
  · intro i hi
    unfold changeforgeref2_RowAt.l1
    rw [ite_dec, if_pos (by omega), at_nat hi, Option.bind_some]
    by_cases hk : t.Rows[i].Key = k
    · rw [if_pos (decide_eq_true hk), if_pos (decide_eq_true hk)]
    · rw [if_neg (by simpa using hk), if_neg (by simpa using hk), ck_eq (by omega) (by omega), Option.bind_some]; rfl
  · unfold changeforgeref2_RowAt.l1
    rw [ite_dec, if_neg (by omega)]

/-! keys -/
def keysR (l : List Row) : List ByteArray := l.map (·.Key)

theorem ksort_congr {l m : List ByteArray} (h : ∀ z, z ∈ l ↔ z ∈ m) : ksort l = ksort m :=
  sasc_uniq (ksort_asc l) (ksort_asc m) fun z => by rw [ksort_mem, ksort_mem, h]

theorem krow_f (t : Table) (hl : t.Rows.length ≤ 1000) (acc : List ByteArray) (ha : acc.length ≤ 10000) :
    iter (fun s => tablepatch_keys.l2 t s.1 s.2) (0, acc) = some (acc ++ keysR t.Rows) := by
  obtain ⟨r, e, rfl⟩ := inv_loop (f := fun s => tablepatch_keys.l2 t s.1 s.2) t.Rows.length (fun k x => x = acc ++ keysR (t.Rows.take k)) (fun x => x = acc ++ keysR t.Rows) (by
    rintro k x hk rfl
    unfold tablepatch_keys.l2
    simp only
    have hlen : (keysR (t.Rows.take k)).length = k := by unfold keysR; rw [List.length_map, List.length_take]; omega
    refine ⟨_, ?_, rfl⟩
    rw [ite_dec, if_pos (by omega), at_nat hk, Option.bind_some, app_eq (by simp only [List.length_append, hlen, List.length_singleton]; omega), Option.bind_some, ck_eq (by omega) (by omega), Option.bind_some]
    unfold keysR
    rw [List.take_succ_eq_append_getElem hk, List.map_append, List.append_assoc]; rfl) (by
    rintro x rfl
    unfold tablepatch_keys.l2
    simp only
    rw [ite_dec, if_neg (by omega), List.take_length]
    exact ⟨_, rfl, rfl⟩) acc (by simp [keysR])
  exact e

theorem keys_f (ts : List Table) (hn : ts.length ≤ 8) (hr : ∀ t ∈ ts, t.Rows.length ≤ 30) : tablepatch_keys ts = some (ksort (ts.flatMap fun t => keysR t.Rows)) := by
  unfold tablepatch_keys
  have hlen : ∀ l : List Table, (∀ t ∈ l, t.Rows.length ≤ 30) → (l.flatMap fun t => keysR t.Rows).length ≤ 30 * l.length := by
    intro l
    induction l with
    | nil => intro _; simp
    | cons t l ih =>
      intro h
      have h1 := ih (fun t ht => h t (by simp [ht]))
      have h2 := h t (by simp)
      rw [List.flatMap_cons, List.length_append, List.length_cons]
      have : (keysR t.Rows).length = t.Rows.length := by simp [keysR]
      omega
  obtain ⟨r, e, rfl⟩ := inv_loop (f := fun s => tablepatch_keys.l1 ts s.1 s.2) ts.length (fun k x => x = (ts.take k).flatMap fun t => keysR t.Rows) (fun x => x = ts.flatMap fun t => keysR t.Rows) (by
    rintro k x hk rfl
    unfold tablepatch_keys.l1
    simp only
    have h1 := hlen (ts.take k) (fun t ht => hr t (List.mem_of_mem_take ht))
    rw [List.length_take] at h1
    have h2 := hr _ (List.getElem_mem hk)
    refine ⟨_, ?_, rfl⟩
    rw [ite_dec, if_pos (by omega), at_nat hk, Option.bind_some, krow_f _ (by omega) _ (by omega), Option.bind_some]
    unfold tablepatch_keys.j3 tablepatch_keys.j2
    rw [ck_eq (by omega) (by omega), Option.bind_some, List.take_succ_eq_append_getElem hk, List.flatMap_append]
    simp) (by
    rintro x rfl
    unfold tablepatch_keys.l1
    simp only
    rw [ite_dec, if_neg (by omega), List.take_length]
    exact ⟨_, rfl, rfl⟩) [] rfl
  rw [e, Option.bind_some]
  have h1 := hlen ts hr
  unfold tablepatch_keys.j1
  have hs : sortS? (ts.flatMap fun t => keysR t.Rows) = some (sortS (ts.flatMap fun t => keysR t.Rows)) := by
    unfold sortS?; rw [if_pos (by omega)]
  rw [hs, Option.bind_some, scompact_f (by rw [(sortS_perm _).length_eq]; omega), Option.bind_some]; rfl

theorem ksort_add {L L' : List ByteArray} {s : ByteArray} (h : ∀ z ∈ L, sLt s z = false) (h' : ∀ z, z ∈ L' ↔ z ∈ L ∨ z = s) : ksort L' = if (ksort L).getLast? = some s then ksort L else ksort L ++ [s] := by
  by_cases hl : (ksort L).getLast? = some s
  · rw [if_pos hl]
    refine ksort_congr fun z => ?_
    rw [h']
    constructor
    · rintro (h1 | rfl)
      · exact h1
      · exact (ksort_mem L z).1 (List.mem_of_getLast? hl)
    · exact .inl
  · rw [if_neg hl]
    refine sasc_uniq (ksort_asc _) ?_ fun z => by rw [ksort_mem, h', List.mem_append, ksort_mem, List.mem_singleton]
    unfold SAsc
    rw [List.pairwise_append]
    refine ⟨ksort_asc L, by simp, fun x hx y hy => ?_⟩
    rw [List.mem_singleton] at hy
    subst hy
    rcases sLt_not (h x ((ksort_mem L x).1 hx)) with h1 | h1
    · subst h1
      exfalso
      apply hl
      -- x is the greatest of all
      have hpos : 0 < (ksort L).length := List.length_pos_of_mem hx
      rw [slast_at hpos]
      congr 1
      obtain ⟨i, hi, e⟩ := List.getElem_of_mem hx
      by_cases hil : i = (ksort L).length - 1
      · subst hil; exact e
      · have h2 := (List.pairwise_iff_getElem.1 (ksort_asc L)) i ((ksort L).length - 1) hi (by omega) (by omega)
        rw [e] at h2
        have h3 := h _ ((ksort_mem L _).1 (List.getElem_mem (l := ksort L) (n := (ksort L).length - 1) (by omega)))
        rw [h3] at h2; cases h2
    · exact h1

theorem ksort_nil : ksort [] = [] := List.eq_nil_iff_forall_not_mem.2 (fun z h => by rw [ksort_mem] at h; cases h)

theorem Keys_f {a b : List Row} (ha : RAsc a) (hb : RAsc b) (hla : a.length ≤ 1000) (hlb : b.length ≤ 1000) : changeforgeref2_Keys a b = some (ksort (keysR a ++ keysR b)) := by
  unfold changeforgeref2_Keys
  obtain ⟨r, e, rfl⟩ := iter_rule (m := fun s => changeforgeref2_Keys.l1 a b s.1 s.2.1 s.2.2)
    (fun s => ∃ i k : Nat, i ≤ a.length ∧ k ≤ b.length ∧ s = ((k : Int), (i : Int), ksort (keysR (a.take i) ++ keysR (b.take k))) ∧ (∀ z ∈ keysR (a.take i) ++ keysR (b.take k), (∀ j (h : j < a.length), i ≤ j → sLt a[j].Key z = false) ∧ (∀ j (h : j < b.length), k ≤ j → sLt b[j].Key z = false)))
    (fun s => (a.length - s.2.1.toNat) + (b.length - s.1.toNat))
    (fun r => r = ksort (keysR a ++ keysR b)) (by
    rintro s ⟨i, k, hi, hk, rfl, hord⟩
    unfold changeforgeref2_Keys.l1
    simp only
    have hc1 : (if decide ((i : Int) < (a.length : Int)) = true then some true else some (decide ((k : Int) < (b.length : Int)))) = some (decide (i < a.length ∨ k < b.length)) := by
      by_cases h1 : i < a.length
      · have : (i : Int) < a.length := by omega
        simp [h1, this]
      · have : ¬ (i : Int) < a.length := by omega
        by_cases h2 : k < b.length
        · have : (k : Int) < b.length := by omega
          simp [*]
        · have : ¬ (k : Int) < b.length := by omega
          simp [*]
    rw [hc1, Option.bind_some, ite_dec]
    by_cases hmore : i < a.length ∨ k < b.length
    · left
      rw [if_pos hmore]
      have hkl : (ksort (keysR (a.take i) ++ keysR (b.take k))).length ≤ 2000 := by
        refine Nat.le_trans (ksort_len _) ?_
        simp [keysR]; omega
      -- the step for a string s
      have step : ∀ (s : ByteArray) (i' k' : Nat), i' ≤ a.length → k' ≤ b.length → i + k < i' + k' → (i ≤ i' ∧ k ≤ k') → (∀ z, z ∈ keysR (a.take i') ++ keysR (b.take k') ↔ z ∈ keysR (a.take i) ++ keysR (b.take k) ∨ z = s) →
          (∀ z ∈ keysR (a.take i) ++ keysR (b.take k), sLt s z = false) → (∀ j (h : j < a.length), i' ≤ j → sLt a[j].Key s = false) → (∀ j (h : j < b.length), k' ≤ j → sLt b[j].Key s = false) →
          (∃ s', changeforgeref2_Keys.j2 (ksort (keysR (a.take i) ++ keysR (b.take k))) (i' : Int) s (k' : Int) = some (.next s') ∧
            (∃ i k : Nat, i ≤ a.length ∧ k ≤ b.length ∧ s' = ((k : Int), (i : Int), ksort (keysR (a.take i) ++ keysR (b.take k))) ∧ (∀ z ∈ keysR (a.take i) ++ keysR (b.take k), (∀ j (h : j < a.length), i ≤ j → sLt a[j].Key z = false) ∧ (∀ j (h : j < b.length), k ≤ j → sLt b[j].Key z = false))) ∧
            (a.length - s'.2.1.toNat) + (b.length - s'.1.toNat) < (a.length - (i : Int).toNat) + (b.length - (k : Int).toNat)) := by
        intro s i' k' hi' hk' hlt hle hmem hsz hja hjb
        have hadd := ksort_add hsz hmem
        have hord' : ∀ z ∈ keysR (a.take i') ++ keysR (b.take k'), (∀ j (h : j < a.length), i' ≤ j → sLt a[j].Key z = false) ∧ (∀ j (h : j < b.length), k' ≤ j → sLt b[j].Key z = false) := by
          intro z hz
          rcases (hmem z).1 hz with h1 | rfl
          · exact ⟨fun j h h2 => (hord z h1).1 j h (by omega), fun j h h2 => (hord z h1).2 j h (by omega)⟩
          · exact ⟨hja, hjb⟩
        unfold changeforgeref2_Keys.j2
        generalize hK : ksort (keysR (a.take i) ++ keysR (b.take k)) = K at hadd hkl
        have hcnd : (if decide ((K.length : Int) = 0) = true then some true else (ckK .i64 ((K.length : Int) - 1)).bind fun z1 => (at? K z1).bind fun y1 => some (!decide (y1 = s))) = some (decide (K.getLast? ≠ some s)) := by
          rw [ite_dec]
          by_cases h0 : K.length = 0
          · rw [if_pos (by omega)]
            have : K = [] := List.eq_nil_of_length_eq_zero h0
            subst this
            rfl
          · rw [if_neg (by omega), ck_eq (by omega) (by omega), Option.bind_some, show ((K.length : Int) - 1) = ((K.length - 1 : Nat) : Int) by omega, at_nat (by omega), Option.bind_some, slast_at (by omega)]
            simp
        rw [hcnd, Option.bind_some, ite_dec]
        by_cases h1 : K.getLast? = some s
        · rw [if_neg (fun h => h h1)]
          rw [if_pos h1] at hadd
          refine ⟨_, rfl, ⟨i', k', hi', hk', by rw [hadd], hord'⟩, ?_⟩
          simp only; omega
        · rw [if_pos h1, app_eq (by simp only [List.length_singleton]; omega), Option.bind_some]
          rw [if_neg h1] at hadd
          refine ⟨_, rfl, ⟨i', k', hi', hk', by rw [hadd], hord'⟩, ?_⟩
          simp only; omega
      have hstepa : ∀ (h1 : i < a.length), (∀ j (h : j < b.length), k ≤ j → sLt b[j].Key a[i].Key = false) → _ := fun h1 hj => step a[i].Key (i + 1) k h1 hk (by omega) ⟨by omega, Nat.le_refl _⟩ (fun z => by
          unfold keysR
          rw [List.take_succ_eq_append_getElem h1, List.map_append, List.mem_append, List.mem_append, List.mem_append]
          simp only [List.map_cons, List.map_nil, List.mem_singleton]
          constructor
          · rintro ((h | h) | h)
            · exact .inl (.inl h)
            · exact .inr h
            · exact .inl (.inr h)
          · rintro ((h | h) | h)
            · exact .inl (.inl h)
            · exact .inr h
            · exact .inl (.inr h)) (fun z hz => (hord z hz).1 i h1 (Nat.le_refl _)) (fun j h h2 => sLt_asymm ((List.pairwise_iff_getElem.1 ha) i j h1 h (by omega))) hj
      have hstepb : ∀ (h1 : k < b.length), (∀ j (h : j < a.length), i ≤ j → sLt a[j].Key b[k].Key = false) → _ := fun h1 hj => step b[k].Key i (k + 1) hi h1 (by omega) ⟨Nat.le_refl _, by omega⟩ (fun z => by
          unfold keysR
          rw [List.take_succ_eq_append_getElem h1, List.map_append, List.mem_append, List.mem_append, List.mem_append]
          simp only [List.map_cons, List.map_nil, List.mem_singleton]
          constructor
          · rintro (h | h | h)
            · exact .inl (.inl h)
            · exact .inl (.inr h)
            · exact .inr h
          · rintro ((h | h) | h)
            · exact .inl h
            · exact .inr (.inl h)
            · exact .inr (.inr h)) (fun z hz => (hord z hz).2 k h1 (Nat.le_refl _)) hj (fun j h h2 => sLt_asymm ((List.pairwise_iff_getElem.1 hb) k j h1 h (by omega)))
      rw [ite_dec]
      by_cases hkb : k = b.length
      · have h1 : i < a.length := by omega
        rw [if_pos (by omega), Option.bind_some, if_pos rfl, at_nat h1, Option.bind_some, ck_eq (by omega) (by omega), Option.bind_some]
        exact hstepa h1 (fun j h h2 => absurd h (by omega))
      · have h2 : k < b.length := by omega
        rw [if_neg (by omega), ite_dec]
        by_cases h1 : i < a.length
        · rw [if_pos (by omega), at_nat h1, Option.bind_some, at_nat h2, Option.bind_some, Option.bind_some, Option.bind_some]
          by_cases hle : (sLt a[i].Key b[k].Key || decide (a[i].Key = b[k].Key)) = true
          · rw [if_pos hle, Option.bind_some, ck_eq (by omega) (by omega), Option.bind_some]
            refine hstepa h1 (fun j h h3 => ?_)
            have hbj : sLt b[j].Key b[k].Key = false := by
              by_cases hjk : j = k
              · subst hjk; exact sLt_irr _
              · exact sLt_asymm ((List.pairwise_iff_getElem.1 hb) k j h2 h (by omega))
            refine sLt_not_trans hbj ?_
            rw [Bool.or_eq_true] at hle
            rcases hle with hle | hle
            · exact sLt_asymm hle
            · rw [of_decide_eq_true hle]; exact sLt_irr _
          · rw [if_neg hle, Option.bind_some, ck_eq (by omega) (by omega), Option.bind_some]
            refine hstepb h2 (fun j h h3 => ?_)
            simp only [Bool.not_eq_true, Bool.or_eq_false_iff] at hle
            have haj : sLt a[j].Key a[i].Key = false := by
              by_cases hji : j = i
              · subst hji; exact sLt_irr _
              · exact sLt_asymm ((List.pairwise_iff_getElem.1 ha) i j h1 h (by omega))
            exact sLt_not_trans haj hle.1
        · rw [if_neg (by omega), Option.bind_some, Option.bind_some, if_neg Bool.false_ne_true, at_nat h2, Option.bind_some, ck_eq (by omega) (by omega), Option.bind_some]
          exact hstepb h2 (fun j h h3 => absurd h (by omega))
    · right
      rw [if_neg hmore]
      refine ⟨_, rfl, ?_⟩
      rw [List.take_of_length_le (by omega), List.take_of_length_le (by omega)])
    (0, 0, []) ⟨0, 0, Nat.zero_le _, Nat.zero_le _, by simp [keysR, ksort_nil], fun z hz => by simp [keysR] at hz⟩
  rw [e, Option.bind_some]; rfl
end Go.Dc
