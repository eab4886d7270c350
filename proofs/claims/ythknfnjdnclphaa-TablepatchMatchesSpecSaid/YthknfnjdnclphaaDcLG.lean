/- Diff of tables, and what applying it does. -/
import Derived.Test.YthknfnjdnclphaaDcLF
set_option linter.unusedSimpArgs false
set_option linter.unusedVariables false
namespace Go.Dc
open Go

def diffC (k : ByteArray) (o a : List ByteArray) (i : Nat) : List CellChange := if nth o i = nth a i then [] else [⟨k, (i : Int), [nth o i], [nth a i]⟩]
def diffK (o a : List ByteArray) (k : ByteArray) : List CellChange := if o = [] ∨ a = [] then [⟨k, -1, o, a⟩] else (List.range o.length).flatMap (diffC k o a)
def ks2 (a b : Table) : List ByteArray := ksort (keysR a.Rows ++ keysR b.Rows)
def dK (a b : Table) (k : ByteArray) : List CellChange := diffK (cellsL a k) (cellsL b k) k
def diffT (a b : Table) : List CellChange × Fault := if (pairF a b (-20)).Code ≠ 0 then ([], pairF a b (-20)) else ((ks2 a b).flatMap (dK a b), ⟨0, 0⟩)

theorem diffC_len (k : ByteArray) (o a : List ByteArray) : ∀ n, ((List.range n).flatMap (diffC k o a)).length ≤ n
  | 0 => Nat.le_refl _
  | n + 1 => by
    have := diffC_len k o a n
    rw [List.range_succ, List.flatMap_append, List.length_append]
    have h : (([n] : List Nat).flatMap (diffC k o a)).length ≤ 1 := by
      simp only [List.flatMap_cons, List.flatMap_nil, List.append_nil]
      unfold diffC; split <;> simp
    omega

theorem diffK_len {o a : List ByteArray} {k : ByteArray} (h : o.length ≤ 8) : (diffK o a k).length ≤ 8 := by
  unfold diffK
  split
  · simp
  · have := diffC_len k o a o.length; omega

theorem cut_one {l : List ByteArray} {j : Nat} (h : j < l.length) : cut? l (j : Int) ((j + 1 : Nat) : Int) = some [nth l j] := by
  rw [cut_eq (by omega) (by omega) (by omega), Int.toNat_natCast, Int.toNat_natCast, List.take_succ_eq_append_getElem h, List.drop_append_of_le_length (by rw [List.length_take]; omega), List.drop_eq_nil_of_le (by rw [List.length_take]; omega), List.nil_append, nth_at h]

theorem dl2 (k : ByteArray) {o a : List ByteArray} (hl : a.length = o.length) (ho : o.length ≤ 1000) {acc : List CellChange} (hb : acc.length ≤ 100000) :
    iter (fun s => tablepatch_Diff.l2 k o a s.1 s.2) (0, acc) = some (acc ++ (List.range o.length).flatMap (diffC k o a)) := by
  obtain ⟨r, e, rfl⟩ := inv_loop (f := fun s => tablepatch_Diff.l2 k o a s.1 s.2) o.length (fun j s => s = acc ++ (List.range j).flatMap (diffC k o a)) (fun r => r = acc ++ (List.range o.length).flatMap (diffC k o a)) (by
    rintro j s hj rfl
    have hlen := diffC_len k o a j
    have hj1 : ((j : Int) + 1) = ((j + 1 : Nat) : Int) := by omega
    have hj4 : ∀ q, tablepatch_Diff.j4 (j : Int) q = some (.next (((j + 1 : Nat) : Int), q)) := by
      intro q
      unfold tablepatch_Diff.j4
      rw [ck_eq (by omega) (by omega), Option.bind_some]; rfl
    refine ⟨_, ?_, rfl⟩
    unfold tablepatch_Diff.l2
    simp only
    rw [ite_dec, if_pos (by omega), at_nat hj, Option.bind_some, at_nat (by omega), Option.bind_some, ite_ndec, List.range_succ, List.flatMap_append]
    simp only [List.flatMap_cons, List.flatMap_nil, List.append_nil]
    have hd : diffC k o a j = if o[j] = a[j] then [] else [⟨k, (j : Int), [nth o j], [nth a j]⟩] := by
      unfold diffC; rw [nth_at hj, nth_at (by omega : j < a.length)]
    rw [hd]
    by_cases hc : o[j] = a[j]
    · rw [if_pos hc, if_pos hc, hj4, List.append_nil]
    · rw [if_neg hc, if_neg hc, ck_eq (by omega) (by omega), Option.bind_some, hj1, cut_one hj, Option.bind_some, Option.bind_some, cut_one (by omega), Option.bind_some, change_t _ _ _ _ (by simp) (by simp), Option.bind_some,
        app_eq (by rw [List.length_append, List.length_singleton]; omega), Option.bind_some, hj4, List.append_assoc]) (by
    rintro s rfl
    unfold tablepatch_Diff.l2
    simp only
    rw [ite_dec, if_neg (by omega)]
    exact ⟨_, rfl, rfl⟩) acc (by simp)
  exact e

structure Two (t u : Table) : Prop where
  a : VTab t
  b : VTab u
  eq : t.Columns = u.Columns

section
variable {a b : Table} (h : Two a b) include h
theorem Two.n0 : 0 < a.Columns.length := h.a.np
theorem Two.n8 : a.Columns.length ≤ 8 := h.a.cols.le
theorem Two.ca (k : ByteArray) : cellsL a k = [] ∨ (cellsL a k).length = a.Columns.length := (cellsL_len h.a k).imp id (·.1)
theorem Two.cb (k : ByteArray) : cellsL b k = [] ∨ (cellsL b k).length = a.Columns.length := by
  rw [h.eq]; exact (cellsL_len h.b k).imp id (·.1)
theorem Two.okb : RowsOk a.Columns.length b.Rows := by rw [h.eq]; exact h.b.ok
theorem Two.le (k : ByteArray) : (cellsL a k).length ≤ 8 ∧ (cellsL b k).length ≤ 8 := by
  have := h.n8
  constructor
  · rcases h.ca k with e | e
    · rw [e]; simp
    · omega
  · rcases h.cb k with e | e
    · rw [e]; simp
    · omega

theorem dstep {ks : List ByteArray} {j : Nat} (hj : j < ks.length) (hks : ks.length ≤ 1000) {acc : List CellChange} (hb : acc.length ≤ 90000) :
    tablepatch_Diff.l1 a b ks (j : Int) acc = some (.next (((j + 1 : Nat) : Int), acc ++ dK a b ks[j])) := by
  obtain ⟨l1, l2⟩ := h.le ks[j]
  have hj2 : ∀ q, tablepatch_Diff.j2 (j : Int) q = some (.next (((j + 1 : Nat) : Int), q)) := by
    intro q
    unfold tablepatch_Diff.j2
    rw [ck_eq (by omega) (by omega), Option.bind_some]; rfl
  unfold tablepatch_Diff.l1 dK diffK
  rw [ite_dec, if_pos (by omega), at_nat hj, Option.bind_some, get_f h.a, Option.bind_some, get_f h.b, Option.bind_some, isE, isE, ors, Option.bind_some, ite_dec]
  by_cases c1 : cellsL a ks[j] = [] ∨ cellsL b ks[j] = []
  · rw [if_pos c1, if_pos c1, change_t _ _ _ _ (by omega) (by omega), Option.bind_some, app_eq (by rw [List.length_singleton]; omega), Option.bind_some, hj2]
  · rw [if_neg c1, if_neg c1]
    have e1 := (h.ca ks[j]).resolve_left (fun e => c1 (.inl e))
    have e2 := (h.cb ks[j]).resolve_left (fun e => c1 (.inr e))
    rw [dl2 _ (by omega) (by omega) (by omega), Option.bind_some]
    unfold tablepatch_Diff.j3
    rw [hj2]

theorem ks2_len : (ks2 a b).length ≤ 60 := by
  refine Nat.le_trans (ksort_len _) ?_
  have := h.a.len; have := h.b.len
  simp [keysR]; omega
theorem dK_len (k : ByteArray) : (dK a b k).length ≤ 8 := diffK_len (h.le k).1
end

theorem two_of {a b : Table} (h : (pairF a b (-20)).Code = 0) : Two a b := ⟨(pairF_ok.1 h).1, (pairF_ok.1 h).2.1, (pairF_ok.1 h).2.2⟩

theorem Diff_f (a b : Table) : tablepatch_Diff a b = some (diffT a b) := by
  unfold tablepatch_Diff diffT
  rw [pair_f, Option.bind_some, tf_cond _ (pairF_code _ _ _), ite_dec]
  by_cases h1 : (pairF a b (-20)).Code ≠ 0
  · rw [if_pos h1, if_pos h1]
  rw [if_neg h1, if_neg h1]
  have h := two_of (Classical.not_not.1 h1)
  have hk : ([a, b] : List Table).flatMap (fun t => keysR t.Rows) = keysR a.Rows ++ keysR b.Rows := by simp
  rw [keys_f _ (by simp) (fun t ht => by
    simp only [List.mem_cons, List.not_mem_nil, or_false] at ht
    rcases ht with rfl | rfl
    · exact h.a.len
    · exact h.b.len), Option.bind_some, hk]
  show (iter (fun s => tablepatch_Diff.l1 a b (ks2 a b) s.1 s.2) (0, [])).bind _ = _
  have hkl := ks2_len h
  generalize ks2 a b = ks at hkl ⊢
  have hbl := flat_len (dK a b) 8 (dK_len h)
  obtain ⟨r, e, rfl⟩ := inv_loop (f := fun s => tablepatch_Diff.l1 a b ks s.1 s.2) ks.length (fun j t => t = (ks.take j).flatMap (dK a b)) (fun t => t = ks.flatMap (dK a b)) (by
    rintro j t hj rfl
    have b1 := hbl (ks.take j)
    rw [List.length_take] at b1
    refine ⟨_, dstep h hj (by omega) (by simp only; omega), ?_⟩
    rw [List.take_succ_eq_append_getElem hj, List.flatMap_append]
    simp) (by
    rintro t rfl
    unfold tablepatch_Diff.l1
    simp only
    rw [ite_dec, if_neg (by omega), List.take_length]
    exact ⟨_, rfl, rfl⟩) [] rfl
  rw [e, Option.bind_some]
  rfl

/-! applied -/
theorem rows_eqR {n : Nat} {rows : List Row} (h : RowsOk n rows) {ks : List ByteArray} (hk : SAsc ks) (hn : 0 < n) (hsub : ∀ r ∈ rows, r.Key ∈ ks) : ks.flatMap (fun k => rowOf (lkR rows k) k) = rows := by
  refine rasc_uniq ?_ h.asc fun z => ?_
  · unfold RAsc
    rw [List.pairwise_flatMap]
    refine ⟨fun k _ => ?_, hk.imp (fun {x y} hxy p hp q hq => ?_)⟩
    · unfold rowOf; split <;> simp
    · unfold rowOf at hp hq
      split at hp
      · cases hp
      split at hq
      · cases hq
      rw [List.mem_singleton] at hp hq
      subst hp; subst hq
      exact hxy
  · rw [List.mem_flatMap, mem_lk h hn]
    constructor
    · rintro ⟨k, _, hz⟩
      unfold rowOf at hz
      split at hz
      · cases hz
      · rename_i hne
        rw [List.mem_singleton] at hz
        subst hz
        exact ⟨hne, rfl⟩
    · rintro ⟨h1, h2⟩
      refine ⟨z.Key, hsub z ((mem_lk h hn z).2 ⟨h1, h2⟩), ?_⟩
      unfold rowOf
      rw [h2, if_neg h1]
      simp

theorem sum_len {α β γ : Type} {f : ByteArray → List α} {g : ByteArray → List β} {m : ByteArray → List γ} (c : Nat) : ∀ l : List ByteArray, (∀ k ∈ l, (f k).length ≤ c * (g k).length + c * (m k).length) → (l.flatMap f).length ≤ c * (l.flatMap g).length + c * (l.flatMap m).length
  | [], _ => by simp
  | k :: r, h => by
    have h1 := h k (List.mem_cons_self ..)
    have h2 := sum_len c r (fun x hx => h x (List.mem_cons_of_mem _ hx))
    rw [List.flatMap_cons, List.flatMap_cons, List.flatMap_cons, List.length_append, List.length_append, List.length_append, Nat.mul_add, Nat.mul_add]
    omega

section
variable {a b : Table} (h : Two a b) include h

theorem in_ks2 {k : ByteArray} : k ∈ ks2 a b ↔ lkR a.Rows k ≠ [] ∨ lkR b.Rows k ≠ [] := by
  unfold ks2
  rw [ksort_mem, List.mem_append]
  have hr : ∀ rows : List Row, RowsOk a.Columns.length rows → (k ∈ keysR rows ↔ lkR rows k ≠ []) := by
    intro rows hr
    have := lk_ne hr h.n0 (k := k)
    constructor
    · intro hk he
      rw [this] at he
      unfold keysR at hk
      rw [List.mem_map] at hk
      obtain ⟨r, h1, h2⟩ := hk
      exact he r h1 h2
    · intro hk
      rcases lk_cases hr k with h1 | h1
      · exact absurd h1.1 hk
      · exact List.mem_map.2 ⟨_, h1.2, rfl⟩
  rw [hr _ h.a.ok, hr _ h.okb]

theorem mix_len {rows : List Row} (hr : RowsOk a.Columns.length rows) (hm : ∀ k, lkR rows k = lkR a.Rows k ∨ lkR rows k = lkR b.Rows k) : rows.length ≤ a.Rows.length + b.Rows.length := by
  have hk : SAsc (ks2 a b) := ksort_asc _
  have mem : ∀ (q : List Row), RowsOk a.Columns.length q → (∀ k, lkR q k = lkR a.Rows k ∨ lkR q k = lkR b.Rows k) → ∀ r ∈ q, r.Key ∈ ks2 a b := by
    intro q hq hmq r hr
    obtain ⟨h1, h2⟩ := (mem_lk hq h.n0 r).1 hr
    rw [in_ks2 h]
    rcases hmq r.Key with e | e
    · exact .inl (by rw [← e, h2]; exact h1)
    · exact .inr (by rw [← e, h2]; exact h1)
  have e1 := rows_eqR hr hk h.n0 (mem _ hr hm)
  have e2 := rows_eqR h.a.ok hk h.n0 (mem _ h.a.ok (fun _ => .inl rfl))
  have e3 := rows_eqR h.okb hk h.n0 (mem _ h.okb (fun _ => .inr rfl))
  have := sum_len (f := fun k => rowOf (lkR rows k) k) (g := fun k => rowOf (lkR a.Rows k) k) (m := fun k => rowOf (lkR b.Rows k) k) 1 (ks2 a b) (fun k _ => by
    rcases hm k with e | e <;> rw [e] <;> omega)
  rw [e1, e2, e3] at this
  omega

theorem all_len : ((ks2 a b).flatMap (dK a b)).length ≤ 300 := by
  have hk : SAsc (ks2 a b) := ksort_asc _
  have mem : ∀ (q : List Row), RowsOk a.Columns.length q → (∀ k, lkR q k = lkR a.Rows k ∨ lkR q k = lkR b.Rows k) → ∀ r ∈ q, r.Key ∈ ks2 a b := by
    intro q hq hmq r hr
    obtain ⟨h1, h2⟩ := (mem_lk hq h.n0 r).1 hr
    rw [in_ks2 h]
    rcases hmq r.Key with e | e
    · exact .inl (by rw [← e, h2]; exact h1)
    · exact .inr (by rw [← e, h2]; exact h1)
  have e2 := rows_eqR h.a.ok hk h.n0 (mem _ h.a.ok (fun _ => .inl rfl))
  have e3 := rows_eqR h.okb hk h.n0 (mem _ h.okb (fun _ => .inr rfl))
  have := sum_len (f := dK a b) (g := fun k => rowOf (lkR a.Rows k) k) (m := fun k => rowOf (lkR b.Rows k) k) 4 (ks2 a b) (fun k hkk => by
    have hne := (in_ks2 h).1 hkk
    have h8 := dK_len h k
    have e1 : ∀ c : List ByteArray, (rowOf c k).length = if c = [] then 0 else 1 := fun c => by unfold rowOf; split <;> rfl
    rw [e1, e1]
    by_cases c1 : lkR a.Rows k = [] <;> by_cases c2 : lkR b.Rows k = []
    · exact absurd hne (by simp [c1, c2])
    · have : (dK a b k).length = 1 := by unfold dK diffK; rw [cellsL_lk, cellsL_lk, if_pos (.inl c1)]; rfl
      simp [c1, c2]; omega
    · have : (dK a b k).length = 1 := by unfold dK diffK; rw [cellsL_lk, cellsL_lk, if_pos (.inr c2)]; rfl
      simp [c1, c2]; omega
    · simp [c1, c2]; omega)
  rw [e2, e3] at this
  have := h.a.len
  have := h.b.len
  omega
end

theorem one_text {l : List ByteArray} (h : OkText l) {i : Nat} (hi : i < l.length) : (textFault [nth l i]).Code = 0 := by
  rw [okTextC]
  refine ⟨by simp, fun s hs => ?_⟩
  rw [List.mem_singleton] at hs
  subst hs
  rw [nth_at hi]; exact h.2 _ (List.getElem_mem hi)

theorem diff_chk {n : Nat} {o a : List ByteArray} {k : ByteArray} (ho : o = [] ∨ RowOk n ⟨k, o⟩) (ha : a = [] ∨ RowOk n ⟨k, a⟩) (hne : o ≠ [] ∨ a ≠ []) : ∀ c ∈ diffK o a k, Chk n c := by
  have hkey : nameC k = 0 := by
    rcases hne with h | h
    · exact (ho.resolve_left h).key
    · exact (ha.resolve_left h).key
  have htx : ∀ l : List ByteArray, l = [] ∨ RowOk n ⟨k, l⟩ → (textFault l).Code = 0 := by
    rintro l (rfl | h)
    · rfl
    · exact h.ok
  have hll : ∀ l : List ByteArray, l ≠ [] → RowOk n ⟨k, l⟩ → l.length = n := fun l _ h => h.len
  intro c hc
  unfold diffK at hc
  split at hc
  · rename_i hh
    rw [List.mem_singleton] at hc
    subst hc
    refine ⟨hkey, .inl ⟨rfl, ?_⟩, htx _ ho, htx _ ha⟩
    by_cases h1 : o = []
    · exact .inl ⟨h1, (ha.resolve_left (hne.resolve_left (fun e => e h1))).len⟩
    · exact .inr ⟨hh.resolve_left h1, (ho.resolve_left h1).len⟩
  · rename_i hh
    have h1 := ho.resolve_left (fun e => hh (.inl e))
    have h2 := ha.resolve_left (fun e => hh (.inr e))
    have l1 : o.length = n := h1.len
    have l2 : a.length = n := h2.len
    rw [List.mem_flatMap] at hc
    obtain ⟨i, hi, hc⟩ := hc
    rw [List.mem_range] at hi
    unfold diffC at hc
    split at hc
    · cases hc
    · rw [List.mem_singleton] at hc
      subst hc
      exact ⟨hkey, .inr ⟨by simp, by simp only; omega, rfl, rfl⟩, one_text (okTextC.1 h1.ok) hi, one_text (okTextC.1 h2.ok) (show i < a.length by omega)⟩

theorem upd_upd {n : Nat} {rows : List Row} (h : RowsOk n rows) (hn : 0 < n) {k : ByteArray} {c c' : List ByteArray} (hc : c = [] ∨ RowOk n ⟨k, c⟩) (hc' : c' = [] ∨ RowOk n ⟨k, c'⟩) : updR (updR rows k c) k c' = updR rows k c' := by
  have hu := upd_ok h hc
  refine rows_ext (upd_ok hu hc') (upd_ok h hc') hn fun k' => ?_
  rw [lk_upd hu hn hc', lk_upd h hn hc', lk_upd h hn hc]
  by_cases e : k' = k
  · rw [if_pos e, if_pos e]
  · rw [if_neg e, if_neg e, if_neg e]

def mixC (o a : List ByteArray) (i : Nat) : List ByteArray := (List.range i).map (nth a) ++ o.drop i

theorem mixC_succ {o a : List ByteArray} {i : Nat} (hi : i < o.length) : mixC o a (i + 1) = (mixC o a i).set i (nth a i) := by
  unfold mixC
  rw [range_set (nth a) o i hi, List.range_succ, List.map_append, List.append_assoc]
  rfl

theorem mixC_nth {o a : List ByteArray} {i : Nat} (hi : i < o.length) : nth (mixC o a i) i = nth o i := by
  unfold mixC
  rw [nth_at (by rw [List.length_append, List.length_map, List.length_range, List.length_drop]; omega), List.getElem_append_right (by simp), nth_at hi]
  simp

theorem mixC_len {o a : List ByteArray} {i : Nat} (hi : i ≤ o.length) : (mixC o a i).length = o.length := by
  unfold mixC
  rw [List.length_append, List.length_map, List.length_range, List.length_drop]; omega

theorem mixC_end {o a : List ByteArray} (hl : a.length = o.length) : mixC o a o.length = a := by
  unfold mixC
  rw [List.drop_length, List.append_nil, ← hl]
  refine List.ext_getElem (by simp) fun i h1 h2 => ?_
  rw [List.getElem_map, List.getElem_range, nth_at h2]

theorem mixC_ok {n : Nat} {o a : List ByteArray} {k : ByteArray} (ho : RowOk n ⟨k, o⟩) (ha : RowOk n ⟨k, a⟩) {i : Nat} (hi : i ≤ n) : RowOk n ⟨k, mixC o a i⟩ := by
  have l1 : o.length = n := ho.len
  have l2 : a.length = n := ha.len
  have t1 := okTextC.1 ho.ok
  have t2 := okTextC.1 ha.ok
  have hlen := mixC_len (o := o) (a := a) (i := i) (by omega)
  refine ⟨ho.key, by simp only; omega, okTextC.2 ⟨by simp only at t1 hlen ⊢; have := t1.1; omega, fun s hs => ?_⟩⟩
  unfold mixC at hs
  rcases List.mem_append.1 hs with hs | hs
  · rw [List.mem_map] at hs
    obtain ⟨j, hj, rfl⟩ := hs
    rw [List.mem_range] at hj
    rw [nth_at (by omega)]
    exact t2.2 _ (List.getElem_mem _)
  · exact t1.2 s (List.mem_of_mem_drop hs)

theorem cells_run {n : Nat} {rows : List Row} (h : RowsOk n rows) (hn : 0 < n) {o a : List ByteArray} {k : ByteArray} (hlk : lkR rows k = o) (ho : RowOk n ⟨k, o⟩) (ha : RowOk n ⟨k, a⟩) (j : Nat) :
    ∀ i, i ≤ n → runR j rows ((List.range i).flatMap (diffC k o a)) = .inr (updR rows k (mixC o a i))
  | 0, _ => by
    show Sum.inr rows = Sum.inr (updR rows k o)
    rw [← hlk, upd_self h hn]
  | i + 1, hi => by
    have l1 : o.length = n := ho.len
    have l2 : a.length = n := ha.len
    have m1 := mixC_ok ho ha (i := i) (by omega)
    have m2 := mixC_ok ho ha (i := i + 1) hi
    rw [List.range_succ, List.flatMap_append, run_app, cells_run h hn hlk ho ha j i (by omega)]
    simp only [List.flatMap_cons, List.flatMap_nil, List.append_nil]
    unfold diffC
    by_cases he : nth o i = nth a i
    · rw [if_pos he, runR, mixC_succ (by omega), ← he, ← mixC_nth (o := o) (a := a) (by omega), nth_at (by rw [mixC_len (by omega)]; omega), List.set_getElem_self]
    · rw [if_neg he, runR]
      have hlk2 : lkR (updR rows k (mixC o a i)) k = mixC o a i := by rw [lk_upd h hn (.inr m1), if_pos rfl]
      have hne : mixC o a i ≠ [] := by
        intro e
        have := mixC_len (o := o) (a := a) (i := i) (by omega)
        rw [e] at this; simp only [List.length_nil] at this; omega
      have hp : perfR (updR rows k (mixC o a i)) ⟨k, (i : Int), [nth o i], [nth a i]⟩ = (0, updR rows k (mixC o a (i + 1))) := by
        unfold perfR
        simp only
        have e0 : ∀ x : ByteArray, nth [x] 0 = x := fun x => rfl
        rw [if_neg (by rintro ⟨h1, _⟩; omega), hlk2, if_neg hne, if_neg (by omega), Int.toNat_natCast, mixC_nth (by omega), e0, e0, ite_nn rfl, ← mixC_succ (by omega), upd_upd h hn (.inr m1) (.inr m2)]
      rw [hp, ite_nn rfl, runR]

theorem key_run {n : Nat} {rows : List Row} (h : RowsOk n rows) (hn : 0 < n) {o a : List ByteArray} {k : ByteArray} (hlk : lkR rows k = o) (ha : a = [] ∨ RowOk n ⟨k, a⟩) (hne : o ≠ [] ∨ a ≠ []) (j : Nat) :
    (∃ f, runR j rows (diffK o a k) = .inl f ∧ f.Code = 14 ∧ o = [] ∧ a ≠ [] ∧ rows.length ≥ 30) ∨ runR j rows (diffK o a k) = .inr (updR rows k a) := by
  have ho : o = [] ∨ RowOk n ⟨k, o⟩ := by rw [← hlk]; exact lk_rowOk h k
  unfold diffK
  by_cases c1 : o = []
  · have hane := hne.resolve_left (fun e => e c1)
    rw [if_pos (.inl c1), runR]
    by_cases c2 : rows.length ≥ 30
    · left
      have hp : perfR rows ⟨k, -1, o, a⟩ = (14, []) := by
        unfold perfR
        simp only
        rw [if_pos ⟨trivial, c1⟩, hlk, ite_nn c1, if_pos c2]
      rw [hp, if_pos (by decide)]
      exact ⟨_, rfl, rfl, c1, hane, c2⟩
    · right
      have hp : perfR rows ⟨k, -1, o, a⟩ = (0, updR rows k a) := by
        unfold perfR
        simp only
        rw [if_pos ⟨trivial, c1⟩, hlk, ite_nn c1, if_neg c2]
      rw [hp, ite_nn rfl, runR]
  · right
    by_cases c2 : a = []
    · rw [if_pos (.inr c2), runR]
      have hp : perfR rows ⟨k, -1, o, a⟩ = (0, updR rows k []) := by
        unfold perfR
        simp only
        rw [if_neg (fun e => c1 e.2), hlk, if_neg c1, if_pos trivial, ite_nn rfl]
      rw [hp, ite_nn rfl, runR, c2]
    · rw [if_neg (fun e => e.elim c1 c2)]
      have h1 := ho.resolve_left c1
      have h2 := ha.resolve_left c2
      have l1 : o.length = n := h1.len
      have l2 : a.length = n := h2.len
      have := cells_run h hn hlk h1 h2 j o.length (by omega)
      rw [this, mixC_end (by omega)]

open Classical in
theorem main_run {a b : Table} (h : Two a b) : ∀ (l : List ByteArray) (j : Nat) (rows : List Row), SAsc l → (∀ k ∈ l, k ∈ ks2 a b) → RowsOk a.Columns.length rows → rows.length ≤ 30 → (∀ k, lkR rows k = if k ∈ l then lkR a.Rows k else lkR b.Rows k) →
    (∃ f, runR j rows (l.flatMap (dK a b)) = .inl f ∧ f.Code = 14 ∧ 30 < a.Rows.length + b.Rows.length) ∨ runR j rows (l.flatMap (dK a b)) = .inr b.Rows
  | [], j, rows, _, _, hr, _, hm => by
    right
    show Sum.inr rows = Sum.inr b.Rows
    rw [rows_ext hr h.okb h.n0 (fun k => by rw [hm k, if_neg (List.not_mem_nil)])]
  | k :: r, j, rows, hs, hin, hr, hl, hm => by
    have hk : lkR rows k = lkR a.Rows k := by rw [hm k, if_pos (List.mem_cons_self ..)]
    have hb := lk_rowOk h.okb k
    have hne := (in_ks2 h).1 (hin k (List.mem_cons_self ..))
    have hnot : k ∉ r := fun e => by
      have := (List.pairwise_cons.1 hs).1 k e
      rw [sLt_irr] at this; cases this
    have hlk : ∀ k', lkR (updR rows k (lkR b.Rows k)) k' = if k' ∈ r then lkR a.Rows k' else lkR b.Rows k' := by
      intro k'
      rw [lk_upd hr h.n0 hb]
      by_cases e : k' = k
      · rw [if_pos e, e, if_neg hnot]
      · rw [if_neg e, hm k']
        by_cases e2 : k' ∈ r
        · rw [if_pos e2, if_pos (List.mem_cons_of_mem _ e2)]
        · rw [if_neg e2, if_neg (by rw [List.mem_cons]; exact fun hh => hh.elim e e2)]
    have hmix : ∀ k', lkR (updR rows k (lkR b.Rows k)) k' = lkR a.Rows k' ∨ lkR (updR rows k (lkR b.Rows k)) k' = lkR b.Rows k' := by
      intro k'
      rw [hlk k']
      by_cases e : k' ∈ r
      · rw [if_pos e]; exact .inl rfl
      · rw [if_neg e]; exact .inr rfl
    have hu := upd_ok hr hb
    have hlen := mix_len h hu hmix
    have hul := upd_len hr h.n0 k (lkR b.Rows k)
    rw [List.flatMap_cons, run_app]
    show (∃ f, (match runR j rows (diffK (lkR a.Rows k) (lkR b.Rows k) k) with | .inl e => Sum.inl e | .inr q => runR (j + (dK a b k).length) q (r.flatMap (dK a b))) = Sum.inl f ∧ _) ∨ (match runR j rows (diffK (lkR a.Rows k) (lkR b.Rows k) k) with | .inl e => Sum.inl e | .inr q => runR (j + (dK a b k).length) q (r.flatMap (dK a b))) = Sum.inr b.Rows
    rcases key_run hr h.n0 hk hb hne j with ⟨f, e, h1, h2, h3, h4⟩ | e
    · left
      rw [e]
      rw [hk, if_pos h2, if_neg h3] at hul
      exact ⟨f, rfl, h1, by omega⟩
    · rw [e]
      have hall : ∀ c ∈ diffK (lkR a.Rows k) (lkR b.Rows k) k, Chk a.Columns.length c := diff_chk (lk_rowOk h.a.ok k) hb hne
      exact main_run h r _ _ (List.pairwise_cons.1 hs).2 (fun x hx => hin x (List.mem_cons_of_mem _ hx)) hu (run_ok h.n0 _ _ _ _ hall hr hl e).2 hlk

theorem diff_applies (a b : Table) : changeforgelaw2_TablepatchDiffApplies a b = some true := by
  unfold changeforgelaw2_TablepatchDiffApplies
  rw [Diff_f, Option.bind_some, ite_ndec]
  unfold diffT
  by_cases h1 : (pairF a b (-20)).Code ≠ 0
  · rw [if_pos h1, if_neg h1, both_f, Option.bind_some]
  rw [if_neg h1, if_pos rfl]
  have h := two_of (Classical.not_not.1 h1)
  have hlen := all_len h
  have hchk : ∀ c ∈ (ks2 a b).flatMap (dK a b), Chk a.Columns.length c := by
    intro c hc
    rw [List.mem_flatMap] at hc
    obtain ⟨k, hk, hc⟩ := hc
    exact diff_chk (lk_rowOk h.a.ok k) (lk_rowOk h.okb k) ((in_ks2 h).1 hk) c hc
  rw [Apply_f, Option.bind_some, applyT_run h.a hlen hchk]
  rcases main_run h (ks2 a b) 0 a.Rows (ksort_asc _) (fun _ hk => hk) h.a.ok h.a.len (fun k => by
    by_cases e : k ∈ ks2 a b
    · rw [if_pos e]
    · rw [if_neg e]
      have := mt (in_ks2 h).2 e
      have h1 : lkR a.Rows k = [] := Classical.byContradiction fun hh => this (.inl hh)
      have h2 : lkR b.Rows k = [] := Classical.byContradiction fun hh => this (.inr hh)
      rw [h1, h2]) with ⟨f, e, h2, h3⟩ | e
  · rw [e]
    simp only
    rw [decide_eq_true h2, if_pos rfl]
    have := h.a.len
    have := h.b.len
    rw [ck_eq (by omega) (by omega), Option.bind_some, decide_eq_true (by omega), if_pos rfl, both_f]
    rfl
  · rw [e]
    have eb : (⟨a.Columns, b.Rows⟩ : Table) = b := by rw [h.eq]
    simp only
    rw [if_neg (by simp), eb, if_pos (by simp), tab_self h.b]
    simp only [Option.bind_some, if_true]
    rw [both_f]
    rfl
end Go.Dc
