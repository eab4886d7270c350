/- The document's Compose, first half: the items and the texts. -/
import Derived.Test.YtgcjgmfdnhimmaaDcQO
set_option linter.unusedSimpArgs false
set_option linter.unusedVariables false
namespace Go.Dc
open Go

abbrev Item := Item_changeforgeref1
def nit (x : ByteArray) : Item := ⟨-1, x⟩
def kit (o : Nat) : Item := ⟨(o : Int), ⟨#[]⟩⟩
def itm : Nat → List Mid → List Item
  | _, [] => []
  | b, m :: ms => if m.inserted = true then nit m.line :: itm (b + m.before.length) ms else kit (b + m.before.length) :: itm (b + m.before.length + 1) ms
def bse : Nat → List Mid → Nat
  | b, [] => b
  | b, m :: ms => bse (b + m.before.length + (if m.inserted = true then 0 else 1)) ms
def WT (X : List ByteArray) : Nat → List Mid → Prop
  | _, [] => True
  | b, m :: ms => Mt X b m.before ∧ (m.inserted = false → b + m.before.length < X.length) ∧ WT X (b + m.before.length + (if m.inserted = true then 0 else 1)) ms
theorem itm_cons (b : Nat) (m : Mid) (ms : List Mid) : itm b (m :: ms) = (if m.inserted = true then nit m.line else kit (b + m.before.length)) :: itm (b + m.before.length + (if m.inserted = true then 0 else 1)) ms := by
  rw [itm]; split <;> rfl
theorem itm_len : ∀ (M : List Mid) (b : Nat), (itm b M).length = M.length
  | [], _ => rfl
  | m :: ms, b => by rw [itm_cons, List.length_cons, List.length_cons, itm_len ms]
theorem itm_append : ∀ (A B : List Mid) (b : Nat), itm b (A ++ B) = itm b A ++ itm (bse b A) B
  | [], B, b => rfl
  | m :: A, B, b => by rw [List.cons_append, itm_cons, itm_cons, bse, itm_append A B, List.cons_append]
theorem itm_drop (M : List Mid) (b n : Nat) : (itm b M).drop n = itm (bse b (M.take n)) (M.drop n) := by
  induction n generalizing b M with
  | zero => rw [List.take_zero, bse]; rfl
  | succ n ih =>
    cases M with
    | nil => rfl
    | cons m ms => rw [itm_cons, List.drop_succ_cons, List.drop_succ_cons, List.take_succ_cons, bse, ih]
theorem itm_take (M : List Mid) (b n : Nat) : (itm b M).take n = itm b (M.take n) := by
  induction n generalizing b M with
  | zero => rfl
  | succ n ih =>
    cases M with
    | nil => rfl
    | cons m ms => rw [itm_cons, List.take_succ_cons, List.take_succ_cons, itm_cons, ih]
theorem bse_append : ∀ (A B : List Mid) (b : Nat), bse b (A ++ B) = bse (bse b A) B
  | [], B, b => rfl
  | m :: A, B, b => by rw [List.cons_append, bse, bse, bse_append A B]
theorem bse_le : ∀ (A : List Mid) (b : Nat), b ≤ bse b A
  | [], b => Nat.le_refl _
  | m :: A, b => by rw [bse]; have := bse_le A (b + m.before.length + (if m.inserted = true then 0 else 1)); omega
theorem wt_append : ∀ (X : List ByteArray) (A B : List Mid) (b : Nat), WT X b (A ++ B) ↔ WT X b A ∧ WT X (bse b A) B
  | X, [], B, b => ⟨fun h => ⟨trivial, h⟩, fun h => h.2⟩
  | X, m :: A, B, b => by
    rw [List.cons_append, WT, WT, bse, wt_append X A B]
    exact ⟨fun ⟨a, c, d, e⟩ => ⟨⟨a, c, d⟩, e⟩, fun ⟨⟨a, c, d⟩, e⟩ => ⟨a, c, d, e⟩⟩
theorem mt_take {X X' : List ByteArray} {n b : Nat} {l : List ByteArray} (hl : X'.length = X.length) (ht : X'.take n = X.take n) (hb : b + l.length ≤ n) (h : Mt X b l) : Mt X' b l := by
  refine ⟨by have := h.1; omega, ?_⟩
  have e : ∀ Y : List ByteArray, (Y.drop b).take l.length = ((Y.take n).drop b).take l.length := by
    intro Y
    rw [List.drop_take, List.take_take]; congr 1; omega
  rw [e, ht, ← e, h.2]
theorem wt_take {X X' : List ByteArray} (hl : X'.length = X.length) : ∀ (A : List Mid) (b : Nat), X'.take (bse b A) = X.take (bse b A) → WT X b A → WT X' b A
  | [], _, _, _ => trivial
  | m :: A, b, ht, ⟨h1, h2, h3⟩ => by
    rw [bse] at ht
    have := bse_le A (b + m.before.length + (if m.inserted = true then 0 else 1))
    exact ⟨mt_take hl ht (by omega) h1, fun hi => by rw [hl]; exact h2 hi, wt_take hl A _ ht h3⟩
/-- what lies before does not matter -/
theorem mt_set {X : List ByteArray} {o b : Nat} {x : ByteArray} {l : List ByteArray} (ho : o < b) (h : Mt X b l) : Mt (X.set o x) b l := by
  refine ⟨by rw [List.length_set]; exact h.1, ?_⟩
  rw [List.drop_set_of_lt ho, h.2]
theorem wt_set {X : List ByteArray} {o : Nat} {x : ByteArray} : ∀ (A : List Mid) (b : Nat), o < b → WT X b A → WT (X.set o x) b A
  | [], _, _, _ => trivial
  | m :: A, b, ho, ⟨h1, h2, h3⟩ => ⟨mt_set ho h1, fun hi => by rw [List.length_set]; exact h2 hi, wt_set A _ (by omega) h3⟩

/-- the lines after the first patch, as the document counts them: 400 lines of the base -/
def mids4 : Nat → List Hunk → List ByteArray → List Mid
  | e, [], pend => krun (400 - e) pend
  | e, h :: r, pend => krun (h.At.toNat - e) pend ++ (irun h.New (kpend (h.At.toNat - e) pend ++ h.Old) ++ mids4 (h.At.toNat + h.Old.length) r (ipend h.New (kpend (h.At.toNat - e) pend ++ h.Old)))

theorem mids4_one (e : Nat) (l : List Hunk) (pend : List ByteArray) (he : e < 400) (hs : ∀ h ∈ l, (e : Int) < h.At) : mids4 e l pend = kept pend :: mids4 (e + 1) l [] := by
  cases l with
  | nil => rw [mids4, mids4, show 400 - e = (400 - (e + 1)) + 1 by omega, krun]
  | cons h r =>
    have := hs h (by simp)
    have e1 : kpend (h.At.toNat - (e + 1) + 1) pend = kpend (h.At.toNat - (e + 1)) [] := by unfold kpend; rw [if_neg (by omega)]; split <;> rfl
    rw [mids4, mids4, show h.At.toNat - e = h.At.toNat - (e + 1) + 1 by omega, krun, e1, List.cons_append]

theorem itm_irun : ∀ (l pend : List ByteArray) (b : Nat) (M : List Mid), itm b (irun l pend ++ kept (ipend l pend) :: M) = l.map nit ++ kit (b + pend.length) :: itm (b + pend.length + 1) M
  | [], pend, b, M => by
    show itm b (kept pend :: M) = _
    rw [itm_cons, if_neg (by simp [kept]), if_neg (by simp [kept])]; rfl
  | x :: l, pend, b, M => by
    have e1 : ipend (x :: l) pend = ipend l [] := by unfold ipend; rw [if_neg (by simp)]; split <;> rfl
    rw [e1, irun, List.cons_append, itm_cons, if_pos rfl, if_pos rfl]
    have := itm_irun l [] (b + pend.length + 0) M
    simp only [List.length_nil, Nat.add_zero] at this ⊢
    rw [this]; rfl
theorem wt_irun (X : List ByteArray) : ∀ (l pend : List ByteArray) (b : Nat) (M : List Mid), Mt X b pend → b + pend.length < X.length → WT X (b + pend.length + 1) M → WT X b (irun l pend ++ kept (ipend l pend) :: M)
  | [], pend, b, M, h1, h2, h3 => ⟨h1, fun _ => h2, h3⟩
  | x :: l, pend, b, M, h1, h2, h3 => by
    have e1 : ipend (x :: l) pend = ipend l [] := by unfold ipend; rw [if_neg (by simp)]; split <;> rfl
    rw [e1, irun, List.cons_append]
    refine ⟨h1, fun h => absurd h (by simp), ?_⟩
    exact wt_irun X l [] (b + pend.length) M (mt_nil h1.1) (by simpa using h2) h3
theorem bse_irun : ∀ (l pend : List ByteArray) (b : Nat), bse b (irun l pend) + (ipend l pend).length = b + pend.length
  | [], pend, b => rfl
  | x :: l, pend, b => by
    have e1 : ipend (x :: l) pend = ipend l [] := by unfold ipend; rw [if_neg (by simp)]; split <;> rfl
    rw [e1, irun, bse]
    exact bse_irun l [] (b + pend.length)

theorem mids4_len : ∀ (l : List Hunk) (e : Nat) (pend : List ByteArray) (e' : Int), Good e' l → -1 ≤ e' → e ≤ 120 → 280 ≤ (mids4 e l pend).length ∧ (mids4 e l pend).length ≤ 400 + 240 * l.length
  | [], e, pend, e', _, _, he => by rw [mids4, krun_len]; simp; omega
  | h :: r, e, pend, e', hg, he', he => by
    obtain ⟨z1, z2, z3, z4, z5, z6⟩ := hcode_zero hg.1
    have l2 := textFault_len z3
    have := mids4_len r (h.At.toNat + h.Old.length) (ipend h.New (kpend (h.At.toNat - e) pend ++ h.Old)) _ hg.2 (by omega) (by omega)
    rw [mids4, List.length_append, List.length_append, krun_len, irun_len, List.length_cons]
    omega

/-- both tails -/
theorem mids_tail : ∀ (l : List Hunk) (e : Nat) (pend : List ByteArray) (e' : Int), Good e' l → -1 ≤ e' → e ≤ 120 → ∃ j, mids 480 e l pend = mids4 e l pend ++ krun j []
  | [], e, pend, e', _, _, he => by
    refine ⟨80 + e, ?_⟩
    have : ∀ (n j : Nat) (p : List ByteArray), 0 < n → krun (n + j) p = krun n p ++ krun j [] := by
      intro n
      induction n with
      | zero => intro j p h; omega
      | succ n ih =>
        intro j p _
        rw [show n + 1 + j = n + j + 1 by omega, krun, krun, List.cons_append]
        rcases Nat.eq_zero_or_pos n with rfl | hn
        · rw [Nat.zero_add, krun, List.nil_append]
        · rw [ih j [] hn]
    rw [mids, mids4, ← this (400 - e) (80 + e) pend (by omega), show 400 - e + (80 + e) = 480 by omega]
  | h :: r, e, pend, e', hg, he', he => by
    obtain ⟨z1, z2, z3, z4, z5, z6⟩ := hcode_zero hg.1
    obtain ⟨j, hj⟩ := mids_tail r (h.At.toNat + h.Old.length) (ipend h.New (kpend (h.At.toNat - e) pend ++ h.Old)) _ hg.2 (by omega) (by omega)
    exact ⟨j, by rw [mids, mids4, hj, List.append_assoc, List.append_assoc]⟩
theorem mids4_last : ∀ (l : List Hunk) (e : Nat) (pend : List ByteArray) (e' : Int), Good e' l → -1 ≤ e' → e ≤ 120 → ∃ A x, mids4 e l pend = A ++ [kept x]
  | [], e, pend, e', _, _, he => by
    have : ∀ (n : Nat) (p : List ByteArray), ∃ A x, krun (n + 1) p = A ++ [kept x] := by
      intro n
      induction n with
      | zero => intro p; exact ⟨[], p, rfl⟩
      | succ n ih =>
        intro p
        obtain ⟨A, x, h⟩ := ih []
        exact ⟨kept p :: A, x, by rw [krun, h]; rfl⟩
    rw [mids4, show 400 - e = (399 - e) + 1 by omega]
    exact this _ _
  | h :: r, e, pend, e', hg, he', he => by
    obtain ⟨z1, z2, z3, z4, z5, z6⟩ := hcode_zero hg.1
    obtain ⟨A, x, hj⟩ := mids4_last r (h.At.toNat + h.Old.length) (ipend h.New (kpend (h.At.toNat - e) pend ++ h.Old)) _ hg.2 (by omega) (by omega)
    exact ⟨krun (h.At.toNat - e) pend ++ (irun h.New (kpend (h.At.toNat - e) pend ++ h.Old) ++ A), x, by rw [mids4, hj, List.append_assoc, List.append_assoc]⟩

/-! ## the first loop -/
theorem rc7 (h : Hunk) (hn : h.New.length ≤ 120) : ∀ (rest : List ByteArray) (k : Nat) (out : List Item), h.New.drop k = rest → out.length ≤ 1000000 + k → iter (fun s => changeforgeref1_Compose.l7 h s.1 s.2) ((k : Int), out) = some (out ++ rest.map nit) := by
  intro rest
  induction rest with
  | nil =>
    intro k out hk _
    have := drop_end hk
    refine iter_done ?_
    simp only
    unfold changeforgeref1_Compose.l7
    rw [ite_dec, if_neg (by omega), List.map_nil, List.append_nil]
  | cons x r ih =>
    intro k out hk ho
    obtain ⟨hlt, hh, hr⟩ := drop_at hk
    have e0 : changeforgeref1_Compose.l7 h (k : Int) out = some (.next (((k + 1 : Nat) : Int), out ++ [nit x])) := by
      unfold changeforgeref1_Compose.l7
      rw [ite_dec, if_pos (by omega), at_nat hlt, Option.bind_some, hh, app_eq (by simp only [List.length_singleton]; omega), Option.bind_some, ck_eq (by omega) (by omega)]; rfl
    rw [iter_next e0, ih (k + 1) _ hr (by simp; omega), List.map_cons, List.append_assoc]; rfl

theorem getElem?_take_eq {X X' : List ByteArray} {n i : Nat} (h : X'.take n = X.take n) (hi : i < n) : X'[i]? = X[i]? := by
  have := congrArg (fun l => l[i]?) h
  simp only [List.getElem?_take, hi, if_true] at this
  exact this
theorem take_less {X X' : List ByteArray} {n m : Nat} (h : X'.take n = X.take n) (hm : m ≤ n) : X'.take m = X.take m := by
  have := congrArg (List.take m) h
  rw [List.take_take, List.take_take, Nat.min_eq_left hm] at this
  exact this
theorem mt_cons {X : List ByteArray} {b : Nat} {x : ByteArray} {l : List ByteArray} (h1 : X[b]? = some x) (h2 : Mt X (b + 1) l) : Mt X b (x :: l) := by
  obtain ⟨hlt, hx⟩ := List.getElem?_eq_some_iff.1 h1
  refine ⟨by rw [List.length_cons]; have := h2.1; omega, ?_⟩
  rw [List.drop_eq_getElem_cons hlt, hx, List.length_cons, List.take_succ_cons, h2.2]

theorem rc6 (h : Hunk) (x : Nat) (hx : x + h.Old.length ≤ 120) : ∀ (rest : List ByteArray) (k : Nat) (X : List ByteArray), h.Old.drop k = rest → k ≤ h.Old.length → X.length = 400 → ∃ X', iter (fun s => changeforgeref1_Compose.l6 (x : Int) h s.1 s.2) ((k : Int), X) = some X' ∧ X'.length = 400 ∧ X'.take (x + k) = X.take (x + k) ∧ Mt X' (x + k) rest := by
  intro rest
  induction rest with
  | nil =>
    intro k X hk hkl hX
    have := drop_end hk
    refine ⟨X, iter_done ?_, hX, rfl, mt_nil (by omega)⟩
    simp only
    unfold changeforgeref1_Compose.l6
    rw [ite_dec, if_neg (by omega)]
  | cons a r ih =>
    intro k X hk hkl hX
    obtain ⟨hlt, hh, hr⟩ := drop_at hk
    have e0 : changeforgeref1_Compose.l6 (x : Int) h (k : Int) X = some (.next (((k + 1 : Nat) : Int), X.set (x + k) a)) := by
      unfold changeforgeref1_Compose.l6
      rw [ite_dec, if_pos (by omega), ck_eq (by omega) (by omega), Option.bind_some, at_nat hlt, Option.bind_some, hh, show (x : Int) + (k : Int) = ((x + k : Nat) : Int) by omega, at_nat (by omega), Option.bind_some, Option.bind_some, ck_eq (by omega) (by omega), Int.toNat_natCast]; rfl
    obtain ⟨X', a1, a2, a3, a4⟩ := ih (k + 1) (X.set (x + k) a) hr (by omega) (by simpa using hX)
    refine ⟨X', by rw [iter_next e0]; exact a1, a2, ?_, ?_⟩
    · rw [take_less a3 (by omega), List.take_set_of_le (Nat.le_refl _)]
    · refine mt_cons ?_ a4
      rw [getElem?_take_eq a3 (by omega), List.getElem?_set_self (by omega)]
end Go.Dc
