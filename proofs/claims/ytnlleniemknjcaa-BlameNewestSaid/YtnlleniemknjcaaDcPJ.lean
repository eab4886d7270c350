/- The law on the newest lines. -/
import Derived.Test.YtnlleniemknjcaaDcPI
set_option linter.unusedSimpArgs false
namespace Go.Dc
open Go

def sumNew : List Hunk → Nat
  | [] => 0
  | h :: r => h.New.length + sumNew r
theorem sumNew_append : ∀ l r, sumNew (l ++ r) = sumNew l + sumNew r
  | [], r => by simp [sumNew]
  | h :: l, r => by simp only [List.cons_append, sumNew, sumNew_append l r]; omega

theorem setLast_eq {hs : List Hunk} (hne : hs ≠ []) (f : Hunk → Hunk) : setLast hs f = hs.dropLast ++ [f (hs.getLast hne)] := by
  unfold setLast; rw [List.getLast?_eq_some_getLast hne]

theorem sumNew_last {hs : List Hunk} (hne : hs ≠ []) : sumNew hs = sumNew hs.dropLast + (hs.getLast hne).New.length := by
  conv => lhs; rw [← List.dropLast_concat_getLast hne]
  rw [sumNew_append]; rfl

theorem sumNew_open (s : Cst) : sumNew (cOpen s) = sumNew s.1 := by
  unfold cOpen
  split
  · rfl
  · rw [sumNew_append]; rfl

theorem sumNew_del {s : Cst} (h : s.2.2 = true → s.1 ≠ []) (x : ByteArray) : sumNew (cDel x s).1 = sumNew s.1 := by
  have hne := cOpen_ne s h
  show sumNew (setLast (cOpen s) _) = _
  rw [setLast_eq hne, sumNew_append, ← sumNew_open s, sumNew_last hne]; rfl

theorem sumNew_ins {s : Cst} (h : s.2.2 = true → s.1 ≠ []) (x : ByteArray) : sumNew (cIns x s).1 = sumNew s.1 + 1 := by
  have hne := cOpen_ne s h
  show sumNew (setLast (cOpen s) _) = _
  rw [setLast_eq hne, sumNew_append, ← sumNew_open s, sumNew_last hne]
  simp [sumNew]; omega

theorem scr_sum : ∀ (a b : List ByteArray) (s : Cst), (s.2.2 = true → s.1 ≠ []) → sumNew (scr a b s).1 = sumNew s.1 + (algn a b).count 2
  | [], [], s, _ => by simp [scr, algn]
  | [], y :: b, s, h => by
    rw [scr, algn, scr_sum [] b _ (fun _ => setLast_ne (cOpen_ne s h)), sumNew_ins h, List.count_cons_self]; omega
  | x :: a, [], s, h => by
    rw [scr, algn, scr_sum a [] _ (fun _ => setLast_ne (cOpen_ne s h)), sumNew_del h, List.count_cons_of_ne (by decide)]
  | x :: a, y :: b, s, h => by
    rw [scr, algn]
    by_cases he : x = y
    · rw [if_pos he, if_pos he, scr_sum a b _ (fun e => by simp [cKeep] at e), List.count_cons_of_ne (by decide)]; rfl
    · rw [if_neg he, if_neg he]
      by_cases hg : lcs a (y :: b) ≥ lcs (x :: a) b
      · rw [if_pos hg, if_pos hg, scr_sum a (y :: b) _ (fun _ => setLast_ne (cOpen_ne s h)), sumNew_del h, List.count_cons_of_ne (by decide)]
      · rw [if_neg hg, if_neg hg, scr_sum (x :: a) b _ (fun _ => setLast_ne (cOpen_ne s h)), sumNew_ins h, List.count_cons_self]; omega
 termination_by a b => a.length + b.length

theorem app1_count (i : Int) : ∀ (ss old : List Int), used ss ≤ old.length → (∀ o ∈ old, o ≠ i) → (app1 i ss old).count i = ss.count 2
  | [], old, _, _ => by simp [app1]
  | s :: ss, old, hu, ho => by
    rw [app1_cons]
    by_cases h2 : s = 2
    · rw [used, if_pos h2] at hu
      rw [if_pos h2, List.count_cons_self, app1_count i ss old hu ho, h2, List.count_cons_self]
    · rw [used, if_neg h2] at hu
      rw [if_neg h2, List.count_cons_of_ne h2]
      match old, hu, ho with
      | o :: old', hu, ho =>
        simp only [List.length_cons] at hu
        have h3 := app1_count i ss old' (by omega) (fun q hq => ho q (List.mem_cons_of_mem _ hq))
        simp only
        split
        · rw [List.count_cons_of_ne (ho o (by simp)), h3]
        · exact h3
      | [], hu, _ => exact absurd hu (by simp)

theorem newest_sum (p : Patch) (f : Fault) (hb : sumNew p.Hunks ≤ 1000000) : ∀ (rest : List Hunk) (k m : Nat), p.Hunks.drop k = rest → m + sumNew rest = sumNew p.Hunks → k ≤ 1000000 → p.Hunks.length ≤ 1000000 →
    iter (fun s => changeforgelaw2_BlameNewest.l2 (p, f) s.1 s.2) ((k : Int), (m : Int)) = some ((sumNew p.Hunks : Nat) : Int) := by
  intro rest
  induction rest with
  | nil =>
    intro k m hk hm _ _
    have := drop_end hk
    simp only [sumNew] at hm
    refine (iter_done ?_).trans (by rw [← hm, Nat.add_zero] : some ((m : Nat) : Int) = _)
    unfold changeforgelaw2_BlameNewest.l2
    rw [ite_dec, if_neg (by show ¬ ((k : Int) < (p.Hunks.length : Int)); omega)]
  | cons h r ih =>
    intro k m hk hm hk1 hl
    obtain ⟨hlt, hh, hr⟩ := drop_at hk
    simp only [sumNew] at hm
    have e0 : changeforgelaw2_BlameNewest.l2 (p, f) (k : Int) (m : Int) = some (.next (((k + 1 : Nat) : Int), ((m + h.New.length : Nat) : Int))) := by
      unfold changeforgelaw2_BlameNewest.l2
      simp only
      rw [ite_dec, if_pos (by omega), at_nat hlt, Option.bind_some, hh, ck_eq (by omega) (by omega), Option.bind_some, ck_eq (by omega) (by omega), Option.bind_some]
      rfl
    rw [iter_next e0]
    exact ih (k + 1) (m + h.New.length) hr (by omega) (by omega) hl

theorem newest_count (vs : List (List ByteArray)) (l : List Int) (f : Fault) (n : Nat) (hn : vs.length = n) (h1 : 1 ≤ n) (hn2 : n ≤ 16) (hl : l.length ≤ 1000000) : ∀ (rest : List Int) (k : Nat) (m : Int), l.drop k = rest → 0 ≤ m → m ≤ 1000000 → k ≤ 1000000 → rest.count ((n : Int) - 1) ≤ m →
    iter (fun s => changeforgelaw2_BlameNewest.l1 vs (l, f) s.1 s.2) ((k : Int), m) = some (m - (rest.count ((n : Int) - 1) : Nat)) := by
  intro rest
  induction rest with
  | nil =>
    intro k m hk _ _ _ _
    have := drop_end hk
    refine (iter_done ?_).trans (by simp : some m = _)
    unfold changeforgelaw2_BlameNewest.l1
    rw [ite_dec, if_neg (by show ¬ ((k : Int) < (l.length : Int)); omega)]
  | cons x r ih =>
    intro k m hk h0 hm hk1 hc
    obtain ⟨hlt, hx, hr⟩ := drop_at hk
    by_cases he : x = (n : Int) - 1
    · rw [he, List.count_cons_self] at hc ⊢
      have e0 : changeforgelaw2_BlameNewest.l1 vs (l, f) (k : Int) m = some (.next (((k + 1 : Nat) : Int), m - 1)) := by
        unfold changeforgelaw2_BlameNewest.l1 changeforgelaw2_BlameNewest.j3
        simp only
        rw [ite_dec, if_pos (by omega), at_nat hlt, Option.bind_some, hx, ck_eq (by omega) (by omega), Option.bind_some, ite_dec, if_pos (by omega), ck_eq (by omega) (by omega), Option.bind_some, ck_eq (by omega) (by omega), Option.bind_some]
        rfl
      rw [iter_next e0, ih (k + 1) (m - 1) hr (by omega) (by omega) (by omega) (by omega)]
      congr 1
      omega
    · rw [List.count_cons_of_ne he] at hc ⊢
      have e0 : changeforgelaw2_BlameNewest.l1 vs (l, f) (k : Int) m = some (.next (((k + 1 : Nat) : Int), m)) := by
        unfold changeforgelaw2_BlameNewest.l1 changeforgelaw2_BlameNewest.j3
        simp only
        rw [ite_dec, if_pos (by omega), at_nat hlt, Option.bind_some, hx, ck_eq (by omega) (by omega), Option.bind_some, ite_dec, if_neg (by omega), ck_eq (by omega) (by omega), Option.bind_some]
        rfl
      rw [iter_next e0, ih (k + 1) m hr h0 hm (by omega) hc]

theorem scr_len : ∀ (a b : List ByteArray) (s : Cst), (scr a b s).1.length ≤ s.1.length + a.length + b.length
  | [], [], s => by simp [scr]
  | [], y :: b, s => by
    rw [scr]; have := scr_len [] b (cIns y s); have h2 := cOpen_len s
    have h3 : (cIns y s).1.length = (cOpen s).length := setLast_len _ _
    simp only [List.length_cons, List.length_nil] at *; omega
  | x :: a, [], s => by
    rw [scr]; have := scr_len a [] (cDel x s); have h2 := cOpen_len s
    have h3 : (cDel x s).1.length = (cOpen s).length := setLast_len _ _
    simp only [List.length_cons, List.length_nil] at *; omega
  | x :: a, y :: b, s => by
    rw [scr]
    have h2 := cOpen_len s
    split
    · have := scr_len a b (cKeep s)
      have h3 : (cKeep s).1.length = s.1.length := rfl
      simp only [List.length_cons] at *; omega
    · split
      · have := scr_len a (y :: b) (cDel x s)
        have h3 : (cDel x s).1.length = (cOpen s).length := setLast_len _ _
        simp only [List.length_cons] at *; omega
      · have := scr_len (x :: a) b (cIns y s)
        have h3 : (cIns y s).1.length = (cOpen s).length := setLast_len _ _
        simp only [List.length_cons] at *; omega
 termination_by a b => a.length + b.length

theorem newest_eq (vs : List (List ByteArray)) : changeforgelaw2_BlameNewest vs = some true := by
  obtain ⟨os, f, h1, h2⟩ := annotate_eq vs
  unfold changeforgelaw2_BlameNewest
  rw [h1, Option.bind_some, added_eq]
  rcases h2 with ⟨rfl, rfl, ok⟩ | ⟨hc, _⟩
  · simp only [decide_true, Bool.not_true, Bool.false_eq_true, if_false, Option.bind_some]
    by_cases hn : vs.length < 2
    · rw [decide_eq_true (by omega : (vs.length : Int) < 2), if_pos rfl]
    · rw [decide_eq_false (by omega : ¬ ((vs.length : Int) < 2)), if_neg (by decide)]
      have h16 := ok.1
      obtain ⟨init, c, rfl⟩ : ∃ init c, vs = init ++ [c] := ⟨vs.dropLast, vs.getLast (by intro e; subst e; simp at hn), (List.dropLast_concat_getLast _).symm⟩
      have hil : (init ++ [c]).length = init.length + 1 := by simp
      have hne : init ≠ [] := by intro e; subst e; simp at hn
      have hpos := List.length_pos_iff.2 hne
      have ez : ((init ++ [c]).length : Int) - 2 = ((init.length - 1 : Nat) : Int) := by omega
      have ez2 : ((init ++ [c]).length : Int) - 1 = (init.length : Int) := by omega
      have e1 : (init ++ [c])[init.length - 1]'(by omega) = init.getLast hne := by
        rw [List.getElem_append_left (by omega), List.getLast_eq_getElem]
      have e2 : (init ++ [c])[init.length]'(by omega) = c := by simp
      rw [ck_eq (by omega) (by omega), Option.bind_some, ez, at_nat (by omega), Option.bind_some, ck_eq (by omega) (by omega), Option.bind_some, ez2, at_nat (by omega), Option.bind_some, e1, e2]
      have oa : OkText (init.getLast hne) := ok.2 _ (List.mem_append_left _ (List.getLast_mem hne))
      have ob : OkText c := ok.2 _ (by simp)
      have la := oa.1
      have lb := ob.1
      rw [script_f, (okText_iff _).1 oa, (okText_iff _).1 ob]
      simp only [ne_eq, not_true, if_false]
      rw [Option.bind_some]
      have hst := annot_stays init.length init hne rfl
      have hal := annot_len init hne
      have hcnt : (annot (init ++ [c])).count (init.length : Int) = (algn (init.getLast hne) c).count 2 := by
        rw [annot_snoc init hne]
        refine app1_count _ _ _ (by rw [algn_used, hal]; exact Nat.le_refl _) ?_
        intro o ho
        obtain ⟨k, hk, rfl⟩ := List.getElem_of_mem ho
        have := (hst.get k hk (by omega)).2.1
        omega
      have hsum : sumNew (script (init.getLast hne) c) = (algn (init.getLast hne) c).count 2 := by
        unfold script
        rw [scr_sum _ _ _ (fun h => by cases h)]; simp [sumNew]
      have hle : (algn (init.getLast hne) c).count 2 ≤ 240 := by
        have := algn_len (init.getLast hne) c
        have := List.count_le_length (a := (2 : Int)) (l := algn (init.getLast hne) c)
        omega
      have hsl : (script (init.getLast hne) c).length ≤ 240 := by
        have := scr_len (init.getLast hne) c ([], 0, false)
        simp only [List.length_nil] at this
        unfold script; omega
      have hann : (annot (init ++ [c])).length ≤ 1000000 := by
        rw [annot_len _ (by simp)]; simp; omega
      have s1 := newest_sum ⟨script (init.getLast hne) c⟩ ⟨0, 0⟩ (by simp only; omega) (script (init.getLast hne) c) 0 0 rfl (by simp) (by omega) (by simp only; omega)
      simp only at s1
      have s2 := newest_count (init ++ [c]) (annot (init ++ [c])) ⟨0, 0⟩ (init.length + 1) hil (by omega) (by omega) hann (annot (init ++ [c])) 0 ((sumNew (script (init.getLast hne) c) : Nat) : Int) rfl (by omega) (by omega) (by omega) (by
        rw [show (((init.length + 1 : Nat) : Int) - 1) = (init.length : Int) by omega, hcnt, hsum]; exact Int.le_refl _)
      rw [show (((init.length + 1 : Nat) : Int) - 1) = (init.length : Int) by omega, hcnt, hsum] at s2
      rw [show ((0 : Nat) : Int) = 0 from rfl] at s1
      rw [s1, Option.bind_some]
      unfold changeforgelaw2_BlameNewest.j1 changeforgelaw2_BlameNewest.j2
      rw [show ((0 : Nat) : Int) = 0 from rfl] at s2
      rw [hsum, s2, Option.bind_some, added_eq]
      simp
  · rw [if_pos (by simp [hc])]; simp
end Go.Dc
