/- The document's Renames comes to the program's renames. -/
import Derived.Test.YthpkobkngplbbaaGreatDoorDcNF
import Derived.Test.YthpkobkngplbbaaGreatDoorDcNL
set_option linter.unusedSimpArgs false
set_option linter.unusedVariables false
namespace Go.Dc
open Go

theorem at_some {α : Type} {l : List α} {k : Nat} {x : α} (h : l[k]? = some x) : at? l (k : Int) = some x := by
  unfold at?; rw [if_pos (by omega)]; simpa using h

theorem two_f (a b : FileTree) : changeforgeref2_TwoTrees a b = some (if (treeFault a.Files).Code ≠ 0 then treeFault a.Files else if (treeFault b.Files).Code ≠ 0 then ⟨(treeFault b.Files).Code, -2⟩ else ⟨0, 0⟩) := by
  unfold changeforgeref2_TwoTrees changeforgeref1_At changeforgeref2_TwoTrees.j1
  rw [TreeFault_f, Option.bind_some, TreeFault_f]
  by_cases h1 : (treeFault a.Files).Code = 0
  · have e1 : treeFault a.Files = ⟨0, 0⟩ := by rcases treeFault_ok a.Files with h | h; exact h; exact absurd h1 h
    by_cases h2 : (treeFault b.Files).Code = 0
    · simp [h1, h2, e1]
    · simp [h1, h2, e1]
  · simp [h1]

theorem FileAt_g (t : FileTree) (p : ByteArray) (hl : t.Files.length ≤ 1000000) : ∃ r, changeforgeref2_FileAt t p = some r ∧ (r ≥ 0 ↔ hasF t.Files p = true) := by
  rcases FileAt_f t p hl with ⟨h1, h2⟩ | ⟨k, hk, h1, h2⟩
  · exact ⟨_, h2, by rw [h1]; simp⟩
  · exact ⟨_, h1, by rw [has_iff.2 ⟨_, List.getElem_mem hk, h2⟩]; simp⟩

theorem chain4 {a b c d : Bool} {β : Type} (K : Bool → Option β) : ((if a = true then some true else some b).bind fun x => (if x = true then some true else some c).bind fun x => (if x = true then some true else some d).bind K) = K (a || b || c || d) := by
  cases a <;> cases b <;> cases c <;> cases d <;> rfl

/-- no rename yet from x or to y, and both are candidates -/
def Cand (old newer : List File) (out : List Arr2_ByteArray) (x y : File) : Prop :=
  (∀ q ∈ out, q.e0 ≠ x.Path) ∧ (∀ q ∈ out, q.e1 ≠ y.Path) ∧ hasF newer x.Path = false ∧ hasF old y.Path = false

structure RSt (old newer : List File) (out : List Arr2_ByteArray) (tk : List Bool) (pr : List Int) : Prop where
  p : ∀ i (h : i < old.length), (pr[i]? = some (-1) ∧ ∀ q ∈ out, q.e0 ≠ old[i].Path) ∨ ∃ b, ∃ hb : b < newer.length, pr[i]? = some (b : Int) ∧ (⟨old[i].Path, newer[b].Path⟩ : Arr2_ByteArray) ∈ out
  t : ∀ k (h : k < newer.length), ∃ v, tk[k]? = some v ∧ (v = true ↔ ∃ q ∈ out, q.e1 = newer[k].Path)
  pl : pr.length = old.length
  tl : tk.length = newer.length

structure BI (old newer : List File) (pc : Int) (out : List Arr2_ByteArray) (P : Nat → Nat → Prop) (best bk bi : Int) (found : Bool) : Prop where
  no : found = false → best = pc - 1 ∧ ∀ a b (ha : a < old.length) (hb : b < newer.length), P a b → Cand old newer out old[a] newer[b] → simil old[a].Lines newer[b].Lines < pc
  yes : found = true → ∃ A B, ∃ hA : A < old.length, ∃ hB : B < newer.length, bk = (B : Int) ∧ bi = (A : Int) ∧ P A B ∧ Cand old newer out old[A] newer[B] ∧ best = simil old[A].Lines newer[B].Lines ∧ pc ≤ best ∧
    ∀ a b (ha : a < old.length) (hb : b < newer.length), P a b → Cand old newer out old[a] newer[b] → simil old[a].Lines newer[b].Lines < best ∨ (simil old[a].Lines newer[b].Lines = best ∧ (A < a ∨ (A = a ∧ B ≤ b)))

def Bef (i k a b : Nat) : Prop := a < i ∨ (a = i ∧ b < k)

theorem bi_keep {old newer : List File} {pc : Int} {out : List Arr2_ByteArray} {i k : Nat} {best bk bi : Int} {found : Bool} (h : BI old newer pc out (Bef i k) best bk bi found) (hi : i < old.length) (hk : k < newer.length)
    (hc : Cand old newer out old[i] newer[k] → simil old[i].Lines newer[k].Lines ≤ best) : BI old newer pc out (Bef i (k + 1)) best bk bi found where
  no := fun hf => by
    obtain ⟨e, h1⟩ := h.no hf
    refine ⟨e, fun a b ha hb hp hcc => ?_⟩
    by_cases hn : a = i ∧ b = k
    · obtain ⟨rfl, rfl⟩ := hn
      have := hc hcc
      omega
    · exact h1 a b ha hb (by unfold Bef at hp ⊢; omega) hcc
  yes := fun hf => by
    obtain ⟨A, B, hA, hB, e1, e2, hP, hC, e3, hpc, hall⟩ := h.yes hf
    refine ⟨A, B, hA, hB, e1, e2, by unfold Bef at hP ⊢; omega, hC, e3, hpc, fun a b ha hb hp hcc => ?_⟩
    by_cases hn : a = i ∧ b = k
    · obtain ⟨rfl, rfl⟩ := hn
      have := hc hcc
      unfold Bef at hP
      omega
    · exact hall a b ha hb (by unfold Bef at hp ⊢; omega) hcc

theorem bi_new {old newer : List File} {pc : Int} {out : List Arr2_ByteArray} {i k : Nat} {best bk bi : Int} {found : Bool} (h : BI old newer pc out (Bef i k) best bk bi found) (hi : i < old.length) (hk : k < newer.length)
    (hc : Cand old newer out old[i] newer[k]) (hgt : simil old[i].Lines newer[k].Lines > best) : BI old newer pc out (Bef i (k + 1)) (simil old[i].Lines newer[k].Lines) k i true where
  no := fun hf => by cases hf
  yes := fun _ => by
    refine ⟨i, k, hi, hk, rfl, rfl, by unfold Bef; omega, hc, rfl, ?_, fun a b ha hb hp hcc => ?_⟩
    · cases hfd : found with
      | false => have := (h.no hfd).1; omega
      | true => obtain ⟨_, _, _, _, _, _, _, _, _, _, _⟩ := h.yes hfd; omega
    · by_cases hn : a = i ∧ b = k
      · obtain ⟨rfl, rfl⟩ := hn
        right; omega
      · left
        have hB : Bef i k a b := by unfold Bef at hp ⊢; omega
        cases hfd : found with
        | false =>
          obtain ⟨e, hh⟩ := h.no hfd
          have := hh a b ha hb hB hcc
          omega
        | true =>
          obtain ⟨A, B, _, _, _, _, _, _, _, _, hh⟩ := h.yes hfd
          have := hh a b ha hb hB hcc
          omega

theorem bi_row {old newer : List File} {pc : Int} {out : List Arr2_ByteArray} {i : Nat} {best bk bi : Int} {found : Bool} {P Q : Nat → Nat → Prop} (h : BI old newer pc out P best bk bi found)
    (hpq : ∀ a b, a < old.length → b < newer.length → (P a b ↔ Q a b)) : BI old newer pc out Q best bk bi found where
  no := fun hf => ⟨(h.no hf).1, fun a b ha hb hp => (h.no hf).2 a b ha hb ((hpq a b ha hb).2 hp)⟩
  yes := fun hf => by
    obtain ⟨A, B, hA, hB, e1, e2, hP, hC, e3, hpc, hall⟩ := h.yes hf
    exact ⟨A, B, hA, hB, e1, e2, (hpq A B hA hB).1 hP, hC, e3, hpc, fun a b ha hb hp => hall a b ha hb ((hpq a b ha hb).2 hp)⟩

theorem inner_f {old newer : FileTree} {pc : Int} {out : List Arr2_ByteArray} {tk : List Bool} {pr : List Int} (ho : TrOk old.Files) (hn : TrOk newer.Files) (S : RSt old.Files newer.Files out tk pr) {i : Nat} (hi : i < old.Files.length)
    {s : Int × Int × Int × Bool} (h : BI old.Files newer.Files pc out (Bef i 0) s.1 s.2.1 s.2.2.1 s.2.2.2) :
    ∃ r, iter (fun s => changeforgeref2_Renames.l4 old newer tk pr (i : Int) s.1 s.2.1 s.2.2.1 s.2.2.2.1 s.2.2.2.2) (0, s) = some r ∧ BI old.Files newer.Files pc out (Bef (i + 1) 0) r.1 r.2.1 r.2.2.1 r.2.2.2 := by
  have l1 := ho.len
  have l2 := hn.len
  refine inv_loop (f := fun s => changeforgeref2_Renames.l4 old newer tk pr (i : Int) s.1 s.2.1 s.2.2.1 s.2.2.2.1 s.2.2.2.2) newer.Files.length (fun k s => BI old.Files newer.Files pc out (Bef i k) s.1 s.2.1 s.2.2.1 s.2.2.2)
    (fun r => BI old.Files newer.Files pc out (Bef (i + 1) 0) r.1 r.2.1 r.2.2.1 r.2.2.2) ?_ ?_ s h
  · rintro k ⟨best, bk, bi, found⟩ hk B
    simp only at B
    have hj : ∀ a b c d, changeforgeref2_Renames.j9 (k : Int) a b c d = some (.next (((k + 1 : Nat) : Int), a, b, c, d)) := by
      intro a b c d
      unfold changeforgeref2_Renames.j9
      rw [ck_eq (by omega) (by omega), Option.bind_some]; rfl
    obtain ⟨v, hv, hvt⟩ := S.t k hk
    obtain ⟨z, hz, hzt⟩ : ∃ z, pr[i]? = some z ∧ (z ≥ 0 ↔ ∃ q ∈ out, q.e0 = old.Files[i].Path) := by
      rcases S.p i hi with ⟨h1, h2⟩ | ⟨b, hb, h1, h2⟩
      · exact ⟨_, h1, ⟨fun h => absurd h (by decide), fun ⟨q, hq, e⟩ => absurd e (h2 q hq)⟩⟩
      · exact ⟨_, h1, ⟨fun _ => ⟨_, h2, rfl⟩, fun _ => by omega⟩⟩
    obtain ⟨ra, ea, hra⟩ := FileAt_g newer old.Files[i].Path (by omega)
    obtain ⟨rb, eb, hrb⟩ := FileAt_g old newer.Files[k].Path (by omega)
    have hcand : (decide (z ≥ 0) || v || decide (ra ≥ 0) || decide (rb ≥ 0)) = false ↔ Cand old.Files newer.Files out old.Files[i] newer.Files[k] := by
      unfold Cand
      rw [Bool.or_eq_false_iff, Bool.or_eq_false_iff, Bool.or_eq_false_iff, decide_eq_false_iff_not, decide_eq_false_iff_not, decide_eq_false_iff_not, hzt, hra, hrb]
      constructor
      · rintro ⟨⟨⟨h1, h2⟩, h3⟩, h4⟩
        refine ⟨fun q hq e => h1 ⟨q, hq, e⟩, fun q hq e => ?_, by simpa using h3, by simpa using h4⟩
        rw [hvt.2 ⟨q, hq, e⟩] at h2; cases h2
      · rintro ⟨h1, h2, h3, h4⟩
        refine ⟨⟨⟨fun ⟨q, hq, e⟩ => h1 q hq e, ?_⟩, by simpa using h3⟩, by simpa using h4⟩
        cases hv' : v
        · rfl
        · obtain ⟨q, hq, e⟩ := hvt.1 hv'
          exact absurd e (h2 q hq)
    unfold changeforgeref2_Renames.l4
    simp only
    rw [ite_dec, if_pos (by omega), at_some hz, at_some hv, at_nat hi, at_nat hk]
    simp only [Option.bind_some]
    rw [ea, eb]
    simp only [Option.bind_some]
    rw [chain4, Percent_f (ho.text _ (List.getElem_mem hi)) (hn.text _ (List.getElem_mem hk))]
    simp only [Option.bind_some]
    by_cases hc : Cand old.Files newer.Files out old.Files[i] newer.Files[k]
    · rw [hcand.2 hc, if_neg Bool.false_ne_true, ite_dec]
      by_cases hg : simil old.Files[i].Lines newer.Files[k].Lines > best
      · rw [if_pos hg, hj]
        exact ⟨_, rfl, bi_new B hi hk hc hg⟩
      · rw [if_neg hg, hj]
        exact ⟨_, rfl, bi_keep B hi hk fun _ => by omega⟩
    · have hct : (decide (z ≥ 0) || v || decide (ra ≥ 0) || decide (rb ≥ 0)) = true := by
        cases hh : (decide (z ≥ 0) || v || decide (ra ≥ 0) || decide (rb ≥ 0))
        · exact absurd (hcand.1 hh) hc
        · rfl
      rw [hct, if_pos rfl, hj]
      exact ⟨_, rfl, bi_keep B hi hk fun h => absurd h hc⟩
  · rintro ⟨best, bk, bi, found⟩ B
    simp only at B
    unfold changeforgeref2_Renames.l4
    simp only
    rw [ite_dec, if_neg (by omega)]
    exact ⟨_, rfl, bi_row (i := i) B fun a b ha hb => by unfold Bef; omega⟩

theorem round_f {old newer : FileTree} {pc : Int} {out : List Arr2_ByteArray} {tk : List Bool} {pr : List Int} (ho : TrOk old.Files) (hn : TrOk newer.Files) (S : RSt old.Files newer.Files out tk pr) :
    ∃ r, iter (fun s => changeforgeref2_Renames.l3 old newer tk pr s.1 s.2.1 s.2.2.1 s.2.2.2.1 s.2.2.2.2) (0, pc - 1, 0, 0, false) = some r ∧ ∃ best, BI old.Files newer.Files pc out (fun _ _ => True) best r.1 r.2.1 r.2.2 := by
  have l1 := ho.len
  refine inv_loop (f := fun s => changeforgeref2_Renames.l3 old newer tk pr s.1 s.2.1 s.2.2.1 s.2.2.2.1 s.2.2.2.2) old.Files.length (fun i s => BI old.Files newer.Files pc out (Bef i 0) s.1 s.2.1 s.2.2.1 s.2.2.2)
    (fun r => ∃ best, BI old.Files newer.Files pc out (fun _ _ => True) best r.1 r.2.1 r.2.2) ?_ ?_ (pc - 1, 0, 0, false) ⟨fun _ => ⟨rfl, fun a b _ _ h => by unfold Bef at h; omega⟩, fun h => by cases h⟩
  · rintro i ⟨best, bk, bi, found⟩ hi B
    obtain ⟨r, e, B2⟩ := inner_f (s := (best, bk, bi, found)) ho hn S hi B
    refine ⟨r, ?_, B2⟩
    unfold changeforgeref2_Renames.l3
    simp only
    rw [ite_dec, if_pos (by omega), e, Option.bind_some]
    unfold changeforgeref2_Renames.j8 changeforgeref2_Renames.j7
    rw [ck_eq (by omega) (by omega), Option.bind_some]; rfl
  · rintro ⟨best, bk, bi, found⟩ B
    simp only at B
    unfold changeforgeref2_Renames.l3
    simp only
    rw [ite_dec, if_neg (by omega)]
    exact ⟨_, rfl, best, bi_row (i := 0) B fun a b ha hb => ⟨fun _ => trivial, fun _ => .inl ha⟩⟩

theorem path_ix {l : List File} (h : TSrt l) {i j : Nat} (hi : i < l.length) (hj : j < l.length) (e : l[i].Path = l[j].Path) : i = j := by
  rcases Nat.lt_trichotomy i j with h1 | h1 | h1
  · exact absurd e (sLt_ne ((List.pairwise_iff_getElem.1 h) i j hi hj h1))
  · exact h1
  · exact absurd e.symm (sLt_ne ((List.pairwise_iff_getElem.1 h) j i hj hi h1))

theorem rst_step {old newer : List File} {out : List Arr2_ByteArray} {tk : List Bool} {pr : List Int} (ho : TSrt old) (hn : TSrt newer) (S : RSt old newer out tk pr) {A B : Nat} (hA : A < old.length) (hB : B < newer.length) :
    RSt old newer (out ++ [⟨old[A].Path, newer[B].Path⟩]) (tk.set B true) (pr.set A (B : Int)) where
  pl := by rw [List.length_set]; exact S.pl
  tl := by rw [List.length_set]; exact S.tl
  p := fun i hi => by
    have hpl := S.pl
    by_cases e : A = i
    · subst e
      exact .inr ⟨B, hB, by rw [List.getElem?_set_self (by omega)], by simp⟩
    · rw [List.getElem?_set_ne e]
      rcases S.p i hi with ⟨h1, h2⟩ | ⟨b, hb, h1, h2⟩
      · refine .inl ⟨h1, fun q hq => ?_⟩
        rcases List.mem_append.1 hq with hq | hq
        · exact h2 q hq
        · rw [List.mem_singleton] at hq
          subst hq
          exact fun hh => e (path_ix ho hA hi hh)
      · exact .inr ⟨b, hb, h1, List.mem_append_left _ h2⟩
  t := fun k hk => by
    have htl := S.tl
    by_cases e : B = k
    · subst e
      refine ⟨true, by rw [List.getElem?_set_self (by omega)], fun _ => ⟨_, List.mem_append_right _ (List.mem_singleton.2 rfl), rfl⟩, fun _ => rfl⟩
    · rw [List.getElem?_set_ne e]
      obtain ⟨v, h1, h2⟩ := S.t k hk
      refine ⟨v, h1, h2.trans ⟨fun ⟨q, hq, hh⟩ => ⟨q, List.mem_append_left _ hq, hh⟩, fun ⟨q, hq, hh⟩ => ?_⟩⟩
      rcases List.mem_append.1 hq with hq | hq
      · exact ⟨q, hq, hh⟩
      · rw [List.mem_singleton] at hq
        subst hq
        exact absurd (path_ix hn hB hk hh) e

theorem hit_iff {p : Pair_rename} {out : List Arr2_ByteArray} : out.any (hitB p) = true ↔ ∃ q ∈ out, q.e0 = p.old_ ∨ q.e1 = p.newer := by
  rw [List.any_eq_true]
  constructor
  · rintro ⟨q, hq, h⟩; exact ⟨q, hq, by unfold hitB at h; simpa using h⟩
  · rintro ⟨q, hq, h⟩; exact ⟨q, hq, by unfold hitB; simpa using h⟩

theorem hit_app {p : Pair_rename} {out : List Arr2_ByteArray} (x : Arr2_ByteArray) (h : out.any (hitB p) = true) : (out ++ [x]).any (hitB p) = true := by
  rw [List.any_append, h]; rfl

/-- what of all pairs is not hit is a candidate, and the other way round -/
theorem cand_mem {old newer : FileTree} {pc : Int} {out : List Arr2_ByteArray} {A B : Nat} (hA : A < old.Files.length) (hB : B < newer.Files.length) (hc : Cand old.Files newer.Files out old.Files[A] newer.Files[B])
    (hs : pc ≤ simil old.Files[A].Lines newer.Files[B].Lines) :
    (⟨old.Files[A].Path, newer.Files[B].Path, simil old.Files[A].Lines newer.Files[B].Lines⟩ : Pair_rename) ∈ allF pc (onlyF old.Files newer.Files) (onlyF newer.Files old.Files) ∧
    out.any (hitB ⟨old.Files[A].Path, newer.Files[B].Path, simil old.Files[A].Lines newer.Files[B].Lines⟩) = false := by
  obtain ⟨h1, h2, h3, h4⟩ := hc
  refine ⟨mem_all.2 ⟨_, only_mem.2 ⟨List.getElem_mem hA, h3⟩, _, only_mem.2 ⟨List.getElem_mem hB, h4⟩, hs, rfl⟩, ?_⟩
  cases hh : out.any (hitB ⟨old.Files[A].Path, newer.Files[B].Path, simil old.Files[A].Lines newer.Files[B].Lines⟩)
  · rfl
  · obtain ⟨q, hq, e | e⟩ := hit_iff.1 hh
    · exact absurd e (h1 q hq)
    · exact absurd e (h2 q hq)

theorem mem_cand {old newer : FileTree} {pc : Int} {out : List Arr2_ByteArray} {p : Pair_rename} (hp : p ∈ allF pc (onlyF old.Files newer.Files) (onlyF newer.Files old.Files)) (hh : out.any (hitB p) = false) :
    ∃ A B, ∃ hA : A < old.Files.length, ∃ hB : B < newer.Files.length, Cand old.Files newer.Files out old.Files[A] newer.Files[B] ∧ pc ≤ simil old.Files[A].Lines newer.Files[B].Lines ∧ p = ⟨old.Files[A].Path, newer.Files[B].Path, simil old.Files[A].Lines newer.Files[B].Lines⟩ := by
  obtain ⟨x, hx, y, hy, hs, rfl⟩ := mem_all.1 hp
  obtain ⟨x1, x2⟩ := only_mem.1 hx
  obtain ⟨y1, y2⟩ := only_mem.1 hy
  obtain ⟨A, hA, rfl⟩ := List.getElem_of_mem x1
  obtain ⟨B, hB, rfl⟩ := List.getElem_of_mem y1
  refine ⟨A, B, hA, hB, ⟨fun q hq e => ?_, fun q hq e => ?_, x2, y2⟩, hs, rfl⟩
  · rw [hit_iff.2 ⟨q, hq, .inl e⟩] at hh; cases hh
  · rw [hit_iff.2 ⟨q, hq, .inr e⟩] at hh; cases hh

theorem rounds {old newer : FileTree} {pc : Int} (ho : TrOk old.Files) (hn : TrOk newer.Files) (hp0 : 0 ≤ pc) (hp1 : pc ≤ 100) {ps : List Pair_rename} (hperm : ps.Perm (allF pc (onlyF old.Files newer.Files) (onlyF newer.Files old.Files)))
    (hsrt : ps.Pairwise fun x y => ¬ L1 y x) : ∀ (rest pre : List Pair_rename) (out : List Arr2_ByteArray) (tk : List Bool) (pr : List Int), ps = pre ++ rest → (∀ p ∈ pre, out.any (hitB p) = true) → RSt old.Files newer.Files out tk pr →
      ∃ pr' tk', iter (fun s => changeforgeref2_Renames.l2 old newer pc s.1 s.2.1 s.2.2) (true, tk, pr) = some pr' ∧ RSt old.Files newer.Files (rest.foldl stepG out) tk' pr'
  | [], pre, out, tk, pr, e, hpre, S => by
    obtain ⟨⟨bk, bi, found⟩, er, best, B⟩ := round_f (pc := pc) ho hn S
    have hf : found = false := by
      cases hf : found
      · rfl
      · obtain ⟨A, B', hA, hB, e1, e2, _, hC, e3, hpc, _⟩ := B.yes hf
        obtain ⟨m1, m2⟩ := cand_mem (pc := pc) hA hB hC (by omega)
        have := hpre _ (by rw [List.append_nil] at e; rw [← e]; exact hperm.mem_iff.2 m1)
        rw [m2] at this; cases this
    subst hf
    have s1 : changeforgeref2_Renames.l2 old newer pc true tk pr = some (.next (false, tk, pr)) := by
      unfold changeforgeref2_Renames.l2
      rw [if_pos rfl, ck_eq (by omega) (by omega), Option.bind_some, er, Option.bind_some]
      unfold changeforgeref2_Renames.j6
      rw [if_neg Bool.false_ne_true]; rfl
    have s2 : changeforgeref2_Renames.l2 old newer pc false tk pr = some (.done pr) := by
      unfold changeforgeref2_Renames.l2
      rw [if_neg Bool.false_ne_true]
    exact ⟨pr, tk, by rw [iter_next (m := fun s : Bool × List Bool × List Int => changeforgeref2_Renames.l2 old newer pc s.1 s.2.1 s.2.2) s1, iter_done (m := fun s : Bool × List Bool × List Int => changeforgeref2_Renames.l2 old newer pc s.1 s.2.1 s.2.2) s2], S⟩
  | p :: r, pre, out, tk, pr, e, hpre, S => by
    by_cases hh : out.any (hitB p) = true
    · have : stepG out p = out := by unfold stepG; rw [if_pos hh]
      rw [List.foldl_cons, this]
      exact rounds ho hn hp0 hp1 hperm hsrt r (pre ++ [p]) out tk pr (by rw [e]; simp) (fun q hq => by
        rcases List.mem_append.1 hq with hq | hq
        · exact hpre q hq
        · rw [List.mem_singleton] at hq; subst hq; exact hh) S
    · have hh : out.any (hitB p) = false := by simpa using hh
      have hst : stepG out p = out ++ [⟨p.old_, p.newer⟩] := by unfold stepG; rw [hh, if_neg Bool.false_ne_true]
      obtain ⟨⟨bk, bi, found⟩, er, best, B⟩ := round_f (pc := pc) ho hn S
      obtain ⟨A0, B0, hA0, hB0, hC0, hs0, hp⟩ := mem_cand (hperm.mem_iff.1 (by rw [e]; simp : p ∈ ps)) hh
      cases hf : found
      · rw [hf] at B
        have := (B.no rfl).2 A0 B0 hA0 hB0 trivial hC0
        omega
      rw [hf] at B er
      obtain ⟨A, B', hA, hB, e1, e2, _, hC, e3, hpc, hall⟩ := B.yes rfl
      simp only at e1 e2
      subst e1 e2
      obtain ⟨m1, m2⟩ := cand_mem (pc := pc) hA hB hC (by omega)
      have hPp : (⟨old.Files[A].Path, newer.Files[B'].Path, simil old.Files[A].Lines newer.Files[B'].Lines⟩ : Pair_rename) = p := by
        have hm := hperm.mem_iff.2 m1
        rw [e] at hm
        rcases List.mem_append.1 hm with hm | hm
        · rw [hpre _ hm] at m2; cases m2
        rcases List.mem_cons.1 hm with hm | hm
        · exact hm
        rw [e, List.pairwise_append] at hsrt
        have hn1 := (List.pairwise_cons.1 hsrt.2.1).1 _ hm
        have := hall A0 B0 hA0 hB0 trivial hC0
        rw [e3] at this
        rcases this with h | ⟨h, h2⟩
        · refine absurd (.inl ?_) hn1
          rw [hp]; exact h
        · rcases h2 with h2 | ⟨h2, h3⟩
          · refine absurd (.inr ⟨?_, .inl ?_⟩) hn1
            · rw [hp]; exact h
            · rw [hp]; exact (List.pairwise_iff_getElem.1 ho.srt) A A0 hA hA0 h2
          · subst h2
            rcases Nat.lt_or_eq_of_le h3 with h3 | h3
            · refine absurd (.inr ⟨?_, .inr ⟨?_, ?_⟩⟩) hn1
              · rw [hp]; exact h
              · rw [hp]
              · rw [hp]; exact (List.pairwise_iff_getElem.1 hn.srt) B' B0 hB hB0 h3
            · subst h3
              exact hp.symm
      have hpl := S.pl
      have htl := S.tl
      have s1 : changeforgeref2_Renames.l2 old newer pc true tk pr = some (.next (true, tk.set B' true, pr.set A (B' : Int))) := by
        unfold changeforgeref2_Renames.l2
        rw [if_pos rfl, ck_eq (by omega) (by omega), Option.bind_some, er, Option.bind_some]
        unfold changeforgeref2_Renames.j6
        simp only
        rw [if_pos trivial, at_nat (by omega), Option.bind_some, Option.bind_some, at_nat (by omega), Option.bind_some, Option.bind_some]; rfl
      have S2 := rst_step ho.srt hn.srt S hA hB
      rw [List.foldl_cons, hst]
      have ex : (⟨p.old_, p.newer⟩ : Arr2_ByteArray) = ⟨old.Files[A].Path, newer.Files[B'].Path⟩ := by rw [← hPp]
      rw [ex]
      obtain ⟨pr', tk', h1, h2⟩ := rounds ho hn hp0 hp1 hperm hsrt r (pre ++ [p]) (out ++ [⟨old.Files[A].Path, newer.Files[B'].Path⟩]) _ _ (by rw [e]; simp) (fun q hq => by
        rcases List.mem_append.1 hq with hq | hq
        · exact hit_app _ (hpre q hq)
        · rw [List.mem_singleton] at hq; subst hq
          exact hit_iff.2 ⟨⟨old.Files[A].Path, newer.Files[B'].Path⟩, List.mem_append_right _ (List.mem_singleton.2 rfl), .inl (congrArg Pair_rename.old_ hPp)⟩) S2
      exact ⟨pr', tk', by rw [iter_next (m := fun s : Bool × List Bool × List Int => changeforgeref2_Renames.l2 old newer pc s.1 s.2.1 s.2.2) s1]; exact h1, h2⟩

theorem Renames_f (old newer : FileTree) (pc : Int) {out : List Arr2_ByteArray} (h0 : (detFault old newer pc).Code ≠ 0 → out = []) (h1 : (detFault old newer pc).Code = 0 → ∃ ps, DetX old newer pc ps out) :
    changeforgeref2_Renames old newer pc = some (out, detFault old newer pc) := by
  unfold changeforgeref2_Renames
  rw [two_f, Option.bind_some]
  by_cases c1 : (treeFault old.Files).Code ≠ 0
  · have hd : detFault old newer pc = treeFault old.Files := by unfold detFault; rw [if_pos c1]
    rw [if_pos c1, ite_ndec, if_neg c1, hd, h0 (by rw [hd]; exact c1)]
  rw [if_neg c1]
  by_cases c2 : (treeFault newer.Files).Code ≠ 0
  · have hd : detFault old newer pc = ⟨(treeFault newer.Files).Code, -2⟩ := by unfold detFault; rw [if_neg c1, if_pos c2]
    rw [if_pos c2, ite_ndec, if_neg c2, hd, h0 (by rw [hd]; exact c2)]
  rw [if_neg c2, ite_ndec, if_pos rfl, ors, Option.bind_some, ite_dec]
  by_cases c3 : pc < 0 ∨ pc > 100
  · have hd : detFault old newer pc = ⟨3, -3⟩ := by unfold detFault; rw [if_neg c1, if_neg c2, if_pos c3]
    rw [if_pos c3, hd, h0 (by rw [hd]; decide)]; rfl
  have hd : detFault old newer pc = ⟨0, 0⟩ := by unfold detFault; rw [if_neg c1, if_neg c2, if_neg c3]
  rw [if_neg c3, hd]
  obtain ⟨ps, D⟩ := h1 (by rw [hd])
  have l1 := D.o.len
  have l2 := D.n.len
  rw [mk_eq (by omega) (by omega), Option.bind_some, mk_eq (by omega) (by omega), Option.bind_some]
  simp only [Int.toNat_natCast]
  have e5 : iter (fun s => changeforgeref2_Renames.l5 s.1 s.2) (0, List.replicate old.Files.length (0 : Int)) = some (List.replicate old.Files.length (-1)) := by
    obtain ⟨r, e, h⟩ := inv_loop (f := fun s => changeforgeref2_Renames.l5 s.1 s.2) old.Files.length (fun k s => s = List.replicate k (-1) ++ List.replicate (old.Files.length - k) (0 : Int)) (fun r => r = List.replicate old.Files.length (-1)) (by
      rintro k s hk rfl
      have hlen : (List.replicate k (-1) ++ List.replicate (old.Files.length - k) (0 : Int)).length = old.Files.length := by simp; omega
      refine ⟨_, ?_, rfl⟩
      unfold changeforgeref2_Renames.l5
      simp only
      rw [hlen, ite_dec, if_pos (by omega), at_nat (by rw [hlen]; omega), Option.bind_some, Option.bind_some, ck_eq (by omega) (by omega), Option.bind_some]
      congr 3
      simp only [Int.toNat_natCast]
      obtain ⟨d, hd⟩ : ∃ d, old.Files.length - k = d + 1 := ⟨old.Files.length - k - 1, by omega⟩
      rw [hd, show old.Files.length - (k + 1) = d from by omega, List.replicate_succ, List.set_append_right _ _ (by simp), List.length_replicate, Nat.sub_self, List.set_cons_zero, List.replicate_succ' , List.append_assoc]; rfl) (by
      rintro s rfl
      have hlen : (List.replicate old.Files.length (-1) ++ List.replicate (old.Files.length - old.Files.length) (0 : Int)).length = old.Files.length := by simp
      unfold changeforgeref2_Renames.l5
      simp only
      rw [hlen, ite_dec, if_neg (by omega)]
      exact ⟨_, rfl, by simp⟩) (List.replicate old.Files.length 0) (by simp)
    rw [e, h]
  rw [e5, Option.bind_some]
  unfold changeforgeref2_Renames.j1
  have S0 : RSt old.Files newer.Files [] (List.replicate newer.Files.length false) (List.replicate old.Files.length (-1)) :=
    ⟨fun i hi => .inl ⟨by rw [List.getElem?_replicate, if_pos hi], by simp⟩, fun k hk => ⟨false, by rw [List.getElem?_replicate, if_pos hk], by simp⟩, by simp, by simp⟩
  obtain ⟨pr, tk, er, S⟩ := rounds D.o D.n D.pc0 D.pc1 D.perm D.srt ps [] [] _ _ rfl (by simp) S0
  rw [er, Option.bind_some]
  unfold changeforgeref2_Renames.j2
  have G := D.grd
  have hinj := grd_inj G
  have hmem : ∀ q, q ∈ out ↔ q ∈ ps.foldl stepG [] := fun q => D.mem.mem_iff
  have hfrm : ∀ q ∈ ps.foldl stepG [], ∃ a, ∃ ha : a < old.Files.length, q.e0 = old.Files[a].Path := by
    intro q hq
    obtain ⟨p, hp, rfl⟩ := G.frm q hq
    obtain ⟨x, hx, y, hy, _, rfl⟩ := mem_all.1 (D.perm.mem_iff.1 hp)
    obtain ⟨A, hA, rfl⟩ := List.getElem_of_mem (only_mem.1 hx).1
    exact ⟨A, hA, rfl⟩
  generalize ps.foldl stepG [] = gs at S G hinj hmem hfrm
  obtain ⟨r, e, h1, h2⟩ := inv_loop (f := fun s => changeforgeref2_Renames.l1 old newer pr s.1 s.2) old.Files.length
    (fun i s => s.length ≤ i ∧ s.Pairwise (fun x y : Arr2_ByteArray => sLt x.e0 y.e0 = true) ∧ ∀ q, q ∈ s ↔ q ∈ gs ∧ ∃ a, ∃ ha : a < old.Files.length, a < i ∧ q.e0 = old.Files[a].Path)
    (fun r => r.Pairwise (fun x y : Arr2_ByteArray => sLt x.e0 y.e0 = true) ∧ ∀ q, q ∈ r ↔ q ∈ gs) (by
    rintro i s hi ⟨g1, g2, g3⟩
    have hj : ∀ x, changeforgeref2_Renames.j4 (i : Int) x = some (.next (((i + 1 : Nat) : Int), x)) := by
      intro x
      unfold changeforgeref2_Renames.j4
      rw [ck_eq (by omega) (by omega), Option.bind_some]; rfl
    have hpl := S.pl
    unfold changeforgeref2_Renames.l1
    simp only
    rw [ite_dec, if_pos (by omega)]
    rcases S.p i hi with ⟨p1, p2⟩ | ⟨b, hb, p1, p2⟩
    · rw [at_some p1, Option.bind_some, if_neg (by decide), hj]
      refine ⟨_, rfl, by omega, g2, fun q => (g3 q).trans ⟨fun ⟨a1, a, ha, a2, a3⟩ => ⟨a1, a, ha, by omega, a3⟩, fun ⟨a1, a, ha, a2, a3⟩ => ⟨a1, a, ha, ?_, a3⟩⟩⟩
      rcases Nat.lt_or_eq_of_le (Nat.le_of_lt_succ a2) with h | h
      · exact h
      · subst h; exact absurd a3 (p2 q a1)
    · rw [at_some p1, Option.bind_some, ite_dec, if_pos (by omega), at_nat hi, Option.bind_some, Option.bind_some, at_nat hb, Option.bind_some, app_eq (by rw [List.length_singleton]; omega), Option.bind_some, hj]
      refine ⟨_, rfl, by rw [List.length_append, List.length_singleton]; omega, ?_, fun q => ?_⟩
      · rw [List.pairwise_append]
        refine ⟨g2, List.pairwise_singleton _ _, fun x hx y hy => ?_⟩
        rw [List.mem_singleton] at hy
        subst hy
        obtain ⟨_, a, ha, a2, a3⟩ := (g3 x).1 hx
        rw [a3]
        exact (List.pairwise_iff_getElem.1 D.o.srt) a i ha hi a2
      · rw [List.mem_append, List.mem_singleton, g3]
        constructor
        · rintro (⟨a1, a, ha, a2, a3⟩ | rfl)
          · exact ⟨a1, a, ha, by omega, a3⟩
          · exact ⟨p2, i, hi, by omega, rfl⟩
        · rintro ⟨a1, a, ha, a2, a3⟩
          rcases Nat.lt_or_eq_of_le (Nat.le_of_lt_succ a2) with h | h
          · exact .inl ⟨a1, a, ha, h, a3⟩
          · subst h
            exact .inr (hinj q a1 _ p2 a3)) (by
    rintro s ⟨g1, g2, g3⟩
    have hpl := S.pl
    unfold changeforgeref2_Renames.l1
    simp only
    rw [ite_dec, if_neg (by omega)]
    exact ⟨_, rfl, g2, fun q => (g3 q).trans ⟨fun h => h.1, fun h => ⟨h, by obtain ⟨a, ha, h2⟩ := hfrm q h; exact ⟨a, ha, ha, h2⟩⟩⟩⟩) [] ⟨by simp, List.Pairwise.nil, fun q => ⟨fun h => (by cases h), fun ⟨_, a, _, h, _⟩ => (by omega)⟩⟩
  rw [e, Option.bind_some]
  unfold changeforgeref2_Renames.j3
  rw [pw_ext (R := fun x y : Arr2_ByteArray => sLt x.e0 y.e0 = true) (fun x y h1 h2 => by have := sLt_trans h1 h2; rw [sLt_irr] at this; cases this) h1 D.osrt fun q => (h2 q).trans (hmem q).symm]
end Go.Dc
