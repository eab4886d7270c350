/- File trees: what is at fault with them. -/
import Derived.Test.YtjmigclbilnajaaDoorDcUK
set_option linter.unusedSimpArgs false
set_option linter.unusedVariables false
namespace Go.Dc
open Go

/-- the first datum of a row -/
def scanO {α ρ : Type} (g : Nat → α → Option ρ) : Nat → List α → Option ρ
  | _, [] => Option.none
  | k, x :: r => match g k x with
    | some y => some y
    | Option.none => scanO g (k + 1) r

theorem scan_iter {α ρ : Type} {f : Int → Option (Step Int (ρ ⊕ Unit))} (l : List α) (g : Nat → α → Option ρ)
    (hs : ∀ k (h : k < l.length), (∀ j (hj : j < l.length), j < k → g j l[j] = Option.none) → f (k : Int) = match g k l[k] with | some r => some (.done (.inl r)) | Option.none => some (.next ((k + 1 : Nat) : Int)))
    (he : f (l.length : Int) = some (.done (.inr ()))) : ∀ (rest : List α) (k : Nat), l.drop k = rest → k ≤ l.length → (∀ j (hj : j < l.length), j < k → g j l[j] = Option.none) → iter f (k : Int) = some (orL (scanO g k rest)) := by
  intro rest
  induction rest with
  | nil =>
    intro k hk hkl _
    have := drop_end hk
    have e : k = l.length := by omega
    subst e
    exact iter_done he
  | cons x r ih =>
    intro k hk hkl hp
    obtain ⟨hlt, hx, hr⟩ := drop_at hk
    have e := hs k hlt hp
    rw [hx] at e
    rw [scanO]
    cases hg : g k x with
    | some y => rw [hg] at e; exact iter_done e
    | none =>
      rw [hg] at e
      rw [iter_next e]
      refine ih (k + 1) hr (by omega) fun j hj hjk => ?_
      by_cases hjk' : j = k
      · subst hjk'; rw [hx]; exact hg
      · exact hp j hj (by omega)

theorem scan0 {α ρ : Type} {f : Int → Option (Step Int (ρ ⊕ Unit))} (l : List α) (g : Nat → α → Option ρ)
    (hs : ∀ k (h : k < l.length), (∀ j (hj : j < l.length), j < k → g j l[j] = Option.none) → f (k : Int) = match g k l[k] with | some r => some (.done (.inl r)) | Option.none => some (.next ((k + 1 : Nat) : Int)))
    (he : f (l.length : Int) = some (.done (.inr ()))) : iter f 0 = some (orL (scanO g 0 l)) := by
  have := scan_iter l g hs he l 0 rfl (Nat.zero_le _) (fun j hj h => absurd h (by omega))
  exact this

theorem scanO_none {α ρ : Type} {g : Nat → α → Option ρ} : ∀ {l : List α} {k : Nat}, scanO g k l = Option.none ↔ ∀ j (h : j < l.length), g (k + j) l[j] = Option.none
  | [], k => ⟨fun _ j h => absurd h (by simp), fun _ => rfl⟩
  | x :: r, k => by
    rw [scanO]
    cases hg : g k x with
    | some y =>
      simp only [reduceCtorEq, false_iff]
      intro h
      have := h 0 (by simp)
      rw [Nat.add_zero, List.getElem_cons_zero, hg] at this; cases this
    | none =>
      simp only
      rw [scanO_none]
      constructor
      · intro h j hj
        cases j with
        | zero => exact hg
        | succ j =>
          have := h j (by simpa using hj)
          rw [List.getElem_cons_succ, ← this]; congr 1; omega
      · intro h j hj
        have := h (j + 1) (by simpa using hj)
        rw [List.getElem_cons_succ] at this
        rw [← this]; congr 1; omega

theorem scanO_some {α ρ : Type} {g : Nat → α → Option ρ} : ∀ {l : List α} {k : Nat} {y : ρ}, scanO g k l = some y → ∃ j, ∃ h : j < l.length, g (k + j) l[j] = some y
  | [], k, y, h => by cases h
  | x :: r, k, y, h => by
    rw [scanO] at h
    cases hg : g k x with
    | some z => rw [hg] at h; exact ⟨0, by simp, by rw [Nat.add_zero]; simpa [hg] using h⟩
    | none =>
      rw [hg] at h
      obtain ⟨j, hj, e⟩ := scanO_some h
      exact ⟨j + 1, by simpa using hj, by rw [List.getElem_cons_succ, ← e]; congr 1; omega⟩

/-! ## what lies across a path -/
def clG (p : ByteArray) (e : Int) (k : Nat) (f : File) : Option Bool := if (k : Int) ≠ e ∧ relB f.Path p = true then some true else Option.none
def relAny (l : List File) (p : ByteArray) : Bool := l.any fun f => relB f.Path p

theorem clash_f {l : List File} {p : ByteArray} (hl : ∀ f ∈ l, f.Path.size ≤ 1000000) (hn : l.length ≤ 1000000) (hp : p.size ≤ 1000000) (e : Int) : treepatch_Clash l p e = some (scanO (clG p e) 0 l).isSome := by
  unfold treepatch_Clash
  rw [scan0 l (clG p e) ?_ ?_, Option.bind_some]
  · cases h : scanO (clG p e) 0 l with
    | none => rfl
    | some b =>
      obtain ⟨j, hj, hg⟩ := scanO_some h
      unfold clG at hg
      split at hg
      · cases hg; rfl
      · cases hg
  · intro k h _
    unfold treepatch_Clash.l1 clG
    rw [decide_eq_true (by omega), if_pos rfl, at_nat h, Option.bind_some]
    have hs := hl _ (List.getElem_mem h)
    by_cases hk : (k : Int) = e
    · rw [decide_eq_true hk, if_neg (by simp), Option.bind_some, if_neg Bool.false_ne_true, ck_eq (by omega) (by omega), Option.bind_some, if_neg (fun h => h.1 hk)]; rfl
    · rw [decide_eq_false hk, if_pos (by rfl), Related_f hs hp, Option.bind_some, Option.bind_some]
      cases hr : relB l[k].Path p
      · rw [if_neg Bool.false_ne_true, ck_eq (by omega) (by omega), Option.bind_some, if_neg (fun h => Bool.false_ne_true h.2)]; rfl
      · rw [if_pos rfl, if_pos ⟨hk, rfl⟩]
  · unfold treepatch_Clash.l1
    rw [decide_eq_false (by omega), if_neg Bool.false_ne_true]

theorem clO_all {p : ByteArray} : ∀ (l : List File) (k : Nat), (scanO (clG p (-1)) k l).isSome = relAny l p
  | [], k => rfl
  | f :: l, k => by
    rw [scanO]
    unfold clG relAny
    rw [List.any_cons]
    cases h : relB f.Path p
    · rw [if_neg (fun h => Bool.false_ne_true h.2)]
      simp only [Bool.false_or]
      exact clO_all l (k + 1)
    · rw [if_pos ⟨by omega, rfl⟩]; rfl

theorem clO_ne {p : ByteArray} : ∀ (l : List File) (k j : Nat), (scanO (clG p ((k + j : Nat) : Int)) k l).isSome = relAny (l.eraseIdx j) p
  | [], k, j => rfl
  | f :: l, k, 0 => by
    rw [scanO]
    unfold clG
    rw [if_neg (fun h => h.1 rfl)]
    simp only [List.eraseIdx_zero, List.tail_cons]
    have : ∀ (m : List File) (q : Nat), k < q → (scanO (clG p ((k + 0 : Nat) : Int)) q m).isSome = relAny m p := by
      intro m
      induction m with
      | nil => intro q _; rfl
      | cons f m ih =>
        intro q hq
        rw [scanO]
        unfold clG relAny
        rw [List.any_cons]
        cases h : relB f.Path p
        · rw [if_neg (fun h => Bool.false_ne_true h.2)]
          simp only [Bool.false_or]
          exact ih (q + 1) (by omega)
        · rw [if_pos ⟨by omega, rfl⟩]; rfl
    exact this l (k + 1) (by omega)
  | f :: l, k, j + 1 => by
    rw [scanO]
    have hc := clO_ne (p := p) l (k + 1) j
    rw [show k + 1 + j = k + (j + 1) by omega] at hc
    unfold relAny at hc ⊢
    rw [List.eraseIdx_cons_succ, List.any_cons]
    unfold clG
    cases h : relB f.Path p
    · rw [if_neg (fun h => Bool.false_ne_true h.2)]
      simp only [Bool.false_or]
      exact hc
    · rw [if_pos ⟨by omega, rfl⟩]; rfl

/-! ## the fault of a tree -/
def trG (l : List File) (k : Nat) (f : File) : Option Fault :=
  if pathB f.Path = false then some ⟨12, k⟩
  else if 0 < k ∧ ∃ q, l[k - 1]? = some q ∧ sLt q.Path f.Path = false then some ⟨5, k⟩
  else if relAny (l.take k) f.Path = true then some ⟨7, k⟩
  else if (textFault f.Lines).Code ≠ 0 then some ⟨(textFault f.Lines).Code, k⟩ else Option.none

def treeFault (l : List File) : Fault := if l.length > 24 then ⟨2, -1⟩ else (scanO (trG l) 0 l).getD ⟨0, 0⟩

theorem trG_path {l : List File} {k : Nat} {f : File} (h : trG l k f = Option.none) : pathB f.Path = true := by
  unfold trG at h
  cases hp : pathB f.Path
  · rw [if_pos hp] at h; cases h
  · rfl

theorem ord_dec (p q : ByteArray) : (sLt p q || decide (p = q)) = !sLt q p := by
  rcases sLt_tri p q with h | h | h
  · rw [h, sLt_asymm h]; rfl
  · subst h; rw [sLt_irr]; simp
  · rw [h, sLt_asymm h, decide_eq_false (sLt_ne h).symm]; rfl

theorem prev_f (l : List File) {k : Nat} (hk : k < l.length) (h1000 : l.length ≤ 1000000) : ((if decide ((k : Int) > 0) then (ckK .i64 ((k : Int) - 1)).bind fun z1 => (at? l z1).bind fun y3 => some (sLt l[k].Path y3.Path || decide (l[k].Path = y3.Path)) else some false) : Option Bool) =
    some (decide (0 < k ∧ ∃ q, l[k - 1]? = some q ∧ sLt q.Path l[k].Path = false)) := by
  by_cases h0 : 0 < k
  · have hk1 : k - 1 < l.length := by omega
    rw [decide_eq_true (by omega), if_pos rfl, ck_eq (by omega) (by omega), Option.bind_some, show ((k : Int) - 1) = ((k - 1 : Nat) : Int) by omega, at_nat hk1, Option.bind_some, ord_dec]
    congr 1
    rw [Bool.eq_iff_iff]
    simp only [List.getElem?_eq_getElem hk1, Option.some.injEq, exists_eq_left', h0, true_and, decide_eq_true_eq]
    cases sLt l[k - 1].Path l[k].Path <;> simp
  · rw [decide_eq_false (by omega), if_neg Bool.false_ne_true, decide_eq_false (fun h => h0 h.1)]

theorem Validate_f (t : FileTree) : treepatch_Validate t = some (treeFault t.Files) := by
  obtain ⟨l⟩ := t
  unfold treepatch_Validate treeFault
  simp only
  by_cases h24 : l.length > 24
  · rw [decide_eq_true (by omega), if_pos rfl, if_pos h24]
  rw [decide_eq_false (by omega), if_neg Bool.false_ne_true, if_neg h24, scan0 l (trG l) ?_ ?_, Option.bind_some]
  · cases scanO (trG l) 0 l <;> rfl
  · intro k h hp
    have hsz : ∀ f ∈ l.take k, f.Path.size ≤ 60 := by
      intro f hf
      obtain ⟨j, hj, rfl⟩ := List.getElem_of_mem hf
      rw [List.getElem_take]
      rw [List.length_take] at hj
      exact pathB_size (trG_path (hp j (by omega) (by omega)))
    unfold treepatch_Validate.l1 trG
    simp only
    rw [decide_eq_true (by omega), if_pos rfl, at_nat h, Option.bind_some, ValidPath_f, Option.bind_some]
    cases hv : pathB l[k].Path
    · rw [if_pos (by rfl), if_pos rfl]
    · rw [if_neg (show ¬ ((!true) = true) by decide), if_neg (show ¬ (true = false) by decide), prev_f l h (by omega), Option.bind_some]
      by_cases h5 : 0 < k ∧ ∃ q, l[k - 1]? = some q ∧ sLt q.Path l[k].Path = false
      · rw [decide_eq_true h5, if_pos rfl, if_pos h5]
      · rw [decide_eq_false h5, if_neg Bool.false_ne_true, if_neg h5, cut_eq (by omega) (by omega) (by omega), Option.bind_some, show ((0 : Int)).toNat = 0 from rfl, List.drop_zero, Int.toNat_natCast,
          clash_f (fun f hf => by have := hsz f hf; omega) (by rw [List.length_take]; omega) (by have := pathB_size hv; omega), Option.bind_some, clO_all]
        cases h7 : relAny (l.take k) l[k].Path
        · rw [if_neg Bool.false_ne_true, if_neg Bool.false_ne_true, second_f, Option.bind_some]
          by_cases hc : (textFault l[k].Lines).Code = 0
          · rw [if_pos hc, if_neg (by decide), if_neg (by simpa using hc), ck_eq (by omega) (by omega), Option.bind_some]; rfl
          · rw [if_neg hc, if_pos (by simp [hc]), if_pos hc]
        · rw [if_pos rfl, if_pos rfl]
  · unfold treepatch_Validate.l1
    rw [decide_eq_false (by simp), if_neg Bool.false_ne_true]

theorem relT_iter (l : List File) (k : Nat) (hk : k ≤ l.length) (h1000 : l.length ≤ 1000000) (y : File) : iter (fun s => changeforgeref2_TreeFault.l2 ⟨l⟩ (k : Int) y s) 0 = some (orL (if relAny (l.take k) y.Path = true then some ⟨7, k⟩ else Option.none)) := by
  have hl : (l.take k).length = k := by simp; omega
  rw [scan0 (l.take k) (fun j f => if relB f.Path y.Path = true then some (⟨7, k⟩ : Fault) else Option.none) ?_ ?_]
  · congr 2
    have : ∀ (m : List File) (j : Nat), scanO (fun j f => if relB f.Path y.Path = true then some (⟨7, k⟩ : Fault) else Option.none) j m = if relAny m y.Path = true then some ⟨7, k⟩ else Option.none := by
      intro m
      induction m with
      | nil => intro j; rfl
      | cons f m ih =>
        intro j
        rw [scanO]
        unfold relAny
        rw [List.any_cons]
        cases h : relB f.Path y.Path
        · simp only [Bool.false_eq_true, if_false, Bool.false_or]
          exact ih (j + 1)
        · simp
    exact this _ _
  · intro j hj _
    have hjk : j < k := by omega
    have hjl : j < l.length := by omega
    unfold changeforgeref2_TreeFault.l2
    simp only
    rw [decide_eq_true (by omega), if_pos rfl, at_nat hjl, Option.bind_some, RRelated_f, Option.bind_some, List.getElem_take]
    cases relB l[j].Path y.Path
    · rw [if_neg Bool.false_ne_true, if_neg Bool.false_ne_true, ck_eq (by omega) (by omega), Option.bind_some]; rfl
    · rw [if_pos rfl, if_pos rfl]; rfl
  · unfold changeforgeref2_TreeFault.l2
    rw [hl, decide_eq_false (by omega), if_neg Bool.false_ne_true]

theorem TreeFault_f (t : FileTree) : changeforgeref2_TreeFault t = some (treeFault t.Files) := by
  obtain ⟨l⟩ := t
  unfold changeforgeref2_TreeFault treeFault
  simp only
  by_cases h24 : l.length > 24
  · rw [decide_eq_true (by omega), if_pos rfl, if_pos h24]; rfl
  rw [decide_eq_false (by omega), if_neg Bool.false_ne_true, if_neg h24, scan0 l (trG l) ?_ ?_, Option.bind_some]
  · cases scanO (trG l) 0 l <;> rfl
  · intro k h hp
    unfold changeforgeref2_TreeFault.l1 trG
    simp only
    rw [decide_eq_true (by omega), if_pos rfl, at_nat h, Option.bind_some, PathValid_f, Option.bind_some]
    cases hv : pathB l[k].Path
    · rw [if_pos (by rfl), if_pos rfl]; rfl
    · rw [if_neg (show ¬ ((!true) = true) by decide), if_neg (show ¬ (true = false) by decide), prev_f l h (by omega), Option.bind_some]
      by_cases h5 : 0 < k ∧ ∃ q, l[k - 1]? = some q ∧ sLt q.Path l[k].Path = false
      · rw [decide_eq_true h5, if_pos rfl, if_pos h5]; rfl
      · rw [decide_eq_false h5, if_neg Bool.false_ne_true, if_neg h5, relT_iter l k (by omega) (by omega), Option.bind_some]
        cases h7 : relAny (l.take k) l[k].Path
        · rw [if_neg Bool.false_ne_true, if_neg Bool.false_ne_true]
          unfold orL changeforgeref2_TreeFault.j3 changeforgeref2_TreeFault.j2
          simp only
          rw [linesCode_f, Option.bind_some]
          by_cases hc : (textFault l[k].Lines).Code = 0
          · rw [decide_eq_true hc, if_neg (by decide), if_neg (by simpa using hc), ck_eq (by omega) (by omega), Option.bind_some]; rfl
          · rw [decide_eq_false hc, if_pos (by rfl), if_pos hc]; rfl
        · rw [if_pos rfl, if_pos rfl]; rfl
  · unfold changeforgeref2_TreeFault.l1
    rw [decide_eq_false (by simp), if_neg Bool.false_ne_true]

/-! ## trees without fault -/
structure TrOk (l : List File) : Prop where
  len : l.length ≤ 24
  srt : TSrt l
  path : ∀ f ∈ l, pathB f.Path = true
  rel : l.Pairwise fun f g => relB f.Path g.Path = false
  text : ∀ f ∈ l, OkText f.Lines

theorem trG_code {l : List File} {k : Nat} {f : File} {y : Fault} (h : trG l k f = some y) : y.Code ≠ 0 := by
  unfold trG at h
  split at h
  · cases h; simp
  · split at h
    · cases h; simp
    · split at h
      · cases h; simp
      · split at h
        · rename_i hc; cases h; exact hc
        · cases h

theorem treeFault_ok (l : List File) : treeFault l = ⟨0, 0⟩ ∨ (treeFault l).Code ≠ 0 := by
  unfold treeFault
  split
  · right; decide
  · cases h : scanO (trG l) 0 l with
    | none => left; rfl
    | some y =>
      right
      obtain ⟨j, hj, e⟩ := scanO_some h
      exact trG_code e

theorem treeFault_zero (l : List File) : (treeFault l).Code = 0 ↔ TrOk l := by
  unfold treeFault
  by_cases h24 : l.length > 24
  · rw [if_pos h24]
    exact ⟨fun h => by simp at h, fun h => by have := h.len; omega⟩
  rw [if_neg h24]
  have e1 : (((scanO (trG l) 0 l).getD ⟨0, 0⟩).Code = 0) ↔ scanO (trG l) 0 l = Option.none := by
    cases h : scanO (trG l) 0 l with
    | none => simp
    | some y =>
      obtain ⟨j, hj, e⟩ := scanO_some h
      simp [trG_code e]
  rw [e1, scanO_none]
  simp only [Nat.zero_add]
  constructor
  · intro h
    have h2 : ∀ j (hj : j < l.length), pathB l[j].Path = true ∧ ¬ (0 < j ∧ ∃ q, l[j - 1]? = some q ∧ sLt q.Path l[j].Path = false) ∧ relAny (l.take j) l[j].Path = false ∧ (textFault l[j].Lines).Code = 0 := by
      intro j hj
      have := h j hj
      unfold trG at this
      cases hp : pathB l[j].Path
      · rw [if_pos hp] at this; cases this
      · rw [if_neg (by rw [hp]; decide)] at this
        split at this
        · cases this
        · rename_i h5
          split at this
          · cases this
          · rename_i h7
            split at this
            · cases this
            · rename_i hc
              exact ⟨rfl, h5, by simpa using h7, by simpa using hc⟩
    have hadj : ∀ j (hj : j + 1 < l.length), sLt l[j].Path l[j + 1].Path = true := by
      intro j hj
      have := (h2 (j + 1) hj).2.1
      cases hs : sLt l[j].Path l[j + 1].Path
      · exact absurd ⟨by omega, l[j], by simp, hs⟩ this
      · rfl
    have hlt : ∀ (d i : Nat) (hd : i + d + 1 < l.length), sLt l[i].Path l[i + d + 1].Path = true := by
      intro d
      induction d with
      | zero => intro i hd; exact hadj i hd
      | succ d ih => intro i hd; exact sLt_trans (ih i (by omega)) (hadj (i + d + 1) hd)
    refine ⟨by omega, ?_, ?_, ?_, ?_⟩
    · refine List.pairwise_iff_getElem.2 fun i j hi hj hij => ?_
      obtain ⟨d, rfl⟩ : ∃ d, j = i + d + 1 := ⟨j - i - 1, by omega⟩
      exact hlt d i hj
    · intro f hf
      obtain ⟨j, hj, rfl⟩ := List.getElem_of_mem hf
      exact (h2 j hj).1
    · refine List.pairwise_iff_getElem.2 fun i j hi hj hij => ?_
      have := (h2 j hj).2.2.1
      unfold relAny at this
      rw [List.any_eq_false] at this
      have hm : l[i] ∈ l.take j := by
        rw [List.mem_take_iff_getElem]
        exact ⟨i, by omega, rfl⟩
      simpa using this _ hm
    · intro f hf
      obtain ⟨j, hj, rfl⟩ := List.getElem_of_mem hf
      exact (okText_iff _).2 ((textFault_zero _).2 (h2 j hj).2.2.2)
  · intro h j hj
    have hm := List.getElem_mem hj
    unfold trG
    rw [if_neg (by rw [h.path _ hm]; decide), if_neg ?_, if_neg ?_, if_neg ?_]
    · simpa using (textFault_zero _).1 ((okText_iff _).1 (h.text _ hm))
    · have : relAny (l.take j) l[j].Path = false := by
        unfold relAny
        rw [List.any_eq_false]
        intro f hf
        rw [List.mem_take_iff_getElem] at hf
        obtain ⟨i, hi, rfl⟩ := hf
        have := List.pairwise_iff_getElem.1 h.rel i j (by omega) hj (by omega)
        simpa using this
      rw [this]; decide
    · rintro ⟨h0, q, hq, hs⟩
      have hk1 : j - 1 < l.length := by omega
      rw [List.getElem?_eq_getElem hk1] at hq
      cases hq
      have := List.pairwise_iff_getElem.1 h.srt (j - 1) j hk1 hj (by omega)
      rw [this] at hs; cases hs
end Go.Dc
