/- Exchanged changes have the same effect: the law TreecommuteSameEffect. -/
import Derived.Test.YtjmigclbilnajaaDoorDcUQ
set_option linter.unusedSimpArgs false
set_option linter.unusedVariables false
namespace Go.Dc
open Go

/-- what an exchanged pair of patches makes of a text -/
theorem comm_apply2 {p q : Patch} (h1 : (commF p q).2.2.2.Code = 0) (h2 : (commF p q).2.2.1 = true) {t : List ByteArray} (g : (applyF p t).2.Code = 0) (h : (applyF q (applyF p t).1).2.Code = 0) :
    ((applyF (commF p q).1 t).2.Code = 10) ∨ ((applyF (commF p q).1 t).2.Code = 0 ∧ ((applyF (commF p q).2.1 (applyF (commF p q).1 t).1).2.Code = 10 ∨
      applyF (commF p q).2.1 (applyF (commF p q).1 t).1 = applyF q (applyF p t).1)) := by
  obtain ⟨a1, a2, a3, a4, a5, a6⟩ := applyF_ok g
  have ho := applyF_text g
  rw [a6] at h ho ⊢
  simp only at h ho ⊢
  obtain ⟨b1, b2, b3, b4, b5, b6⟩ := applyF_ok h
  obtain ⟨c1, c2, c3, c4, c5, c6⟩ := commF_made h1 h2
  obtain ⟨e1, e2, e3⟩ := commF_effect h1 h2 t a4 b4
  have k1 := applyF_of (p := (commF p q).1) (by rw [c6]; exact c4) a3.2 a3.1 e1
  by_cases n1 : (rawS (commF p q).1.Hunks t 0).length > 120
  · rw [if_pos n1] at k1
    left; rw [k1]
  · rw [if_neg n1] at k1
    right
    rw [k1]
    refine ⟨rfl, ?_⟩
    have l1 : Lines (rawS (commF p q).1.Hunks t 0) := raw_lines (p := (commF p q).1) (by rw [c6]; exact c4) a3.2
    have k2 := applyF_of (p := (commF p q).2.1) (by rw [c6]; exact c5) l1 (by omega) e2
    simp only
    rw [k2, e3, b6]
    rw [if_neg (by omega)]
    exact Or.inr rfl


/-! ## a change by what lies in the trees -/
def Can (c : TreeChange) (l : List File) (x : Option File) : Prop :=
  (c.Kind = 1 ∧ (∀ f ∈ l, relB f.Path c.Path = false) ∧ x = some ⟨c.Path, c.Lines⟩) ∨
  (c.Kind = 2 ∧ (⟨c.Path, c.Lines⟩ : File) ∈ l ∧ x = Option.none) ∨
  (c.Kind = 3 ∧ ∃ L, (⟨c.Path, L⟩ : File) ∈ l ∧ (∀ f ∈ l, f.Path ≠ c.Path → relB f.Path c.To = false) ∧ x = some ⟨c.To, L⟩) ∨
  (c.Kind = 4 ∧ ∃ L, (⟨c.Path, L⟩ : File) ∈ l ∧ (applyF c.Patch L).2.Code = 0 ∧ x = some ⟨c.Path, (applyF c.Patch L).1⟩)
def Res (P : ByteArray) (l : List File) (x : Option File) (l' : List File) : Prop := ∀ f, f ∈ l' ↔ (f ∈ l ∧ f.Path ≠ P) ∨ some f = x

theorem srt_uniq {l : List File} (h : TSrt l) {f g : File} (hf : f ∈ l) (hg : g ∈ l) (e : f.Path = g.Path) : f = g := by
  obtain ⟨i, hi, rfl⟩ := List.getElem_of_mem hf
  obtain ⟨j, hj, rfl⟩ := List.getElem_of_mem hg
  have h1 := (pos_of h hi).1
  have h2 := (pos_of h hj).1
  rw [e, h2] at h1
  subst h1; rfl

theorem erase_mem {l : List File} (h : TSrt l) {j : Nat} (hj : j < l.length) {f : File} : f ∈ l.eraseIdx j ↔ f ∈ l ∧ f.Path ≠ l[j].Path := by
  rw [List.mem_eraseIdx_iff_getElem]
  constructor
  · rintro ⟨i, hi, hne, rfl⟩
    refine ⟨List.getElem_mem _, fun e => hne ?_⟩
    have h1 := (pos_of h hi).1
    have h2 := (pos_of h hj).1
    rw [e, h2] at h1; exact h1.symm
  · rintro ⟨hf, hne⟩
    obtain ⟨i, hi, rfl⟩ := List.getElem_of_mem hf
    exact ⟨i, hi, fun e => hne (by subst e; rfl), rfl⟩

theorem rel_all {l : List File} {p : ByteArray} : relAny l p = false ↔ ∀ f ∈ l, relB f.Path p = false := by
  unfold relAny
  rw [List.any_eq_false]
  simp

theorem res_eq : ∀ {a b : List File}, TSrt a → TSrt b → (∀ f, f ∈ a ↔ f ∈ b) → a = b
  | [], [], _, _, _ => rfl
  | [], g :: b, _, _, h => absurd ((h g).2 List.mem_cons_self) (by simp)
  | f :: a, [], _, _, h => absurd ((h f).1 List.mem_cons_self) (by simp)
  | f :: a, g :: b, ha, hb, h => by
    have ha' := List.pairwise_cons.1 ha
    have hb' := List.pairwise_cons.1 hb
    have e : f = g := by
      rcases List.mem_cons.1 ((h f).1 List.mem_cons_self) with e | e
      · exact e
      · rcases List.mem_cons.1 ((h g).2 List.mem_cons_self) with e2 | e2
        · exact e2.symm
        · have h1 := hb'.1 f e
          have h2 := ha'.1 g e2
          rw [sLt_asymm h1] at h2; cases h2
    subst e
    congr 1
    refine res_eq ha'.2 hb'.2 fun x => ?_
    have hne : ∀ y ∈ a, y ≠ f := fun y hy e => by
      subst e; have := ha'.1 y hy; rw [sLt_irr] at this; cases this
    have hne2 : ∀ y ∈ b, y ≠ f := fun y hy e => by
      subst e; have := hb'.1 y hy; rw [sLt_irr] at this; cases this
    constructor
    · intro hx
      rcases List.mem_cons.1 ((h x).1 (List.mem_cons_of_mem _ hx)) with e | e
      · exact absurd e (hne x hx)
      · exact e
    · intro hx
      rcases List.mem_cons.1 ((h x).2 (List.mem_cons_of_mem _ hx)) with e | e
      · exact absurd e (hne2 x hx)
      · exact e

theorem mem_has {l : List File} (h : TSrt l) {P : ByteArray} {L : List ByteArray} (hm : (⟨P, L⟩ : File) ∈ l) : ∃ hp : posF l P < l.length, hasF l P = true ∧ l[posF l P] = ⟨P, L⟩ := by
  obtain ⟨i, hi, e⟩ := List.getElem_of_mem hm
  have := pos_of h hi
  rw [e] at this
  simp only at this
  refine ⟨by omega, this.2, ?_⟩
  rw [← e]
  congr 1; exact this.1

theorem can_make {l : List File} (h : TrOk l) {c : TreeChange} (hc : OkCh c) {x : Option File} (hx : Can c l x) : (c.Kind = 1 ∧ (makeF c l).1 = 14) ∨ ((makeF c l).1 = 0 ∧ Res c.Path l x (makeF c l).2) := by
  rcases hx with ⟨k, h1, rfl⟩ | ⟨k, h1, rfl⟩ | ⟨k, L, h1, h2, rfl⟩ | ⟨k, L, h1, h2, rfl⟩
  · unfold makeF
    rw [if_pos k, rel_all.2 h1, if_neg Bool.false_ne_true]
    by_cases h24 : 24 ≤ l.length
    · rw [if_pos h24]; exact .inl ⟨k, rfl⟩
    · rw [if_neg h24]
      refine .inr ⟨rfl, fun f => ?_⟩
      simp only
      rw [ins_mem]
      constructor
      · rintro (rfl | hf)
        · exact .inr rfl
        · exact .inl ⟨hf, fun e => by have := h1 f hf; rw [e, relB_self] at this; cases this⟩
      · rintro (hf | hf)
        · exact .inr hf.1
        · exact .inl (Option.some.inj hf)
  · right
    obtain ⟨hp, hh, e⟩ := mem_has h.srt h1
    unfold makeF
    rw [if_neg (by omega), hh, if_pos rfl, List.getElem?_eq_getElem hp]
    simp only
    rw [if_pos k, e, if_neg (by simp)]
    refine ⟨rfl, fun f => ?_⟩
    simp only
    rw [erase_mem h.srt hp, e]
    simp
  · right
    obtain ⟨hp, hh, e⟩ := mem_has h.srt h1
    have hr : relAny (l.eraseIdx (posF l c.Path)) c.To = false := rel_all.2 fun f hf => by
      rw [erase_mem h.srt hp, e] at hf
      exact h2 f hf.1 hf.2
    unfold makeF
    rw [if_neg (by omega), hh, if_pos rfl, List.getElem?_eq_getElem hp]
    simp only
    rw [if_neg (by omega), if_pos k, hr, if_neg Bool.false_ne_true]
    refine ⟨rfl, fun f => ?_⟩
    simp only
    rw [ins_mem, erase_mem h.srt hp, e]
    simp only [Option.some.injEq]
    exact Or.comm
  · right
    obtain ⟨hp, hh, e⟩ := mem_has h.srt h1
    unfold makeF
    rw [if_neg (by omega), hh, if_pos rfl, List.getElem?_eq_getElem hp]
    simp only
    rw [if_neg (by omega), if_neg (by omega), e]
    simp only
    rw [if_neg (fun hn => hn h2)]
    refine ⟨rfl, fun f => ?_⟩
    simp only
    rw [← ins_erase h.srt hp (x := ⟨c.Path, (applyF c.Patch L).1⟩) (by rw [e]), ins_mem, erase_mem h.srt hp, e]
    simp only [Option.some.injEq]
    exact Or.comm

theorem make_can {l : List File} (h : TrOk l) {c : TreeChange} (hc : OkCh c) (h0 : (makeF c l).1 = 0) : ∃ x, Can c l x ∧ Res c.Path l x (makeF c l).2 := by
  have key : ∃ x, Can c l x := by
    have hk := hc.kind
    unfold makeF at h0
    by_cases k1 : c.Kind = 1
    · rw [if_pos k1] at h0
      cases hr : relAny l c.Path
      · exact ⟨_, .inl ⟨k1, rel_all.1 hr, rfl⟩⟩
      · rw [hr, if_pos rfl] at h0; simp at h0
    rw [if_neg k1] at h0
    cases hh : hasF l c.Path with
    | false => rw [hh] at h0; simp at h0
    | true =>
      obtain ⟨hp, he⟩ := has_pos h.srt hh
      have hm : (⟨c.Path, l[posF l c.Path].Lines⟩ : File) ∈ l := by
        have : (⟨c.Path, l[posF l c.Path].Lines⟩ : File) = l[posF l c.Path] := by
          generalize l[posF l c.Path] = g at he
          obtain ⟨gp, gl⟩ := g
          simp only at he
          rw [he]
        rw [this]; exact List.getElem_mem hp
      rw [hh, if_pos rfl, List.getElem?_eq_getElem hp] at h0
      simp only at h0
      by_cases k2 : c.Kind = 2
      · rw [if_pos k2] at h0
        by_cases ht : l[posF l c.Path].Lines = c.Lines
        · rw [ht] at hm; exact ⟨_, .inr (.inl ⟨k2, hm, rfl⟩)⟩
        · rw [if_pos ht] at h0; simp at h0
      rw [if_neg k2] at h0
      by_cases k3 : c.Kind = 3
      · rw [if_pos k3] at h0
        cases hr : relAny (l.eraseIdx (posF l c.Path)) c.To
        · refine ⟨_, .inr (.inr (.inl ⟨k3, _, hm, fun f hf hne => ?_, rfl⟩))⟩
          refine rel_all.1 hr f ?_
          rw [erase_mem h.srt hp, he]; exact ⟨hf, hne⟩
        · rw [hr, if_pos rfl] at h0; simp at h0
      · rw [if_neg k3] at h0
        by_cases ha : (applyF c.Patch l[posF l c.Path].Lines).2.Code = 0
        · exact ⟨_, .inr (.inr (.inr ⟨by omega, _, hm, ha, rfl⟩))⟩
        · rw [if_pos ha] at h0; exact absurd h0 ha
  obtain ⟨x, hx⟩ := key
  rcases can_make h hc hx with ⟨_, e⟩ | ⟨_, e⟩
  · rw [h0] at e; cases e
  · exact ⟨x, hx, e⟩

theorem can_path {c : TreeChange} {l : List File} {y : File} (h : Can c l (some y)) : y.Path ∈ pathsF c := by
  rcases h with ⟨k, _, e⟩ | ⟨k, _, e⟩ | ⟨k, L, _, _, e⟩ | ⟨k, L, _, _, e⟩
  · cases e; exact path_mem c
  · cases e
  · cases e; exact to_mem k
  · cases e; exact path_mem c

/-- changes that do not touch: the one may be made ahead of the other -/
theorem can_move {a b : TreeChange} (hi : ∀ p ∈ pathsF a, ∀ q ∈ pathsF b, relB p q = false) {l l1 : List File} {x y : Option File} (ha : Can a l x) (hr : Res a.Path l x l1) (hb : Can b l1 y) : Can b l y := by
  have back : ∀ L, (⟨b.Path, L⟩ : File) ∈ l1 → (⟨b.Path, L⟩ : File) ∈ l := by
    intro L hm
    rcases (hr _).1 hm with h | h
    · exact h.1
    · subst h
      have := hi _ (can_path ha) _ (path_mem b)
      rw [relB_self] at this; cases this
  have fwd : ∀ f ∈ l, f.Path ≠ a.Path → f ∈ l1 := fun f hf hne => (hr f).2 (.inl ⟨hf, hne⟩)
  rcases hb with ⟨k, h1, e⟩ | ⟨k, h1, e⟩ | ⟨k, L, h1, h2, e⟩ | ⟨k, L, h1, h2, e⟩
  · refine .inl ⟨k, fun f hf => ?_, e⟩
    by_cases hfa : f.Path = a.Path
    · rw [hfa]; exact hi _ (path_mem a) _ (path_mem b)
    · exact h1 f (fwd f hf hfa)
  · exact .inr (.inl ⟨k, back _ h1, e⟩)
  · refine .inr (.inr (.inl ⟨k, L, back _ h1, fun f hf hne => ?_, e⟩))
    by_cases hfa : f.Path = a.Path
    · rw [hfa]; exact hi _ (path_mem a) _ (to_mem k)
    · exact h2 f (fwd f hf hfa) hne
  · exact .inr (.inr (.inr ⟨k, L, back _ h1, h2, e⟩))

theorem can_keep {a b : TreeChange} (hi : ∀ p ∈ pathsF a, ∀ q ∈ pathsF b, relB p q = false) {l l1 : List File} {x y : Option File} (ha : Can a l x) (hb : Can b l y) (hr : Res b.Path l y l1) : Can a l1 x := by
  have hne : a.Path ≠ b.Path := fun e => by
    have := hi _ (path_mem a) _ (path_mem b)
    rw [e, relB_self] at this; cases this
  have fwd : ∀ L, (⟨a.Path, L⟩ : File) ∈ l → (⟨a.Path, L⟩ : File) ∈ l1 := fun L hm => (hr _).2 (.inl ⟨hm, hne⟩)
  have back : ∀ f ∈ l1, f ∈ l ∨ ∃ z, y = some z ∧ f = z := fun f hf => by
    rcases (hr f).1 hf with h | h
    · exact .inl h.1
    · exact .inr ⟨f, h.symm, rfl⟩
  rcases ha with ⟨k, h1, e⟩ | ⟨k, h1, e⟩ | ⟨k, L, h1, h2, e⟩ | ⟨k, L, h1, h2, e⟩
  · refine .inl ⟨k, fun f hf => ?_, e⟩
    rcases back f hf with h | ⟨z, rfl, rfl⟩
    · exact h1 f h
    · rw [relB_comm]; exact hi _ (path_mem a) _ (can_path hb)
  · exact .inr (.inl ⟨k, fwd _ h1, e⟩)
  · refine .inr (.inr (.inl ⟨k, L, fwd _ h1, fun f hf hfne => ?_, e⟩))
    rcases back f hf with h | ⟨z, rfl, rfl⟩
    · exact h2 f h hfne
    · rw [relB_comm]; exact hi _ (to_mem k) _ (can_path hb)
  · exact .inr (.inr (.inr ⟨k, L, fwd _ h1, h2, e⟩))

/-- two changes, one after the other -/
def run2 (a b : TreeChange) (l : List File) : List File × Fault := runF 0 [a, b] l

theorem run2_ok {a b : TreeChange} {l : List File} (h0 : (run2 a b l).2.Code = 0) : (makeF a l).1 = 0 ∧ (makeF b (makeF a l).2).1 = 0 ∧ run2 a b l = ((makeF b (makeF a l).2).2, ⟨0, 0⟩) := by
  unfold run2 at h0 ⊢
  rw [runF] at h0 ⊢
  by_cases h1 : (makeF a l).1 ≠ 0
  · rw [if_pos h1] at h0; exact absurd h0 h1
  rw [if_neg h1] at h0 ⊢
  rw [runF] at h0 ⊢
  by_cases h2 : (makeF b (makeF a l).2).1 ≠ 0
  · rw [if_pos h2] at h0; exact absurd h0 h2
  rw [if_neg h2]
  exact ⟨by simpa using h1, by simpa using h2, rfl⟩

theorem run2_mk {a b : TreeChange} {l : List File} (h1 : (makeF a l).1 = 0) (h2 : (makeF b (makeF a l).2).1 = 0) : run2 a b l = ((makeF b (makeF a l).2).2, ⟨0, 0⟩) := by
  unfold run2
  rw [runF, if_neg (by simpa using h1), runF, if_neg (by simpa using h2)]; rfl

theorem run2_1 {a b : TreeChange} {l : List File} (h1 : (makeF a l).1 ≠ 0) : (run2 a b l).2.Code = (makeF a l).1 := by
  unfold run2
  rw [runF, if_pos h1]

theorem run2_2 {a b : TreeChange} {l : List File} (h1 : (makeF a l).1 = 0) (h2 : (makeF b (makeF a l).2).1 ≠ 0) : (run2 a b l).2.Code = (makeF b (makeF a l).2).1 := by
  unfold run2
  rw [runF, if_neg (by simpa using h1), runF, if_pos h2]

theorem ind_rel {a b : TreeChange} (h : indB a b = true) : ∀ p ∈ pathsF a, ∀ q ∈ pathsF b, relB p q = false := by
  intro p hp q hq
  unfold indB at h
  rw [Bool.not_eq_true', List.any_eq_false] at h
  have h1 := h p hp
  unfold touB at h1
  rw [Bool.not_eq_true, List.any_eq_false] at h1
  have := h1 q hq
  rw [relB_comm]; simpa using this

/-- the effect of exchanged changes -/
theorem same_effectT {a b : TreeChange} (ha : OkCh a) (hb : OkCh b) (hx : (exF a b).2.2.1 = true) {l : List File} (h : TrOk l) (h0 : (run2 a b l).2.Code = 0) :
    (run2 (exF a b).1 (exF a b).2.1 l).2.Code = 14 ∨ (run2 (exF a b).1 (exF a b).2.1 l).2.Code = 10 ∨ run2 (exF a b).1 (exF a b).2.1 l = run2 a b l := by
  obtain ⟨m1, m2, m3⟩ := run2_ok h0
  have h1 := makeF_ok h ha m1
  have h2 := makeF_ok h1 hb m2
  obtain ⟨x, cx, rx⟩ := make_can h ha m1
  obtain ⟨y, cy, ry⟩ := make_can h1 hb m2
  rw [m3]
  generalize hl1 : (makeF a l).2 = l1 at *
  generalize hl2 : (makeF b l1).2 = l2 at *
  obtain ⟨g1, g2, g3⟩ := exF_good ha hb hx
  unfold exF at hx g1 g2 ⊢
  by_cases hi : indB a b = true
  · rw [if_pos hi] at g1 g2 ⊢
    simp only at g1 g2 ⊢
    have hir := ind_rel hi
    have cb := can_move hir cx rx cy
    rcases can_make h hb cb with ⟨_, e⟩ | ⟨e1, e2⟩
    · left; rw [run2_1 (by omega), e]
    · have ca := can_keep hir cx cb e2
      have k1 := makeF_ok h hb e1
      rcases can_make k1 ha ca with ⟨_, e⟩ | ⟨e3, e4⟩
      · left; rw [run2_2 e1 (by omega), e]
      · right; right
        rw [run2_mk e1 e3]
        congr 1
        refine res_eq (makeF_ok k1 ha e3).srt h2.srt fun f => ?_
        rw [e4 f, e2 f, ry f, rx f]
        have q1 : some f = x → f.Path ≠ b.Path := fun e he => by
          subst e
          have := hir _ (can_path cx) _ (path_mem b)
          rw [he, relB_self] at this; cases this
        have q2 : some f = y → f.Path ≠ a.Path := fun e he => by
          subst e
          have := hir _ (path_mem a) _ (can_path cb)
          rw [he, relB_self] at this; cases this
        constructor
        · rintro (⟨⟨p1, p2⟩ | p1, p3⟩ | p1)
          · exact .inl ⟨.inl ⟨p1, p3⟩, p2⟩
          · exact .inr p1
          · exact .inl ⟨.inr p1, q1 p1⟩
        · rintro (⟨⟨p1, p2⟩ | p1, p3⟩ | p1)
          · exact .inl ⟨.inl ⟨p1, p3⟩, p2⟩
          · exact .inr p1
          · exact .inl ⟨.inr p1, q2 p1⟩
  rw [if_neg hi] at hx g1 g2 ⊢
  by_cases c1 : a.Kind = 4 ∧ b.Kind = 4 ∧ a.Path = b.Path
  · rw [if_pos c1] at hx g1 g2 ⊢
    by_cases f1 : (commF a.Patch b.Patch).2.2.2.Code ≠ 0
    · rw [if_pos f1] at hx; cases hx
    rw [if_neg f1] at hx g1 g2 ⊢
    by_cases f2 : (commF a.Patch b.Patch).2.2.1 = false
    · rw [if_pos f2] at hx; cases hx
    rw [if_neg f2] at g1 g2 ⊢
    simp only at g1 g2 ⊢
    obtain ⟨k, L, u1, u2, rfl⟩ : a.Kind = 4 ∧ ∃ L, (⟨a.Path, L⟩ : File) ∈ l ∧ (applyF a.Patch L).2.Code = 0 ∧ x = some ⟨a.Path, (applyF a.Patch L).1⟩ := by
      rcases cx with ⟨k, _⟩ | ⟨k, _⟩ | ⟨k, _⟩ | q
      · omega
      · omega
      · omega
      · exact q
    obtain ⟨k', L', v1, v2, rfl⟩ : b.Kind = 4 ∧ ∃ L, (⟨b.Path, L⟩ : File) ∈ l1 ∧ (applyF b.Patch L).2.Code = 0 ∧ y = some ⟨b.Path, (applyF b.Patch L).1⟩ := by
      rcases cy with ⟨k, _⟩ | ⟨k, _⟩ | ⟨k, _⟩ | q
      · omega
      · omega
      · omega
      · exact q
    have eL : L' = (applyF a.Patch L).1 := by
      rcases (rx _).1 v1 with q | q
      · exact absurd c1.2.2.symm q.2
      · exact congrArg File.Lines (Option.some.inj q)
    subst eL
    have hP := c1.2.2
    rcases comm_apply2 (p := a.Patch) (q := b.Patch) (by simpa using f1) (by simpa using f2) u2 v2 with e | ⟨e, e'⟩
    · right; left
      have hm : (makeF (edF a.Path (commF a.Patch b.Patch).1) l).1 = 10 := by
        obtain ⟨hp, hh, el⟩ := mem_has h.srt u1
        unfold makeF edF
        simp only
        rw [if_neg (by decide), hh, if_pos rfl, List.getElem?_eq_getElem hp]
        simp only
        rw [if_neg (by decide), if_neg (by decide), el]
        simp only
        rw [if_pos (by omega), e]
      rw [run2_1 (by omega), hm]
    · have cc : Can (edF a.Path (commF a.Patch b.Patch).1) l (some ⟨a.Path, (applyF (commF a.Patch b.Patch).1 L).1⟩) := .inr (.inr (.inr ⟨rfl, L, u1, e, rfl⟩))
      rcases can_make h g1 cc with ⟨k, _⟩ | ⟨e1, e2⟩
      · cases k
      have k1 := makeF_ok h g1 e1
      generalize hl3 : (makeF (edF a.Path (commF a.Patch b.Patch).1) l).2 = l3 at *
      have w1 : (⟨a.Path, (applyF (commF a.Patch b.Patch).1 L).1⟩ : File) ∈ l3 := (e2 _).2 (.inr rfl)
      rcases e' with e' | e'
      · right; left
        have hm : (makeF (edF a.Path (commF a.Patch b.Patch).2.1) l3).1 = 10 := by
          obtain ⟨hp, hh, el⟩ := mem_has k1.srt w1
          unfold makeF edF
          simp only
          rw [if_neg (by decide), hh, if_pos rfl, List.getElem?_eq_getElem hp]
          simp only
          rw [if_neg (by decide), if_neg (by decide), el]
          simp only
          rw [if_pos (by omega), e']
        rw [run2_2 e1 (by rw [hl3]; omega), hl3, hm]
      · right; right
        have ho : (applyF (commF a.Patch b.Patch).2.1 (applyF (commF a.Patch b.Patch).1 L).1).2.Code = 0 := by rw [e']; exact v2
        have cd : Can (edF a.Path (commF a.Patch b.Patch).2.1) l3 (some ⟨a.Path, (applyF (commF a.Patch b.Patch).2.1 (applyF (commF a.Patch b.Patch).1 L).1).1⟩) := .inr (.inr (.inr ⟨rfl, _, w1, ho, rfl⟩))
        rcases can_make k1 g2 cd with ⟨k, _⟩ | ⟨e3, e4⟩
        · cases k
        rw [run2_mk e1 (by rw [hl3]; exact e3), hl3]
        congr 1
        refine res_eq (makeF_ok k1 g2 e3).srt h2.srt fun f => ?_
        rw [e4 f, e2 f, ry f, rx f, e', ← hP]
        simp only [edF]
        constructor
        · rintro (⟨⟨p1, p2⟩ | p1, p3⟩ | p1)
          · exact .inl ⟨.inl ⟨p1, p2⟩, p2⟩
          · cases p1; exact absurd rfl p3
          · exact .inr p1
        · rintro (⟨⟨p1, p2⟩ | p1, p3⟩ | p1)
          · exact .inl ⟨.inl ⟨p1, p2⟩, p2⟩
          · cases p1; exact absurd rfl p3
          · exact .inr p1
  rw [if_neg c1] at hx g1 g2 ⊢
  by_cases c2 : a.Kind = 3 ∧ b.Kind = 4 ∧ b.Path = a.To
  · rw [if_pos c2] at g1 g2 ⊢
    simp only at g1 g2 ⊢
    right; right
    obtain ⟨k, L, u1, u2, rfl⟩ : a.Kind = 3 ∧ ∃ L, (⟨a.Path, L⟩ : File) ∈ l ∧ (∀ f ∈ l, f.Path ≠ a.Path → relB f.Path a.To = false) ∧ x = some ⟨a.To, L⟩ := by
      rcases cx with ⟨k, _⟩ | ⟨k, _⟩ | q | ⟨k, _⟩
      · omega
      · omega
      · exact q
      · omega
    obtain ⟨k', L', v1, v2, rfl⟩ : b.Kind = 4 ∧ ∃ L, (⟨b.Path, L⟩ : File) ∈ l1 ∧ (applyF b.Patch L).2.Code = 0 ∧ y = some ⟨b.Path, (applyF b.Patch L).1⟩ := by
      rcases cy with ⟨k, _⟩ | ⟨k, _⟩ | ⟨k, _⟩ | q
      · omega
      · omega
      · omega
      · exact q
    have hP := c2.2.2
    rw [hP] at v1
    have eL : L' = L := by
      rcases (rx _).1 v1 with q | q
      · have := u2 _ q.1 q.2
        simp only [relB_self] at this; cases this
      · cases q; rfl
    subst eL
    have cc : Can (edF a.Path b.Patch) l (some ⟨a.Path, (applyF b.Patch L').1⟩) := .inr (.inr (.inr ⟨rfl, L', u1, v2, rfl⟩))
    rcases can_make h g1 cc with ⟨k, _⟩ | ⟨e1, e2⟩
    · cases k
    have k1 := makeF_ok h g1 e1
    generalize hl3 : (makeF (edF a.Path b.Patch) l).2 = l3 at *
    have cd : Can a l3 (some ⟨a.To, (applyF b.Patch L').1⟩) := .inr (.inr (.inl ⟨k, _, (e2 _).2 (.inr rfl), fun f hf hne => by
      rcases (e2 f).1 hf with q | q
      · exact u2 f q.1 hne
      · cases q; exact absurd rfl hne, rfl⟩))
    rcases can_make k1 ha cd with ⟨k, _⟩ | ⟨e3, e4⟩
    · omega
    rw [run2_mk e1 (by rw [hl3]; exact e3), hl3]
    congr 1
    refine res_eq (makeF_ok k1 ha e3).srt h2.srt fun f => ?_
    rw [e4 f, e2 f, ry f, rx f, hP]
    simp only [edF]
    constructor
    · rintro (⟨⟨p1, p2⟩ | p1, p3⟩ | p1)
      · refine .inl ⟨.inl ⟨p1, p2⟩, fun e => ?_⟩
        have := u2 f p1 p2
        rw [e, relB_self] at this; cases this
      · cases p1; exact absurd rfl p3
      · exact .inr p1
    · rintro (⟨⟨p1, p2⟩ | p1, p3⟩ | p1)
      · exact .inl ⟨.inl ⟨p1, p2⟩, p2⟩
      · cases p1; exact absurd rfl p3
      · exact .inr p1
  rw [if_neg c2] at hx g1 g2 ⊢
  by_cases c3 : a.Kind = 4 ∧ b.Kind = 3 ∧ b.Path = a.Path
  · rw [if_pos c3] at g1 g2 ⊢
    simp only at g1 g2 ⊢
    right; right
    obtain ⟨k, L, u1, u2, rfl⟩ : a.Kind = 4 ∧ ∃ L, (⟨a.Path, L⟩ : File) ∈ l ∧ (applyF a.Patch L).2.Code = 0 ∧ x = some ⟨a.Path, (applyF a.Patch L).1⟩ := by
      rcases cx with ⟨k, _⟩ | ⟨k, _⟩ | ⟨k, _⟩ | q
      · omega
      · omega
      · omega
      · exact q
    obtain ⟨k', L', v1, v2, rfl⟩ : b.Kind = 3 ∧ ∃ L, (⟨b.Path, L⟩ : File) ∈ l1 ∧ (∀ f ∈ l1, f.Path ≠ b.Path → relB f.Path b.To = false) ∧ y = some ⟨b.To, L⟩ := by
      rcases cy with ⟨k, _⟩ | ⟨k, _⟩ | q | ⟨k, _⟩
      · omega
      · omega
      · exact q
      · omega
    have hP := c3.2.2
    rw [hP] at v1
    have eL : L' = (applyF a.Patch L).1 := by
      rcases (rx _).1 v1 with q | q
      · exact absurd rfl q.2
      · cases q; rfl
    subst eL
    have u3 : ∀ f ∈ l, f.Path ≠ b.Path → relB f.Path b.To = false := fun f hf hne => v2 f ((rx f).2 (.inl ⟨hf, by rw [← hP]; exact hne⟩)) hne
    have cc : Can b l (some ⟨b.To, L⟩) := .inr (.inr (.inl ⟨k', L, by rw [hP]; exact u1, u3, rfl⟩))
    rcases can_make h hb cc with ⟨k, _⟩ | ⟨e1, e2⟩
    · omega
    have k1 := makeF_ok h hb e1
    generalize hl3 : (makeF b l).2 = l3 at *
    have cd : Can (edF b.To a.Patch) l3 (some ⟨b.To, (applyF a.Patch L).1⟩) := .inr (.inr (.inr ⟨rfl, L, (e2 _).2 (.inr rfl), u2, rfl⟩))
    rcases can_make k1 g2 cd with ⟨k, _⟩ | ⟨e3, e4⟩
    · cases k
    rw [run2_mk e1 (by rw [hl3]; exact e3), hl3]
    congr 1
    refine res_eq (makeF_ok k1 g2 e3).srt h2.srt fun f => ?_
    rw [e4 f, e2 f, ry f, rx f, hP]
    simp only [edF]
    constructor
    · rintro (⟨⟨p1, p2⟩ | p1, p3⟩ | p1)
      · exact .inl ⟨.inl ⟨p1, p2⟩, p2⟩
      · cases p1; exact absurd rfl p3
      · exact .inr p1
    · rintro (⟨⟨p1, p2⟩ | p1, p3⟩ | p1)
      · refine .inl ⟨.inl ⟨p1, p2⟩, fun e => ?_⟩
        have := u3 f p1 (by rw [hP]; exact p2)
        rw [e, relB_self] at this; cases this
      · cases p1; exact absurd rfl p3
      · exact .inr p1
  rw [if_neg c3] at hx
  cases hx

theorem tp_same (a b : TreeChange) (t : FileTree) : changeforgelaw2_TreecommuteSameEffect a b t = some true := by
  obtain ⟨l⟩ := t
  unfold changeforgelaw2_TreecommuteSameEffect
  rw [Commute_f, Option.bind_some, followed_f]
  by_cases h1 : (tcF a b).2.2.2.Code = 0
  · rw [decide_eq_true h1, if_neg (show ¬ ((!true) = true) by decide), Option.bind_some]
    cases h2 : (tcF a b).2.2.1 with
    | false => rw [if_pos (by rfl)]; rfl
    | true =>
      rw [if_neg (show ¬ ((!true) = true) by decide)]
      obtain ⟨ha, hb, he⟩ := tcF_ok h1
      rw [he] at h2 ⊢
      obtain ⟨g1, g2, g3⟩ := exF_good ha hb h2
      rw [Apply_f, Option.bind_some, Apply_f, Option.bind_some]
      simp only
      by_cases h3 : (applyT [a, b] l).2.Code = 0
      · obtain ⟨a1, a2, a3, a4, a5⟩ := applyT_ok h3
        have e2 : applyT [(exF a b).1, (exF a b).2.1] l = run2 (exF a b).1 (exF a b).2.1 l := applyT_of (by simp) (by
          intro c hc
          rcases List.mem_cons.1 hc with rfl | hc
          · exact g1
          · rw [List.mem_singleton] at hc; subst hc; exact g2) a3
        have e1 : applyT [a, b] l = run2 a b l := a4
        rw [e1] at h3 a5 ⊢
        rw [e2]
        rw [decide_eq_true h3, if_neg (show ¬ ((!true) = true) by decide), Option.bind_some]
        rcases same_effectT ha hb h2 a3 h3 with e | e | e
        · rw [decide_eq_true e, if_pos rfl, Option.bind_some, if_pos rfl]; rfl
        · rw [decide_eq_true e]
          by_cases h14 : (run2 (exF a b).1 (exF a b).2.1 l).2.Code = 14
          · omega
          · rw [decide_eq_false h14, if_neg Bool.false_ne_true, Option.bind_some, if_pos rfl]; rfl
        · rw [e, decide_eq_true h3, decide_eq_false (by omega), if_neg Bool.false_ne_true, decide_eq_false (by omega), Option.bind_some, if_neg Bool.false_ne_true, if_pos rfl, tree_ok a5]; rfl
      · rw [decide_eq_false h3, if_pos (by rfl), Option.bind_some, if_pos rfl, Option.bind_some, if_pos rfl]; rfl
  · rw [decide_eq_false h1, if_pos (by rfl), Option.bind_some, if_pos rfl]; rfl
end Go.Dc
