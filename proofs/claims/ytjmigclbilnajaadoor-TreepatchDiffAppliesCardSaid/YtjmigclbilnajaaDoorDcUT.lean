/- Differences of trees: the law TreepatchDiffApplies. -/
import Derived.Test.YtjmigclbilnajaaDoorDcUS
import Derived.Test.YtjmigclbilnajaaDoorDcVE
set_option linter.unusedSimpArgs false
set_option linter.unusedVariables false
namespace Go.Dc
open Go

def linesAt (b : List File) (p : ByteArray) : List ByteArray := match b[posF b p]? with
  | some g => g.Lines
  | Option.none => []
def rmOf (b : List File) (f : File) : Option TreeChange := if hasF b f.Path = true then Option.none else some ⟨2, f.Path, ByteArray.empty, f.Lines, ⟨[]⟩⟩
def edOf (b : List File) (f : File) : Option TreeChange := if hasF b f.Path = true ∧ script f.Lines (linesAt b f.Path) ≠ [] then some (edF f.Path ⟨script f.Lines (linesAt b f.Path)⟩) else Option.none
def adOf (a : List File) (f : File) : Option TreeChange := if hasF a f.Path = true then Option.none else some ⟨1, f.Path, ByteArray.empty, f.Lines, ⟨[]⟩⟩

theorem text0 {l : List ByteArray} (h : OkText l) : (textFault l).Code = 0 := (textFault_zero _).1 ((okText_iff _).1 h)

theorem diff2_iter {a b : List File} (ha : TrOk a) (hb : TrOk b) : ∀ (r : List File) (k : Nat) (e d : List TreeChange), a.drop k = r → e.length ≤ k → d.length ≤ k →
    iter (fun s => treepatch_Diff.l2 ⟨a⟩ ⟨b⟩ s.1 s.2.1 s.2.2) ((k : Int), e, d) = some (e ++ r.filterMap (edOf b), d ++ r.filterMap (rmOf b)) := by
  intro r
  induction r with
  | nil =>
    intro k e d hk _ _
    have := drop_end hk
    refine iter_done ?_
    show treepatch_Diff.l2 ⟨a⟩ ⟨b⟩ _ _ _ = _
    unfold treepatch_Diff.l2
    simp only
    rw [decide_eq_false (by omega), if_neg Bool.false_ne_true]
    simp
  | cons f r ih =>
    intro k e d hk he hd
    obtain ⟨hlt, hx, hr⟩ := drop_at hk
    have hfm : f ∈ a := hx ▸ List.getElem_mem hlt
    have hft := ha.text_len hfm
    have hal := ha.len
    have hbl := hb.len
    have j4 : ∀ (u v : List TreeChange), treepatch_Diff.j4 (k : Int) u v = some (Step.next (((k + 1 : Nat) : Int), v, u)) := by
      intro u v
      unfold treepatch_Diff.j4
      rw [ck_eq (by omega) (by omega), Option.bind_some]; rfl
    have hs : treepatch_Diff.l2 ⟨a⟩ ⟨b⟩ (k : Int) e d = some (Step.next (((k + 1 : Nat) : Int), e ++ (edOf b f).toList, d ++ (rmOf b f).toList)) := by
      unfold treepatch_Diff.l2 edOf rmOf
      simp only
      rw [decide_eq_true (by omega), if_pos rfl, at_nat hlt, Option.bind_some, hx, Find_f hb.srt (by omega), Option.bind_some]
      simp only
      cases hh : hasF b f.Path with
      | false =>
        rw [if_pos (by rfl), clone_f _ (by omega), Option.bind_some, app_eq (by simp; omega), Option.bind_some, j4]
        simp
      | true =>
        obtain ⟨hp, hpe⟩ := has_pos hb.srt hh
        have hgm := List.getElem_mem hp
        rw [if_neg (show ¬ ((!true) = true) by decide), at_nat hp, Option.bind_some, script_f, Option.bind_some]
        have h1 := text0 (ha.text f hfm)
        have h2 := text0 (hb.text _ hgm)
        rw [if_neg (fun hn => hn h1), if_neg (fun hn => hn h2)]
        have hla : linesAt b f.Path = b[posF b f.Path].Lines := by
          unfold linesAt; rw [List.getElem?_eq_getElem hp]
        rw [hla]
        unfold treepatch_Diff.j5
        simp only
        by_cases hsc : script f.Lines b[posF b f.Path].Lines = []
        · rw [decide_eq_false (by rw [hsc]; simp), if_neg Bool.false_ne_true, j4]
          simp [hsc]
        · have : 0 < (script f.Lines b[posF b f.Path].Lines).length := List.length_pos_iff.2 hsc
          rw [decide_eq_true (by omega), if_pos rfl, app_eq (by simp; omega), Option.bind_some, j4]
          simp [hsc, edF]
    rw [iter_next (s' := (((k + 1 : Nat) : Int), e ++ (edOf b f).toList, d ++ (rmOf b f).toList)) hs]
    have l1 : (edOf b f).toList.length ≤ 1 := by cases edOf b f <;> simp
    have l2 : (rmOf b f).toList.length ≤ 1 := by cases rmOf b f <;> simp
    rw [ih (k + 1) _ _ hr (by rw [List.length_append]; omega) (by rw [List.length_append]; omega)]
    rw [List.append_assoc, List.append_assoc]
    cases h1 : edOf b f <;> cases h2 : rmOf b f <;> simp [List.filterMap_cons, h1, h2]

theorem diff1_iter {a b : List File} (ha : TrOk a) (hb : TrOk b) : ∀ (r : List File) (k : Nat) (e : List TreeChange), b.drop k = r → e.length ≤ k →
    iter (fun s => treepatch_Diff.l1 ⟨a⟩ ⟨b⟩ s.1 s.2) ((k : Int), e) = some (e ++ r.filterMap (adOf a)) := by
  intro r
  induction r with
  | nil =>
    intro k e hk _
    have := drop_end hk
    refine iter_done ?_
    show treepatch_Diff.l1 ⟨a⟩ ⟨b⟩ _ _ = _
    unfold treepatch_Diff.l1
    simp only
    rw [decide_eq_false (by omega), if_neg Bool.false_ne_true]
    simp
  | cons f r ih =>
    intro k e hk he
    obtain ⟨hlt, hx, hr⟩ := drop_at hk
    have hfm : f ∈ b := hx ▸ List.getElem_mem hlt
    have hft := hb.text_len hfm
    have hal := ha.len
    have hbl := hb.len
    have j3 : ∀ (u : List TreeChange), treepatch_Diff.j3 (k : Int) u = some (Step.next (((k + 1 : Nat) : Int), u)) := by
      intro u
      unfold treepatch_Diff.j3
      rw [ck_eq (by omega) (by omega), Option.bind_some]; rfl
    have hs : treepatch_Diff.l1 ⟨a⟩ ⟨b⟩ (k : Int) e = some (Step.next (((k + 1 : Nat) : Int), e ++ (adOf a f).toList)) := by
      unfold treepatch_Diff.l1 adOf
      simp only
      rw [decide_eq_true (by omega), if_pos rfl, at_nat hlt, Option.bind_some, hx, Find_f ha.srt (by omega), Option.bind_some]
      simp only
      cases hh : hasF a f.Path with
      | false =>
        rw [if_pos (by rfl), clone_f _ (by omega), Option.bind_some, app_eq (by simp; omega), Option.bind_some, j3]
        simp
      | true =>
        rw [if_neg (show ¬ ((!true) = true) by decide), j3]
        simp
    rw [iter_next (s' := (((k + 1 : Nat) : Int), e ++ (adOf a f).toList)) hs]
    have l1 : (adOf a f).toList.length ≤ 1 := by cases adOf a f <;> simp
    rw [ih (k + 1) _ hr (by rw [List.length_append]; omega), List.append_assoc]
    cases h1 : adOf a f <;> simp [List.filterMap_cons, h1]

theorem concat3 {x y z : List TreeChange} (hx : x.length ≤ 100) (hy : y.length ≤ 100) (hz : z.length ≤ 100) : api_TreeChange_ [x, y, z] = some (x ++ y ++ z) := by
  unfold api_TreeChange_
  have s0 : ∀ (k : Nat) (v : List TreeChange) (n : Nat), [x, y, z][k]? = some v → v.length ≤ 100 → n ≤ 1000 → api_TreeChange_.l2 [x, y, z] (k : Int) (n : Int) = some (Step.next (((k + 1 : Nat) : Int), ((n + v.length : Nat) : Int))) := by
    intro k v n hv hl hn
    have hk : k < 3 := by have := List.getElem?_eq_some_iff.1 hv; obtain ⟨h, _⟩ := this; simpa using h
    unfold api_TreeChange_.l2 api_TreeChange_.j3
    have : at? [x, y, z] (k : Int) = some v := by unfold at?; rw [if_pos (by omega), Int.toNat_natCast, hv]
    rw [if_pos (by simp; omega), this, Option.bind_some, ck_eq (by omega) (by omega), Option.bind_some, if_neg (by simp; omega), ck_eq (by omega) (by omega), Option.bind_some]; rfl
  have t0 : ∀ (k : Nat) (v w : List TreeChange), [x, y, z][k]? = some v → v.length ≤ 100 → w.length ≤ 1000 → api_TreeChange_.l1 [x, y, z] (k : Int) w = some (Step.next (((k + 1 : Nat) : Int), w ++ v)) := by
    intro k v w hv hl hn
    have hk : k < 3 := by have := List.getElem?_eq_some_iff.1 hv; obtain ⟨h, _⟩ := this; simpa using h
    unfold api_TreeChange_.l1
    have : at? [x, y, z] (k : Int) = some v := by unfold at?; rw [if_pos (by omega), Int.toNat_natCast, hv]
    rw [if_pos (by simp; omega), this, Option.bind_some, app_eq (by omega), Option.bind_some, ck_eq (by omega) (by omega), Option.bind_some]; rfl
  have e1 : iter (fun s => api_TreeChange_.l2 [x, y, z] s.1 s.2) ((0 : Int), (0 : Int)) = some ((0 + x.length + y.length + z.length : Nat) : Int) := by
    rw [iter_next (s' := (((0 + 1 : Nat) : Int), ((0 + x.length : Nat) : Int))) (s0 0 x 0 rfl hx (by omega))]
    rw [iter_next (s' := (((1 + 1 : Nat) : Int), ((0 + x.length + y.length : Nat) : Int))) (s0 1 y _ rfl hy (by omega))]
    rw [iter_next (s' := (((2 + 1 : Nat) : Int), ((0 + x.length + y.length + z.length : Nat) : Int))) (s0 2 z _ rfl hz (by omega))]
    refine iter_done ?_
    show api_TreeChange_.l2 [x, y, z] _ _ = _
    unfold api_TreeChange_.l2
    rw [if_neg (by simp)]
  rw [e1, Option.bind_some]
  unfold api_TreeChange_.j1 api_TreeChange_.j2
  have e2 : grow0 TreeChange 88 ((0 + x.length + y.length + z.length : Nat) : Int) = some [] := by
    unfold grow0; rw [if_pos ⟨by omega, by omega⟩]
  rw [e2, Option.bind_some]
  have e3 : iter (fun s => api_TreeChange_.l1 [x, y, z] s.1 s.2) ((0 : Int), ([] : List TreeChange)) = some (x ++ y ++ z) := by
    rw [iter_next (s' := (((0 + 1 : Nat) : Int), [] ++ x)) (t0 0 x [] rfl hx (by simp))]
    rw [iter_next (s' := (((1 + 1 : Nat) : Int), [] ++ x ++ y)) (t0 1 y _ rfl hy (by simp; omega))]
    rw [iter_next (s' := (((2 + 1 : Nat) : Int), [] ++ x ++ y ++ z)) (t0 2 z _ rfl hz (by simp; omega))]
    refine iter_done ?_
    show api_TreeChange_.l1 [x, y, z] _ _ = _
    unfold api_TreeChange_.l1
    rw [if_neg (by simp)]; simp
  rw [e3, Option.bind_some]

def difL (a b : List File) : List TreeChange := a.filterMap (rmOf b) ++ a.filterMap (edOf b) ++ b.filterMap (adOf a)

theorem tdiff_f (a b : List File) : ∃ q f, treepatch_Diff ⟨a⟩ ⟨b⟩ = some (⟨q⟩, f) ∧ (f.Code = 0 → TrOk a ∧ TrOk b ∧ q = difL a b ∧ q.length ≤ 30) := by
  unfold treepatch_Diff
  rw [Validate_f, Option.bind_some]
  simp only
  rcases treeFault_ok a with h | h
  · have ha := (treeFault_zero a).1 (by rw [h])
    rw [if_neg (by rw [h]; decide), tsecond_f, Option.bind_some]
    simp only
    by_cases hb0 : (treeFault b).Code = 0
    · have hb := (treeFault_zero b).1 hb0
      have hal := ha.len
      have hbl := hb.len
      have i2 := diff2_iter ha hb a 0 [] [] rfl (Nat.le_refl _) (Nat.le_refl _)
      have i1 := diff1_iter ha hb b 0 [] rfl (Nat.le_refl _)
      rw [show ((0 : Nat) : Int) = 0 from rfl] at i1 i2
      have f1 := List.length_filterMap_le (edOf b) a
      have f2 := List.length_filterMap_le (rmOf b) a
      have f3 := List.length_filterMap_le (adOf a) b
      rw [if_pos hb0, if_neg (by decide), i2, Option.bind_some]
      unfold treepatch_Diff.j1 treepatch_Diff.j2
      rw [i1, Option.bind_some]
      simp only [List.nil_append]
      rw [concat3 (by omega) (by omega) (by omega), Option.bind_some]
      by_cases h30 : ((a.filterMap (rmOf b) ++ a.filterMap (edOf b) ++ b.filterMap (adOf a)).length : Int) > 30
      · rw [decide_eq_true h30, if_pos rfl]
        exact ⟨_, _, rfl, fun h => by simp at h⟩
      · rw [decide_eq_false h30, if_neg Bool.false_ne_true]
        exact ⟨_, _, rfl, fun _ => ⟨ha, hb, rfl, by omega⟩⟩
    · rw [if_neg hb0, if_pos (by simp [hb0])]
      exact ⟨_, _, rfl, fun h => absurd h hb0⟩
  · rw [if_pos (by simp [h])]
    exact ⟨_, _, rfl, fun h0 => absurd h0 h⟩

/-! ## the differences, applied -/
theorem ch_ok {k : Int} {f : File} (hk : k = 1 ∨ k = 2) (h1 : pathB f.Path = true) (h2 : OkText f.Lines) : OkCh ⟨k, f.Path, ByteArray.empty, f.Lines, ⟨[]⟩⟩ :=
  ⟨by simp only; omega, h1, fun h => by simp only at h; omega, fun _ => rfl, fun h => by simp only at h; omega, fun h => by simp only at h; omega, fun _ => rfl, text0 h2, (by decide +kernel : (patchFault ⟨[]⟩).Code = 0)⟩

theorem linesAt_mem {b : List File} (hb : TrOk b) {p : ByteArray} (h : hasF b p = true) : (⟨p, linesAt b p⟩ : File) ∈ b := by
  obtain ⟨hp, he⟩ := has_pos hb.srt h
  have e : (⟨p, linesAt b p⟩ : File) = b[posF b p] := by
    unfold linesAt
    rw [List.getElem?_eq_getElem hp]
    simp only
    generalize b[posF b p] = g at he
    obtain ⟨gp, gl⟩ := g
    simp only at he
    rw [he]
  rw [e]; exact List.getElem_mem hp

theorem has_mem {l : List File} {f : File} (h : f ∈ l) : hasF l f.Path = true := by
  unfold hasF; rw [List.any_eq_true]; exact ⟨f, h, decide_eq_true rfl⟩
theorem has_ex {l : List File} {p : ByteArray} (h : hasF l p = true) : ∃ f ∈ l, f.Path = p := by
  unfold hasF at h; rw [List.any_eq_true] at h
  obtain ⟨f, hf, e⟩ := h
  exact ⟨f, hf, of_decide_eq_true e⟩

theorem rel_ne {b : List File} (hb : TrOk b) {f g : File} (hf : f ∈ b) (hg : g ∈ b) (hne : f ≠ g) : relB f.Path g.Path = false := by
  obtain ⟨i, hi, rfl⟩ := List.getElem_of_mem hf
  obtain ⟨j, hj, rfl⟩ := List.getElem_of_mem hg
  rcases Nat.lt_trichotomy i j with h | h | h
  · exact List.pairwise_iff_getElem.1 hb.rel i j hi hj h
  · subst h; exact absurd rfl hne
  · rw [relB_comm]; exact List.pairwise_iff_getElem.1 hb.rel j i hj hi h

theorem sub_len : ∀ {l b : List File}, TSrt l → TSrt b → (∀ f ∈ l, f ∈ b) → l.length ≤ b.length
  | [], b, _, _, _ => by simp
  | f :: l, [], _, _, h => absurd (h f List.mem_cons_self) (by simp)
  | f :: l, g :: b, hl, hb, h => by
    have hl' := List.pairwise_cons.1 hl
    have hb' := List.pairwise_cons.1 hb
    have sub : ∀ x ∈ l, x ∈ b := by
      intro x hx
      rcases List.mem_cons.1 (h x (List.mem_cons_of_mem _ hx)) with e | e
      · subst e
        have h1 := hl'.1 x hx
        rcases List.mem_cons.1 (h f List.mem_cons_self) with e2 | e2
        · subst e2; rw [sLt_irr] at h1; cases h1
        · have := hb'.1 f e2
          rw [sLt_asymm this] at h1; cases h1
      · exact e
    have := sub_len hl'.2 hb'.2 sub
    simp only [List.length_cons]; omega

abbrev Dis (r : List File) : Prop := r.Pairwise fun f g => f.Path ≠ g.Path

theorem rm_run {b : List File} : ∀ (r : List File) (k : Nat) (l : List File), TrOk l → Dis r → (∀ f ∈ r, f ∈ l) →
    ∃ l', runF k (r.filterMap (rmOf b)) l = (l', ⟨0, 0⟩) ∧ TrOk l' ∧ ∀ g, g ∈ l' ↔ g ∈ l ∧ ∀ f ∈ r, hasF b f.Path = false → g.Path ≠ f.Path
  | [], k, l, h, _, _ => ⟨l, rfl, h, fun g => by simp⟩
  | f :: r, k, l, h, hd, hm => by
    have hd' := List.pairwise_cons.1 hd
    rw [List.filterMap_cons]
    unfold rmOf
    cases hh : hasF b f.Path with
    | true =>
      simp only [if_true]
      obtain ⟨l', e1, e2, e3⟩ := rm_run (b := b) r k l h hd'.2 fun g hg => hm g (List.mem_cons_of_mem _ hg)
      refine ⟨l', e1, e2, fun g => ?_⟩
      rw [e3 g]
      constructor
      · rintro ⟨h1, h2⟩
        refine ⟨h1, fun x hx hf => ?_⟩
        rcases List.mem_cons.1 hx with rfl | hx
        · rw [hh] at hf; cases hf
        · exact h2 x hx hf
      · rintro ⟨h1, h2⟩
        exact ⟨h1, fun x hx hf => h2 x (List.mem_cons_of_mem _ hx) hf⟩
    | false =>
      simp only [Bool.false_eq_true, if_false]
      have hf := hm f List.mem_cons_self
      have hc : OkCh ⟨2, f.Path, ByteArray.empty, f.Lines, ⟨[]⟩⟩ := ch_ok (.inr rfl) (h.path f hf) (h.text f hf)
      rcases can_make h hc (x := Option.none) (.inr (.inl ⟨rfl, hf, rfl⟩)) with ⟨q, _⟩ | ⟨m1, m2⟩
      · cases q
      have h1 := makeF_ok h hc m1
      obtain ⟨l', e1, e2, e3⟩ := rm_run (b := b) r (k + 1) _ h1 hd'.2 fun g hg => (m2 g).2 (.inl ⟨hm g (List.mem_cons_of_mem _ hg), (hd'.1 g hg).symm⟩)
      refine ⟨l', by rw [runF, if_neg (by rw [m1]; simp)]; exact e1, e2, fun g => ?_⟩
      rw [e3 g, m2 g]
      constructor
      · rintro ⟨⟨q1, q2⟩ | q1, q3⟩
        · refine ⟨q1, fun x hx hf => ?_⟩
          rcases List.mem_cons.1 hx with rfl | hx
          · exact q2
          · exact q3 x hx hf
        · cases q1
      · rintro ⟨q1, q2⟩
        exact ⟨.inl ⟨q1, q2 f List.mem_cons_self hh⟩, fun x hx hf => q2 x (List.mem_cons_of_mem _ hx) hf⟩

def Edd (b : List File) (f : File) : Prop := hasF b f.Path = true ∧ script f.Lines (linesAt b f.Path) ≠ []

theorem ed_run {b : List File} (hb : TrOk b) : ∀ (r : List File) (k : Nat) (l : List File), TrOk l → Dis r → (∀ f ∈ r, hasF b f.Path = true → f ∈ l) →
    ∃ l', runF k (r.filterMap (edOf b)) l = (l', ⟨0, 0⟩) ∧ TrOk l' ∧ ∀ g, g ∈ l' ↔ (g ∈ l ∧ ∀ f ∈ r, Edd b f → g.Path ≠ f.Path) ∨ ∃ f ∈ r, Edd b f ∧ g = ⟨f.Path, linesAt b f.Path⟩
  | [], k, l, h, _, _ => ⟨l, rfl, h, fun g => by simp⟩
  | f :: r, k, l, h, hd, hm => by
    have hd' := List.pairwise_cons.1 hd
    rw [List.filterMap_cons]
    unfold edOf
    by_cases hh : hasF b f.Path = true ∧ script f.Lines (linesAt b f.Path) ≠ []
    · rw [if_pos hh]
      simp only
      have hf := hm f List.mem_cons_self hh.1
      have hbm := linesAt_mem hb hh.1
      obtain ⟨s1, s2, s3⟩ := script_ok (h.text f hf) (hb.text _ hbm)
      have hc : OkCh (edF f.Path ⟨script f.Lines (linesAt b f.Path)⟩) := okCh_ed (h.path f hf) hh.2 s1
      have hcan : Can (edF f.Path ⟨script f.Lines (linesAt b f.Path)⟩) l (some ⟨f.Path, linesAt b f.Path⟩) :=
        .inr (.inr (.inr ⟨rfl, f.Lines, hf, by simp only [edF]; rw [s2], by simp only [edF]; rw [s2]⟩))
      rcases can_make h hc hcan with ⟨q, _⟩ | ⟨m1, m2⟩
      · cases q
      have h1 := makeF_ok h hc m1
      obtain ⟨l', e1, e2, e3⟩ := ed_run hb r (k + 1) _ h1 hd'.2 fun g hg hgb => (m2 g).2 (.inl ⟨hm g (List.mem_cons_of_mem _ hg) hgb, (hd'.1 g hg).symm⟩)
      refine ⟨l', by rw [runF, if_neg (by rw [m1]; simp)]; exact e1, e2, fun g => ?_⟩
      rw [e3 g, m2 g]
      simp only [edF, Option.some.injEq]
      constructor
      · rintro (⟨⟨q1, q2⟩ | q1, q3⟩ | ⟨x, q1, q2, q3⟩)
        · refine .inl ⟨q1, fun x hx hf => ?_⟩
          rcases List.mem_cons.1 hx with rfl | hx
          · exact q2
          · exact q3 x hx hf
        · exact .inr ⟨f, List.mem_cons_self, hh, q1⟩
        · exact .inr ⟨x, List.mem_cons_of_mem _ q1, q2, q3⟩
      · rintro (⟨q1, q2⟩ | ⟨x, q1, q2, q3⟩)
        · exact .inl ⟨.inl ⟨q1, q2 f List.mem_cons_self hh⟩, fun x hx hf => q2 x (List.mem_cons_of_mem _ hx) hf⟩
        · rcases List.mem_cons.1 q1 with rfl | q1
          · refine .inl ⟨.inr q3, fun y hy _ => ?_⟩
            rw [q3]; exact hd'.1 y hy
          · exact .inr ⟨x, q1, q2, q3⟩
    · rw [if_neg hh]
      simp only
      obtain ⟨l', e1, e2, e3⟩ := ed_run hb r k l h hd'.2 fun g hg => hm g (List.mem_cons_of_mem _ hg)
      refine ⟨l', e1, e2, fun g => ?_⟩
      rw [e3 g]
      constructor
      · rintro (⟨q1, q2⟩ | ⟨x, q1, q2, q3⟩)
        · refine .inl ⟨q1, fun x hx hf => ?_⟩
          rcases List.mem_cons.1 hx with rfl | hx
          · exact absurd hf hh
          · exact q2 x hx hf
        · exact .inr ⟨x, List.mem_cons_of_mem _ q1, q2, q3⟩
      · rintro (⟨q1, q2⟩ | ⟨x, q1, q2, q3⟩)
        · exact .inl ⟨q1, fun x hx hf => q2 x (List.mem_cons_of_mem _ hx) hf⟩
        · rcases List.mem_cons.1 q1 with rfl | q1
          · exact absurd q2 hh
          · exact .inr ⟨x, q1, q2, q3⟩

theorem ad_run {a b : List File} (hb : TrOk b) : ∀ (r : List File) (k : Nat) (l : List File), TrOk l → Dis r → (∀ f ∈ r, f ∈ b) → (∀ g ∈ l, g ∈ b) → (∀ f ∈ r, hasF a f.Path = false → ∀ g ∈ l, g.Path ≠ f.Path) →
    ∃ l', runF k (r.filterMap (adOf a)) l = (l', ⟨0, 0⟩) ∧ TrOk l' ∧ ∀ g, g ∈ l' ↔ g ∈ l ∨ (g ∈ r ∧ hasF a g.Path = false)
  | [], k, l, h, _, _, _, _ => ⟨l, rfl, h, fun g => by simp⟩
  | f :: r, k, l, h, hd, hm, hs, hn => by
    have hd' := List.pairwise_cons.1 hd
    rw [List.filterMap_cons]
    unfold adOf
    cases hh : hasF a f.Path with
    | true =>
      simp only [if_true]
      obtain ⟨l', e1, e2, e3⟩ := ad_run (a := a) hb r k l h hd'.2 (fun g hg => hm g (List.mem_cons_of_mem _ hg)) hs (fun g hg => hn g (List.mem_cons_of_mem _ hg))
      refine ⟨l', e1, e2, fun g => ?_⟩
      rw [e3 g]
      constructor
      · rintro (q | ⟨q1, q2⟩)
        · exact .inl q
        · exact .inr ⟨List.mem_cons_of_mem _ q1, q2⟩
      · rintro (q | ⟨q1, q2⟩)
        · exact .inl q
        · rcases List.mem_cons.1 q1 with rfl | q1
          · rw [hh] at q2; cases q2
          · exact .inr ⟨q1, q2⟩
    | false =>
      simp only [Bool.false_eq_true, if_false]
      have hf := hm f List.mem_cons_self
      have hc : OkCh ⟨1, f.Path, ByteArray.empty, f.Lines, ⟨[]⟩⟩ := ch_ok (.inl rfl) (hb.path f hf) (hb.text f hf)
      have hnf := hn f List.mem_cons_self hh
      have hrel : ∀ g ∈ l, relB g.Path f.Path = false := fun g hg => rel_ne hb (hs g hg) hf fun e => hnf g hg (by rw [e])
      have hra := rel_all.2 hrel
      have hlen : l.length < 24 := by
        have h1 := sub_len (ins_srt h.srt (rel_has hra)) hb.srt fun g hg => by
          rcases ins_mem.1 hg with e | e
          · subst e; exact hf
          · exact hs g e
        rw [ins_len] at h1
        have := hb.len; omega
      have hcan : Can ⟨1, f.Path, ByteArray.empty, f.Lines, ⟨[]⟩⟩ l (some f) := .inl ⟨rfl, hrel, rfl⟩
      rcases can_make h hc hcan with ⟨_, m0⟩ | ⟨m1, m2⟩
      · exfalso
        unfold makeF at m0
        rw [if_pos rfl] at m0
        simp only at m0
        rw [hra, if_neg Bool.false_ne_true, if_neg (by omega)] at m0
        cases m0
      have h1 := makeF_ok h hc m1
      obtain ⟨l', e1, e2, e3⟩ := ad_run (a := a) hb r (k + 1) _ h1 hd'.2 (fun g hg => hm g (List.mem_cons_of_mem _ hg)) (fun g hg => by
        rcases (m2 g).1 hg with q | q
        · exact hs g q.1
        · cases q; exact hf) (fun x hx hxa g hg => by
        rcases (m2 g).1 hg with q | q
        · exact hn x (List.mem_cons_of_mem _ hx) hxa g q.1
        · cases q; exact hd'.1 x hx)
      refine ⟨l', by rw [runF, if_neg (by rw [m1]; simp)]; exact e1, e2, fun g => ?_⟩
      rw [e3 g, m2 g]
      simp only [Option.some.injEq]
      constructor
      · rintro ((⟨q1, _⟩ | q1) | ⟨q1, q2⟩)
        · exact .inl q1
        · subst q1; exact .inr ⟨List.mem_cons_self, hh⟩
        · exact .inr ⟨List.mem_cons_of_mem _ q1, q2⟩
      · rintro (q | ⟨q1, q2⟩)
        · exact .inl (.inl ⟨q, hnf g q⟩)
        · rcases List.mem_cons.1 q1 with rfl | q1
          · exact .inl (.inr rfl)
          · exact .inr ⟨q1, q2⟩

theorem dis_of {l : List File} (h : TSrt l) : Dis l := h.imp fun h => sLt_ne h

theorem dif_ok {a b : List File} (ha : TrOk a) (hb : TrOk b) : (∀ c ∈ difL a b, OkCh c) ∧ runF 0 (difL a b) a = (b, ⟨0, 0⟩) := by
  constructor
  · intro c hc
    unfold difL at hc
    rw [List.mem_append, List.mem_append, List.mem_filterMap, List.mem_filterMap, List.mem_filterMap] at hc
    rcases hc with (⟨f, hf, e⟩ | ⟨f, hf, e⟩) | ⟨f, hf, e⟩
    · unfold rmOf at e
      split at e
      · cases e
      · cases e; exact ch_ok (.inr rfl) (ha.path f hf) (ha.text f hf)
    · unfold edOf at e
      split at e
      · rename_i hh
        cases e
        exact okCh_ed (ha.path f hf) hh.2 (script_ok (ha.text f hf) (hb.text _ (linesAt_mem hb hh.1))).1
      · cases e
    · unfold adOf at e
      split at e
      · cases e
      · cases e; exact ch_ok (.inl rfl) (hb.path f hf) (hb.text f hf)
  · obtain ⟨l1, r1, o1, m1⟩ := rm_run (b := b) a 0 a ha (dis_of ha.srt) fun f hf => hf
    have k1 : ∀ g, g ∈ l1 ↔ g ∈ a ∧ hasF b g.Path = true := by
      intro g
      rw [m1 g]
      constructor
      · rintro ⟨q1, q2⟩
        refine ⟨q1, ?_⟩
        cases hh : hasF b g.Path
        · exact absurd rfl (q2 g q1 hh)
        · rfl
      · rintro ⟨q1, q2⟩
        exact ⟨q1, fun f hf hff e => by rw [← e, q2] at hff; cases hff⟩
    obtain ⟨l2, r2, o2, m2⟩ := ed_run hb a (0 + (a.filterMap (rmOf b)).length) l1 o1 (dis_of ha.srt) fun f hf hfb => (k1 f).2 ⟨hf, hfb⟩
    have same : ∀ f ∈ a, hasF b f.Path = true → ¬ Edd b f → f ∈ b := by
      intro f hf hfb hne
      have hbm := linesAt_mem hb hfb
      have hsc : script f.Lines (linesAt b f.Path) = [] := by
        by_cases h0 : script f.Lines (linesAt b f.Path) = []
        · exact h0
        · exact absurd ⟨hfb, h0⟩ hne
      have : f.Lines = linesAt b f.Path := (script_ok (ha.text f hf) (hb.text _ hbm)).2.2 hsc
      rw [← this] at hbm
      exact hbm
    have k2 : ∀ g ∈ l2, g ∈ b ∧ hasF a g.Path = true := by
      intro g hg
      rcases (m2 g).1 hg with ⟨q1, q2⟩ | ⟨f, q1, q2, q3⟩
      · obtain ⟨p1, p2⟩ := (k1 g).1 q1
        refine ⟨same g p1 p2 fun he => q2 g p1 he rfl, has_mem p1⟩
      · subst q3
        exact ⟨linesAt_mem hb q2.1, show hasF a f.Path = true from has_mem q1⟩
    obtain ⟨l3, r3, o3, m3⟩ := ad_run (a := a) hb b (0 + (a.filterMap (rmOf b) ++ a.filterMap (edOf b)).length) l2 o2 (dis_of hb.srt) (fun f hf => hf) (fun g hg => (k2 g hg).1) (fun f hf hfa g hg e => by
      have := (k2 g hg).2
      rw [e, hfa] at this; cases this)
    have hrun : runF 0 (difL a b) a = (l3, ⟨0, 0⟩) := by
      unfold difL
      have e12 : runF 0 (a.filterMap (rmOf b) ++ a.filterMap (edOf b)) a = (l2, ⟨0, 0⟩) := by
        rw [run_app _ _ _ _ (by rw [r1]), r1]; exact r2
      rw [run_app _ _ _ _ (by rw [e12]), e12]; exact r3
    rw [hrun]
    congr 1
    refine res_eq o3.srt hb.srt fun g => ?_
    rw [m3 g]
    constructor
    · rintro (q | ⟨q, _⟩)
      · exact (k2 g q).1
      · exact q
    · intro hg
      cases hh : hasF a g.Path with
      | false => exact .inr ⟨hg, rfl⟩
      | true =>
        left
        obtain ⟨f, hf, e⟩ := has_ex hh
        have hfb : hasF b f.Path = true := by rw [e]; exact has_mem hg
        rw [m2 g]
        by_cases he : Edd b f
        · right
          refine ⟨f, hf, he, ?_⟩
          exact srt_uniq hb.srt hg (linesAt_mem hb hfb) e.symm
        · left
          have hfg : f = g := srt_uniq hb.srt (same f hf hfb he) hg e
          subst hfg
          refine ⟨(k1 f).2 ⟨hf, hfb⟩, fun x hx hxe ex => ?_⟩
          have := srt_uniq ha.srt hf hx ex
          subst this
          exact he hxe

theorem tp_diff (a b : FileTree) : changeforgelaw2_TreepatchDiffApplies a b = some true := by
  obtain ⟨a⟩ := a
  obtain ⟨b⟩ := b
  obtain ⟨q, f, e, hf⟩ := tdiff_f a b
  unfold changeforgelaw2_TreepatchDiffApplies
  rw [e, Option.bind_some]
  simp only
  by_cases h : f.Code = 0
  · obtain ⟨h1, h2, rfl, h4⟩ := hf h
    obtain ⟨d1, d2⟩ := dif_ok h1 h2
    rw [decide_eq_true h, if_neg (show ¬ ((!true) = true) by decide), Apply_f, Option.bind_some]
    simp only
    rw [applyT_of h4 d1 h1, d2]
    simp only
    rw [if_pos (by simp), tree_ok h2, Option.bind_some, Option.bind_some, if_pos rfl, renamed_f]; rfl
  · rw [decide_eq_false h, if_pos (by rfl), renamed_f]; rfl
end Go.Dc
