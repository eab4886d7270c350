/- Patches of trees: applied, checked; three laws. -/
import Derived.Test.YtjmigclbilnajaaDoorDcUO
import Derived.Test.YtjmigclbilnajaaDoorDcUC
import Derived.Test.YtjmigclbilnajaaDoorDcUJ
set_option linter.unusedSimpArgs false
set_option linter.unusedVariables false
namespace Go.Dc
open Go

theorem ins_ok {l : List File} (h : TrOk l) {x : File} (h1 : pathB x.Path = true) (h2 : relAny l x.Path = false) (h3 : OkText x.Lines) (h4 : l.length < 24) : TrOk (insF l x) := by
  have hrel : ∀ f ∈ l, relB f.Path x.Path = false := by
    intro f hf
    unfold relAny at h2
    rw [List.any_eq_false] at h2
    simpa using h2 f hf
  refine ⟨by rw [ins_len]; omega, ins_srt h.srt (rel_has h2), ?_, ?_, ?_⟩
  · intro f hf
    rcases ins_mem.1 hf with rfl | hf
    · exact h1
    · exact h.path f hf
  · unfold insF
    rw [List.pairwise_append, List.pairwise_append]
    have hr := h.rel
    rw [← List.take_append_drop (posF l x.Path) l, List.pairwise_append] at hr
    refine ⟨⟨hr.1, List.pairwise_singleton _ _, ?_⟩, hr.2.1, ?_⟩
    · intro a ha b hb
      rw [List.mem_singleton] at hb; subst hb
      exact hrel a (List.mem_of_mem_take ha)
    · intro a ha b hb
      rcases List.mem_append.1 ha with ha | ha
      · exact hr.2.2 a ha b hb
      · rw [List.mem_singleton] at ha; subst ha
        rw [relB_comm]; exact hrel b (List.mem_of_mem_drop hb)
  · intro f hf
    rcases ins_mem.1 hf with rfl | hf
    · exact h3
    · exact h.text f hf

theorem erase_ok {l : List File} (h : TrOk l) (j : Nat) : TrOk (l.eraseIdx j) := by
  have hs := List.eraseIdx_sublist l j
  refine ⟨Nat.le_trans hs.length_le h.len, h.srt.sublist hs, fun f hf => h.path f (hs.subset hf), h.rel.sublist hs, fun f hf => h.text f (hs.subset hf)⟩

theorem applyF_text {p : Patch} {t : List ByteArray} (h : (applyF p t).2.Code = 0) : OkText (applyF p t).1 := by
  obtain ⟨h1, h2, h3, h4, h5, h6⟩ := applyF_ok h
  rw [h6]
  exact ⟨h5, rawS_lines _ _ _ h3.2 fun x hx => lines_of (good_at h2 (by omega) x hx).2.2.2.1⟩

theorem makeF_ok {l : List File} (h : TrOk l) {c : TreeChange} (hc : OkCh c) (h0 : (makeF c l).1 = 0) : TrOk (makeF c l).2 := by
  unfold makeF at h0 ⊢
  by_cases k1 : c.Kind = 1
  · rw [if_pos k1] at h0 ⊢
    cases hr : relAny l c.Path
    · rw [hr, if_neg Bool.false_ne_true] at h0
      rw [if_neg Bool.false_ne_true]
      by_cases h24 : 24 ≤ l.length
      · rw [if_pos h24] at h0; simp at h0
      · rw [if_neg h24]
        exact ins_ok h hc.path hr ((okText_iff _).2 ((textFault_zero _).2 hc.lines)) (by omega)
    · rw [hr, if_pos rfl] at h0; simp at h0
  rw [if_neg k1] at h0 ⊢
  cases hh : hasF l c.Path with
  | false => rw [hh] at h0; simp at h0
  | true =>
    obtain ⟨hp, he⟩ := has_pos h.srt hh
    have hfm := List.getElem_mem hp
    have hle : (l.eraseIdx (posF l c.Path)).length = l.length - 1 := by rw [List.length_eraseIdx, if_pos hp]
    have hl := h.len
    rw [hh, if_pos rfl, List.getElem?_eq_getElem hp] at h0
    rw [if_pos rfl, List.getElem?_eq_getElem hp]
    simp only at h0 ⊢
    by_cases k2 : c.Kind = 2
    · rw [if_pos k2] at h0 ⊢
      by_cases ht : l[posF l c.Path].Lines ≠ c.Lines
      · rw [if_pos ht] at h0; simp at h0
      · rw [if_neg ht]; exact erase_ok h _
    rw [if_neg k2] at h0 ⊢
    by_cases k3 : c.Kind = 3
    · rw [if_pos k3] at h0 ⊢
      cases hr : relAny (l.eraseIdx (posF l c.Path)) c.To
      · rw [if_neg Bool.false_ne_true]
        exact ins_ok (erase_ok h _) (hc.to k3).1 hr (show OkText l[posF l c.Path].Lines from h.text _ hfm) (by omega)
      · rw [hr, if_pos rfl] at h0; simp at h0
    · rw [if_neg k3] at h0 ⊢
      by_cases ha : (applyF c.Patch l[posF l c.Path].Lines).2.Code = 0
      · rw [if_neg (fun hn => hn ha)]
        simp only
        rw [← ins_erase h.srt hp (x := ⟨l[posF l c.Path].Path, (applyF c.Patch l[posF l c.Path].Lines).1⟩) rfl]
        refine ins_ok (erase_ok h _) (show pathB l[posF l c.Path].Path = true from h.path _ hfm) (erase_rel h hp) ?_ (by omega)
        exact applyF_text ha
      · rw [if_pos ha] at h0; exact absurd h0 ha

/-! ## patches -/
def pcG (k : Nat) (c : TreeChange) : Option Fault := if chF c ≠ 0 then some ⟨chF c, k⟩ else Option.none
def pcF (p : List TreeChange) : Fault := if p.length > 30 then ⟨2, -1⟩ else (scanO pcG 0 p).getD ⟨0, 0⟩

theorem VPatch_f (p : TreePatch) : treepatch_ValidatePatch p = some (pcF p.Changes) := by
  obtain ⟨l⟩ := p
  unfold treepatch_ValidatePatch pcF
  simp only
  by_cases h : l.length > 30
  · rw [decide_eq_true (by omega), if_pos rfl, if_pos h]
  rw [decide_eq_false (by omega), if_neg Bool.false_ne_true, if_neg h, scan0 l pcG ?_ ?_, Option.bind_some]
  · cases scanO pcG 0 l <;> rfl
  · intro k hk _
    unfold treepatch_ValidatePatch.l1 pcG
    simp only
    rw [decide_eq_true (by omega), if_pos rfl, at_nat hk, Option.bind_some, check_f, Option.bind_some]
    by_cases hc : chF l[k] = 0
    · rw [decide_eq_true hc, if_neg (show ¬ ((!true) = true) by decide), if_neg (fun hn => hn hc), ck_eq (by omega) (by omega), Option.bind_some]; rfl
    · rw [decide_eq_false hc, if_pos (by rfl), if_pos hc]
  · unfold treepatch_ValidatePatch.l1
    rw [decide_eq_false (by simp), if_neg Bool.false_ne_true]

theorem RVPatch_f (p : TreePatch) : changeforgeref2_TreePatchFault p = some (pcF p.Changes) := by
  obtain ⟨l⟩ := p
  unfold changeforgeref2_TreePatchFault pcF
  simp only
  by_cases h : l.length > 30
  · rw [decide_eq_true (by omega), if_pos rfl, if_pos h]; rfl
  rw [decide_eq_false (by omega), if_neg Bool.false_ne_true, if_neg h, scan0 l pcG ?_ ?_, Option.bind_some]
  · cases scanO pcG 0 l <;> rfl
  · intro k hk _
    unfold changeforgeref2_TreePatchFault.l1 pcG
    simp only
    rw [decide_eq_true (by omega), if_pos rfl, at_nat hk, Option.bind_some, ChangeCode_f, Option.bind_some]
    by_cases hc : chF l[k] = 0
    · rw [decide_eq_true hc, if_neg (show ¬ ((!true) = true) by decide), if_neg (fun hn => hn hc), ck_eq (by omega) (by omega), Option.bind_some]; rfl
    · rw [decide_eq_false hc, if_pos (by rfl), if_pos hc]; rfl
  · unfold changeforgeref2_TreePatchFault.l1
    rw [decide_eq_false (by simp), if_neg Bool.false_ne_true]

theorem pcG_code {k : Nat} {c : TreeChange} {y : Fault} (h : pcG k c = some y) : y.Code ≠ 0 := by
  unfold pcG at h
  split at h
  · rename_i hc; cases h; exact hc
  · cases h

theorem pcF_ok (p : List TreeChange) : pcF p = ⟨0, 0⟩ ∨ (pcF p).Code ≠ 0 := by
  unfold pcF
  split
  · right; simp
  · cases h : scanO pcG 0 p with
    | none => left; rfl
    | some y => right; obtain ⟨j, hj, e⟩ := scanO_some h; exact pcG_code e

theorem pcF_zero (p : List TreeChange) : (pcF p).Code = 0 ↔ p.length ≤ 30 ∧ ∀ c ∈ p, OkCh c := by
  unfold pcF
  by_cases h : p.length > 30
  · rw [if_pos h]; exact ⟨fun e => by simp at e, fun e => by omega⟩
  rw [if_neg h]
  have e1 : (((scanO pcG 0 p).getD ⟨0, 0⟩).Code = 0) ↔ scanO pcG 0 p = Option.none := by
    cases h : scanO pcG 0 p with
    | none => simp
    | some y => obtain ⟨j, hj, e⟩ := scanO_some h; simp [pcG_code e]
  rw [e1, scanO_none]
  constructor
  · intro hh
    refine ⟨by omega, fun c hc => ?_⟩
    obtain ⟨j, hj, rfl⟩ := List.getElem_of_mem hc
    have := hh j hj
    unfold pcG at this
    split at this
    · cases this
    · rename_i h0; exact chF_ok.1 (by simpa using h0)
  · rintro ⟨_, hh⟩ j hj
    unfold pcG
    rw [if_neg (by rw [chF_ok.2 (hh _ (List.getElem_mem hj))]; simp)]

/-- changes one after the other -/
def runF : Nat → List TreeChange → List File → List File × Fault
  | _, [], l => (l, ⟨0, 0⟩)
  | k, c :: r, l => if (makeF c l).1 ≠ 0 then ([], ⟨(makeF c l).1, k⟩) else runF (k + 1) r (makeF c l).2

def applyT (p : List TreeChange) (l : List File) : List File × Fault :=
  if (pcF p).Code ≠ 0 then ([], pcF p) else if (treeFault l).Code ≠ 0 then ([], ⟨(treeFault l).Code, -2⟩) else runF 0 p l

theorem tsecond_f (t : FileTree) (i : Int) : treepatch_Second t i = some (if (treeFault t.Files).Code = 0 then ⟨0, 0⟩ else ⟨(treeFault t.Files).Code, i⟩) := by
  unfold treepatch_Second
  rw [Validate_f, Option.bind_some]
  rcases treeFault_ok t.Files with h | h
  · rw [h]; rfl
  · rw [if_pos (faultless.2 fun h2 => h h2.1), if_neg h]

theorem copyT_f {l : List File} (h : ∀ f ∈ l, f.Lines.length ≤ 1000000) (hl : l.length ≤ 1000) : treepatch_CopyTree ⟨l⟩ = some ⟨l⟩ := by
  have key : ∀ (n k : Nat), k + n = l.length → iter (fun s => treepatch_CopyTree.l1 ⟨l⟩ s.1 s.2) ((k : Int), l.take k) = some l := by
    intro n
    induction n with
    | zero =>
      intro k hk
      refine iter_done ?_
      show treepatch_CopyTree.l1 ⟨l⟩ _ _ = _
      unfold treepatch_CopyTree.l1
      simp only
      rw [decide_eq_false (by omega), if_neg Bool.false_ne_true, List.take_of_length_le (by omega)]
    | succ n ih =>
      intro k hk
      have hkl : k < l.length := by omega
      have hs : treepatch_CopyTree.l1 ⟨l⟩ (k : Int) (l.take k) = some (Step.next (((k + 1 : Nat) : Int), l.take (k + 1))) := by
        unfold treepatch_CopyTree.l1
        simp only
        rw [decide_eq_true (by omega), if_pos rfl, at_nat hkl, Option.bind_some, clone_f _ (h _ (List.getElem_mem hkl)), Option.bind_some, app_eq (by simp; omega), Option.bind_some, ck_eq (by omega) (by omega), Option.bind_some,
          List.take_add_one, List.getElem?_eq_getElem hkl]; rfl
      rw [iter_next (s' := (((k + 1 : Nat) : Int), l.take (k + 1))) hs]
      exact ih (k + 1) (by omega)
  unfold treepatch_CopyTree
  have := key l.length 0 (by omega)
  rw [List.take_zero, show ((0 : Nat) : Int) = 0 from rfl] at this
  rw [this, Option.bind_some]; rfl

theorem run_ok : ∀ (r : List TreeChange) (k : Nat) (l : List File), TrOk l → (∀ c ∈ r, OkCh c) → (runF k r l).2.Code = 0 → TrOk (runF k r l).1 ∧ (runF k r l).2 = ⟨0, 0⟩
  | [], k, l, h, _, _ => ⟨h, rfl⟩
  | c :: r, k, l, h, hc, h0 => by
    rw [runF] at h0 ⊢
    by_cases hm : (makeF c l).1 ≠ 0
    · rw [if_pos hm] at h0; exact absurd h0 hm
    · rw [if_neg hm] at h0 ⊢
      exact run_ok r (k + 1) _ (makeF_ok h (hc c List.mem_cons_self) (by simpa using hm)) (fun d hd => hc d (List.mem_cons_of_mem _ hd)) h0

theorem run_iter {p : List TreeChange} (hp : ∀ c ∈ p, OkCh c) (hpl : p.length ≤ 30) : ∀ (r : List TreeChange) (k : Nat) (l : List File), p.drop k = r → TrOk l →
    iter (fun s => treepatch_Apply.l1 ⟨p⟩ s.1 s.2) ((k : Int), l) = some (if (runF k r l).2.Code ≠ 0 then .inl (⟨[]⟩, (runF k r l).2) else .inr (runF k r l).1) := by
  intro r
  induction r with
  | nil =>
    intro k l hk h
    have := drop_end hk
    rw [runF, if_neg (by simp)]
    refine iter_done ?_
    show treepatch_Apply.l1 ⟨p⟩ _ _ = _
    unfold treepatch_Apply.l1
    simp only
    rw [decide_eq_false (by omega), if_neg Bool.false_ne_true]
  | cons c r ih =>
    intro k l hk h
    obtain ⟨hlt, hx, hr⟩ := drop_at hk
    have hc : OkCh c := hp c (hx ▸ List.getElem_mem hlt)
    have hs : treepatch_Apply.l1 ⟨p⟩ (k : Int) l = if (makeF c l).1 ≠ 0 then some (Step.done (Sum.inl (⟨[]⟩, ⟨(makeF c l).1, k⟩))) else some (Step.next (((k + 1 : Nat) : Int), (makeF c l).2)) := by
      unfold treepatch_Apply.l1
      simp only
      rw [decide_eq_true (by omega), if_pos rfl, at_nat hlt, Option.bind_some, hx, make1_f h hc, Option.bind_some]
      by_cases hm : (makeF c l).1 = 0
      · rw [decide_eq_true hm, if_neg (show ¬ ((!true) = true) by decide), if_neg (fun hn => hn hm), ck_eq (by omega) (by omega), Option.bind_some]; rfl
      · rw [decide_eq_false hm, if_pos (by rfl), if_pos hm]
    rw [runF]
    by_cases hm : (makeF c l).1 ≠ 0
    · rw [if_pos hm] at hs ⊢
      rw [if_pos (by simpa using hm)]
      exact iter_done hs
    · rw [if_neg hm] at hs ⊢
      rw [iter_next (s' := (((k + 1 : Nat) : Int), (makeF c l).2)) hs]
      exact ih (k + 1) _ hr (makeF_ok h hc (by simpa using hm))

theorem rrun_iter {p : List TreeChange} (hp : ∀ c ∈ p, OkCh c) (hpl : p.length ≤ 30) : ∀ (r : List TreeChange) (k : Nat) (l : List File), p.drop k = r → TrOk l →
    iter (fun s => changeforgeref2_ApplyTree.l1 ⟨p⟩ s.1 s.2) ((k : Int), l) = some (if (runF k r l).2.Code ≠ 0 then .inl (⟨[]⟩, (runF k r l).2) else .inr (runF k r l).1) := by
  intro r
  induction r with
  | nil =>
    intro k l hk h
    have := drop_end hk
    rw [runF, if_neg (by simp)]
    refine iter_done ?_
    show changeforgeref2_ApplyTree.l1 ⟨p⟩ _ _ = _
    unfold changeforgeref2_ApplyTree.l1
    simp only
    rw [decide_eq_false (by omega), if_neg Bool.false_ne_true]
  | cons c r ih =>
    intro k l hk h
    obtain ⟨hlt, hx, hr⟩ := drop_at hk
    have hc : OkCh c := hp c (hx ▸ List.getElem_mem hlt)
    obtain ⟨t', e1, e2⟩ := RChange_f h hc
    have hs : changeforgeref2_ApplyTree.l1 ⟨p⟩ (k : Int) l = if (makeF c l).1 ≠ 0 then some (Step.done (Sum.inl (⟨[]⟩, ⟨(makeF c l).1, k⟩))) else some (Step.next (((k + 1 : Nat) : Int), (makeF c l).2)) := by
      unfold changeforgeref2_ApplyTree.l1
      simp only
      rw [decide_eq_true (by omega), if_pos rfl, at_nat hlt, Option.bind_some, hx, e1, Option.bind_some]
      simp only
      by_cases hm : (makeF c l).1 = 0
      · rw [decide_eq_true hm, if_neg (show ¬ ((!true) = true) by decide), if_neg (fun hn => hn hm), ck_eq (by omega) (by omega), Option.bind_some, e2 hm]; rfl
      · rw [decide_eq_false hm, if_pos (by rfl), if_pos hm]; rfl
    rw [runF]
    by_cases hm : (makeF c l).1 ≠ 0
    · rw [if_pos hm] at hs ⊢
      rw [if_pos (by simpa using hm)]
      exact iter_done hs
    · rw [if_neg hm] at hs ⊢
      rw [iter_next (s' := (((k + 1 : Nat) : Int), (makeF c l).2)) hs]
      exact ih (k + 1) _ hr (makeF_ok h hc (by simpa using hm))

theorem run_fail : ∀ (r : List TreeChange) (k : Nat) (l : List File), (runF k r l).2.Code ≠ 0 → (runF k r l).1 = []
  | [], k, l, h => absurd rfl h
  | c :: r, k, l, h => by
    rw [runF] at h ⊢
    by_cases hm : (makeF c l).1 ≠ 0
    · rw [if_pos hm]
    · rw [if_neg hm] at h ⊢
      exact run_fail r (k + 1) _ h

theorem Apply_f (p : TreePatch) (t : FileTree) : treepatch_Apply p t = some (⟨(applyT p.Changes t.Files).1⟩, (applyT p.Changes t.Files).2) := by
  obtain ⟨p⟩ := p
  obtain ⟨l⟩ := t
  unfold treepatch_Apply applyT
  rw [VPatch_f, Option.bind_some]
  simp only
  rcases pcF_ok p with h | h
  · have h0 : (pcF p).Code = 0 := by rw [h]
    obtain ⟨hpl, hp⟩ := (pcF_zero p).1 h0
    rw [if_neg (by rw [h]; decide), if_neg (fun hn => hn h0), tsecond_f, Option.bind_some]
    simp only
    by_cases ht : (treeFault l).Code = 0
    · have hT := (treeFault_zero l).1 ht
      rw [if_pos ht, if_neg (by decide), if_neg (fun hn => hn ht), copyT_f (fun f hf => by have := hT.text_len hf; omega) (by have := hT.len; omega), Option.bind_some]
      have := run_iter hp hpl p 0 l rfl hT
      rw [show ((0 : Nat) : Int) = 0 from rfl] at this
      rw [this, Option.bind_some]
      by_cases hr : (runF 0 p l).2.Code ≠ 0
      · rw [if_pos hr, run_fail _ _ _ hr]
      · rw [if_neg hr, (run_ok p 0 l hT hp (by simpa using hr)).2]; rfl
    · rw [if_neg ht, if_pos (by simp [ht]), if_pos ht]
  · rw [if_pos (by simp [h]), if_pos h]

theorem RApply_f (p : TreePatch) (t : FileTree) : changeforgeref2_ApplyTree p t = some (⟨(applyT p.Changes t.Files).1⟩, (applyT p.Changes t.Files).2) := by
  obtain ⟨p⟩ := p
  obtain ⟨l⟩ := t
  unfold changeforgeref2_ApplyTree applyT
  rw [RVPatch_f, Option.bind_some]
  simp only
  rcases pcF_ok p with h | h
  · have h0 : (pcF p).Code = 0 := by rw [h]
    obtain ⟨hpl, hp⟩ := (pcF_zero p).1 h0
    rw [if_neg (by rw [h]; decide), if_neg (fun hn => hn h0), TreeFault_f, Option.bind_some]
    simp only
    by_cases ht : (treeFault l).Code = 0
    · have hT := (treeFault_zero l).1 ht
      rw [decide_eq_true ht, if_neg (by decide), if_neg (fun hn => hn ht)]
      have := rrun_iter hp hpl p 0 l rfl hT
      rw [show ((0 : Nat) : Int) = 0 from rfl] at this
      rw [this, Option.bind_some]
      by_cases hr : (runF 0 p l).2.Code ≠ 0
      · rw [if_pos hr, run_fail _ _ _ hr]
      · rw [if_neg hr, (run_ok p 0 l hT hp (by simpa using hr)).2]; rfl
    · rw [decide_eq_false ht, if_pos (by rfl), if_pos ht]; rfl
  · rw [if_pos (by simp [h]), if_pos h]
end Go.Dc
