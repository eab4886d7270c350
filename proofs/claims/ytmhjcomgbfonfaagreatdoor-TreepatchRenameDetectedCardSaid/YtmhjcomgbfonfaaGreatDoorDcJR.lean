/- The law TreepatchRenameDetected. -/
import Derived.Test.YtmhjcomgbfonfaaGreatDoorDcNFy
set_option linter.unusedSimpArgs false
set_option linter.unusedVariables false
namespace Go.Dc
open Go

theorem only_one {l u : List File} (hl : TSrt l) {x : File} (h : ∀ f, (f ∈ l ∧ hasF u f.Path = false) ↔ f = x) : onlyF l u = [x] :=
  res_eq (hl.sublist (List.filter_sublist)) (List.pairwise_singleton _ _) fun f => by rw [only_mem, List.mem_singleton]; exact h f

/-- what is found after a rename -/
theorem det_one {l : List File} {path to : ByteArray} (h1 : (applyT [⟨3, path, to, [], ⟨[]⟩⟩] l).2.Code = 0) {pc : Int} {ps : List Pair_rename} {out : List Arr2_ByteArray}
    (D : DetX ⟨l⟩ ⟨(applyT [⟨3, path, to, [], ⟨[]⟩⟩] l).1⟩ pc ps out) : out = [⟨path, to⟩] := by
  generalize hrn : (⟨3, path, to, [], ⟨[]⟩⟩ : TreeChange) = rn at h1 D
  have k3 : rn.Kind = 3 := by rw [← hrn]
  have kp : rn.Path = path := by rw [← hrn]
  have kt : rn.To = to := by rw [← hrn]
  obtain ⟨_, a2, a3, a4, a5⟩ := applyT_ok h1
  have hr : OkCh rn := a2 _ (by simp)
  have hm : (makeF rn l).1 = 0 ∧ applyT [rn] l = ((makeF rn l).2, ⟨0, 0⟩) := by
    rw [a4] at h1 ⊢
    unfold runF at h1 ⊢
    by_cases hm : (makeF rn l).1 ≠ 0
    · rw [if_pos hm] at h1; exact absurd h1 hm
    · rw [if_neg hm]; exact ⟨by simpa using hm, rfl⟩
  obtain ⟨m1, m2⟩ := hm
  rw [m2] at a5 D
  simp only at a5 D
  obtain ⟨x, cx, rx⟩ := make_can a3 hr m1
  generalize hu : (makeF rn l).2 = u at *
  obtain ⟨L, u1, u2, rfl⟩ : ∃ L, (⟨rn.Path, L⟩ : File) ∈ l ∧ (∀ f ∈ l, f.Path ≠ rn.Path → relB f.Path rn.To = false) ∧ x = some ⟨rn.To, L⟩ := by
    rcases cx with ⟨k, _⟩ | ⟨k, _⟩ | q | ⟨k, _⟩
    · omega
    · omega
    · exact q.2
    · omega
  rw [kp] at u1 u2 rx
  rw [kt] at u2 rx
  have hne : to ≠ path := by
    intro e
    have := (hr.to k3).2
    rw [kp, kt, e, relB_self] at this; cases this
  have o1 : onlyF l u = [⟨path, L⟩] := only_one a3.srt fun f => by
    constructor
    · rintro ⟨h2, h3⟩
      by_cases hp : f.Path = path
      · exact srt_uniq a3.srt h2 u1 hp
      · rw [has_iff.2 ⟨f, (rx f).2 (.inl ⟨h2, hp⟩), rfl⟩] at h3; cases h3
    · rintro rfl
      refine ⟨u1, ?_⟩
      cases hh : hasF u path
      · rfl
      · obtain ⟨f, hf, e⟩ := has_iff.1 hh
        rcases (rx f).1 hf with q | q
        · exact absurd e q.2
        · cases q; exact absurd e hne
  have o2 : onlyF u l = [⟨to, L⟩] := only_one a5.srt fun f => by
    constructor
    · rintro ⟨h2, h3⟩
      rcases (rx f).1 h2 with q | q
      · rw [has_iff.2 ⟨f, q.1, rfl⟩] at h3; cases h3
      · cases q; rfl
    · rintro rfl
      refine ⟨(rx _).2 (.inr rfl), ?_⟩
      cases hh : hasF l to
      · rfl
      · obtain ⟨f, hf, e⟩ := has_iff.1 hh
        by_cases hp : f.Path = path
        · exact absurd (e.symm.trans hp) hne
        · have := u2 f hf hp
          rw [e, relB_self] at this; cases this
  have hall : allF pc (onlyF l u) (onlyF u l) = [⟨path, to, 100⟩] := by
    rw [o1, o2]
    unfold allF pairsF
    have := (simil_bounds L L).2.2.2 rfl
    have := D.pc1
    simp [*]
  have hps : ps = [⟨path, to, 100⟩] := by
    have := D.perm
    simp only at this
    rw [hall] at this
    exact List.perm_singleton.1 this
  have := D.mem
  rw [hps] at this
  exact List.perm_singleton.1 this

theorem tp_detected (path to : ByteArray) (l : List ByteArray) (pc : Int) : changeforgelaw2_TreepatchRenameDetected path to l pc = some true := by
  have hone : ∀ l, changeforgelaw2_one path l = some ⟨[⟨path, l⟩]⟩ := fun _ => rfl
  have hch : ∀ c, changeforgelaw2_change c = some ⟨[c]⟩ := fun _ => rfl
  unfold changeforgelaw2_TreepatchRenameDetected changeforgelaw2_TreepatchRenameDetected.j1
  rw [hone, Option.bind_some, hch, Option.bind_some, Apply_f, Option.bind_some, renamed_f]
  simp only
  obtain ⟨out, e1, _, e3⟩ := Detect_x ⟨[⟨path, l⟩]⟩ ⟨(applyT [⟨3, path, to, [], ⟨[]⟩⟩] [⟨path, l⟩]).1⟩ pc
  rw [e1, Option.bind_some]
  simp only
  by_cases h1 : (applyT [⟨3, path, to, [], ⟨[]⟩⟩] [⟨path, l⟩]).2.Code = 0
  · by_cases h2 : (detFault ⟨[⟨path, l⟩]⟩ ⟨(applyT [⟨3, path, to, [], ⟨[]⟩⟩] [⟨path, l⟩]).1⟩ pc).Code = 0
    · obtain ⟨ps, D⟩ := e3 h2
      rw [det_one h1 D, pairs_refl _ (by simp)]
      simp [h1, h2]
    · simp [h1, h2]
  · simp [h1]
end Go.Dc
