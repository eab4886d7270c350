import Derived.Test.YtmhjcomgbfonfaaGreatDoorDcJE
set_option linter.unusedSimpArgs false
set_option linter.unusedVariables false
set_option maxRecDepth 4000
namespace Go.Dc
open Go
theorem run_keep : ∀ (r : List TreeChange) (k : Nat) (l : List File), TrOk l → (∀ c ∈ r, OkCh c) → (Od k r l).2.Code = 0 → ∀ f : File, (∀ c ∈ r, f.Path ∉ D7 c) → (f ∈ (Od k r l).1 ↔ f ∈ l)
  | [], k, l, _, _, _, f, _ => Iff.rfl
  | c :: r, k, l, hl, hc, h0, f, hf => by
    rw [Od] at h0 ⊢
    by_cases hm : (Hh c l).1 ≠ 0
    · rw [if_pos hm] at h0; exact absurd h0 hm
    rw [if_neg hm] at h0 ⊢
    have hm0 : (Hh c l).1 = 0 := by simpa using hm
    have hcc := hc c List.mem_cons_self
    obtain ⟨x, cx, rx⟩ := make_can hl hcc hm0
    rw [run_keep r (k + 1) _ (makeF_ok hl hcc hm0) (fun d hd => hc d (List.mem_cons_of_mem _ hd)) h0 f fun d hd => hf d (List.mem_cons_of_mem _ hd), rx f]
    have hfc := hf c List.mem_cons_self
    have hne : f.Path ≠ c.Path := fun e => hfc (by rw [e]; exact path_mem c)
    constructor
    · rintro (⟨h1, _⟩ | h1)
      · exact h1
      · rw [← h1] at cx; exact absurd (can_path cx) hfc
    · intro h1; exact .inl ⟨h1, hne⟩
theorem changed_by {p : TreePatch} {B : List File} (h : (Di p.Changes B).2.Code = 0) {q : ByteArray} (hne : lk (Di p.Changes B).1 q ≠ lk B q) : ∃ c ∈ p.Changes, q ∈ D7 c := by
  obtain ⟨_, hc, hB, he, hL⟩ := Hb h
  refine Classical.byContradiction fun hno => hne ?_
  have hno : ∀ c ∈ p.Changes, q ∉ D7 c := fun c hc2 hq => hno ⟨c, hc2, hq⟩
  rw [he] at h hL ⊢
  have key : ∀ L, lk (Od 0 p.Changes B).1 q = some L ↔ lk B q = some L := by
    intro L
    rw [My hL.srt, My hB.srt]
    exact run_keep p.Changes 0 B hB hc h ⟨q, L⟩ hno
  cases e1 : lk (Od 0 p.Changes B).1 q with
  | some L => rw [(key L).1 e1]
  | none =>
    cases e2 : lk B q with
    | none => rfl
    | some L => rw [(key L).2 e2] at e1; cases e1
theorem tou_of {c : TreeChange} {q p : ByteArray} (h1 : q ∈ D7 c) (h2 : Kf q p = true) : Ov p c = true := by
  unfold Ov
  rw [List.any_eq_true]
  exact ⟨q, h1, h2⟩
theorem last_in {p : TreePatch} {B : List File} (h : (Di p.Changes B).2.Code = 0) {q x : ByteArray} (hx : x.size ≤ 1000000) (hne : lk (Di p.Changes B).1 q ≠ lk B q) (hr : Kf q x = true) : 0 ≤ M1 p x ∧ M1 p x < (p.Changes.length : Int) := by
  obtain ⟨a1, a2, _⟩ := Hb h
  obtain ⟨c, hc, hq⟩ := changed_by h hne
  rcases (last_f a2 a1 hx).2 with ⟨_, h2⟩ | ⟨k, hk, h2, _⟩
  · have := h2 c hc
    rw [tou_of hq hr] at this; cases this
  · omega
theorem mg_dirty {b l r : OT} (h : (mgO b l r).2 = false) : l ≠ b ∧ r ≠ b := by
  unfold mgO at h
  split at h
  · cases h
  · rename_i h1
    split at h
    · cases h
    · rename_i h2
      exact ⟨h2, fun e => h1 (.inl e)⟩
theorem tm_valid (base : FileTree) (left right : TreePatch) : Bb base left right = some true := by
  obtain ⟨B⟩ := base
  unfold Bb
  rw [N6]
  by_cases hok : TrOk B ∧ (Di left.Changes B).2.Code = 0 ∧ (Di right.Changes B).2.Code = 0
  case neg =>
    obtain ⟨t1, c1, f1, m1, k1⟩ := Ny hok
    rw [m1, Option.bind_some]
    simp [k1]
  obtain ⟨hB, h1, h2⟩ := hok
  obtain ⟨_, _, _, _, hL⟩ := Hb h1
  obtain ⟨_, _, _, _, hR⟩ := Hb h2
  rw [tmerge hB h1 h2, Option.bind_some]
  have inL : ∀ q x : ByteArray, x.size ≤ 1000000 → lk (Di left.Changes B).1 q ≠ lk B q → Kf q x = true → 0 ≤ M1 left x ∧ M1 left x < (left.Changes.length : Int) := fun q x hx hne hr => last_in h1 hx hne hr
  have inR : ∀ q x : ByteArray, x.size ≤ 1000000 → lk (Di right.Changes B).1 q ≠ lk B q → Kf q x = true → 0 ≤ M1 right x ∧ M1 right x < (right.Changes.length : Int) := fun q x hx hne hr => last_in h2 hx hne hr
  generalize (Di left.Changes B).1 = L at hL inL ⊢
  generalize (Di right.Changes B).1 = R at hR inR ⊢
  by_cases n1 : (L7 B L R).length > 24
  · rw [if_pos n1]; simp
  rw [if_neg n1]
  simp only [decide_true, Bool.not_true, Bool.false_eq_true, if_false]
  have sK := K_size hB hL hR
  have hcf : ∀ q ∈ Mg B L R left right ++ L9 B L R left right, (0 ≤ q.e0 ∧ q.e0 < (left.Changes.length : Int)) ∧ (0 ≤ q.e1 ∧ q.e1 < (right.Changes.length : Int)) := by
    intro q hq
    rcases List.mem_append.1 hq with hq | hq
    · unfold Mg at hq
      obtain ⟨p, hp, he⟩ := List.mem_filterMap.1 hq
      have hs := sK p hp
      unfold fstO at he
      split at he
      · cases he
      · rename_i hd
        cases he
        have hd : (vF B L R p).2 = false := by simpa using hd
        obtain ⟨d1, d2⟩ := mg_dirty hd
        exact ⟨inL p p (by omega) d1 (O9 p), inR p p (by omega) d2 (O9 p)⟩
    · unfold L9 at hq
      obtain ⟨x, hx, he⟩ := List.mem_filterMap.1 hq
      unfold secO at he
      split at he
      · rename_i hr
        cases he
        obtain ⟨x1, x2⟩ := (Kz hB.srt hL.srt hR.srt).1 hx
        have hs : x.Path.size ≤ 60 := by
          by_cases hk : x.Path ∈ tmK B L R
          · exact sK _ hk
          · rw [not_K hB.srt hL.srt hR.srt hk] at x1; cases x1
        have xR : lk R x.Path = some x.Lines := by
          unfold vF at x1
          rw [x2] at x1
          exact mgO_late x1
        have xB : lk R x.Path ≠ lk B x.Path := by
          intro e
          unfold vF mgO at x1
          rw [if_pos (.inl e), x2] at x1; cases x1
        unfold Dr at hr
        rw [List.any_eq_true] at hr
        obtain ⟨y, hy, hyx⟩ := hr
        obtain ⟨y1, y2, y3⟩ := (own_mem hB.srt hL.srt hR.srt).1 hy
        have yB : lk L y.Path ≠ lk B y.Path := by
          intro e
          unfold vF mgO at y1
          split at y1
          · rename_i h3
            rcases h3 with h3 | h3
            · rw [y3, ← e] at h3; exact y2 h3.symm
            · rw [y3] at h3; exact y2 h3.symm
          · first | (rw [if_pos e, y3] at y1; cases y1) | (rw [y3] at y1; cases y1)
        exact ⟨inL y.Path x.Path (by omega) yB hyx, inR x.Path x.Path (by omega) xB (O9 _)⟩
      · cases he
  have hlen : (Mg B L R left right ++ L9 B L R left right).length ≤ 200 := by
    have lK := K_len hB hL hR
    have lf : (Mg B L R left right).length ≤ 72 := Nat.le_trans (List.length_filterMap_le _ _) lK
    have ll : (Hm B L R).length ≤ 72 := Nat.le_trans (List.length_filterMap_le _ _) lK
    have ls : (L9 B L R left right).length ≤ 72 := Nat.le_trans (List.length_filterMap_le _ _) ll
    rw [List.length_append]; omega
  have hloop : De (fun s => Bb.l1 left right (⟨L7 B L R⟩, Mg B L R left right ++ L9 B L R left right, ⟨0, 0⟩) s) 0 = some (.inr ()) := by
    generalize Mg B L R left right ++ L9 B L R left right = cs at hcf hlen
    rw [any_loopC (f := fun s => Bb.l1 left right (⟨L7 B L R⟩, cs, ⟨0, 0⟩) s) (.inl false) (.inr ()) cs (fun _ => false) ?_ ?_]
    · have : (cs.any fun _ => false) = false := by simp
      rw [this]; rfl
    · intro k hk
      obtain ⟨⟨q1, q2⟩, q3, q4⟩ := hcf _ (List.getElem_mem hk)
      unfold Bb.l1
      simp only
      rw [Be, if_pos (by omega), Cv hk]
      simp only [Option.bind_some]
      rw [decide_eq_false (by omega), if_neg Bool.false_ne_true, Option.bind_some, decide_eq_false (by omega), if_neg Bool.false_ne_true, Option.bind_some, decide_eq_false (by omega), if_neg Bool.false_ne_true, Option.bind_some, decide_eq_false (by omega), if_neg Bool.false_ne_true, Ce (by omega) (by omega), Option.bind_some]
      rfl
    · unfold Bb.l1
      simp only
      rw [Be, if_neg (by omega)]
  rw [hloop, Option.bind_some]
  have hT : TrOk (L7 B L R) := by
    have hv : ∀ f ∈ L7 B L R, (vF B L R f.Path).1 = some f.Lines := by
      intro f hf
      rcases Om.1 hf with h3 | ⟨h3, _⟩
      · exact ((Mz hB.srt hL.srt hR.srt).1 h3).1
      · exact ((Kz hB.srt hL.srt hR.srt).1 h3).1
    have hlate : ∀ f ∈ Hm B L R, ∃ g ∈ R, g.Path = f.Path := by
      intro f hf
      obtain ⟨x1, x2⟩ := (Kz hB.srt hL.srt hR.srt).1 hf
      unfold vF at x1
      rw [x2] at x1
      exact ⟨_, (My hR.srt).1 (mgO_late x1), rfl⟩
    have hout : ∀ f ∈ Nz B L R, ∃ g ∈ L, g.Path = f.Path := by
      intro f hf
      obtain ⟨_, x2⟩ := (Mz hB.srt hL.srt hR.srt).1 hf
      cases e : lk L f.Path with
      | none => exact absurd e x2
      | some v => exact ⟨_, (My hL.srt).1 e, rfl⟩
    have rne : ∀ {T : List File}, TrOk T → ∀ {f g : File}, f ∈ T → g ∈ T → f.Path ≠ g.Path → Kf f.Path g.Path = false := by
      intro T hT f g hf hg hne
      obtain ⟨i, hi, rfl⟩ := List.getElem_of_mem hf
      obtain ⟨j, hj, rfl⟩ := List.getElem_of_mem hg
      rcases Nat.lt_trichotomy i j with h | h | h
      · exact List.pairwise_iff_getElem.1 hT.rel i j hi hj h
      · subst h; exact absurd rfl hne
      · rw [Qa]; exact List.pairwise_iff_getElem.1 hT.rel j i hj hi h
    have mixed : ∀ f ∈ Nz B L R, ∀ g ∈ Hm B L R, Dr (K1 B L R) g.Path = false → Kf f.Path g.Path = false := by
      intro f hf g hg hn
      cases hh : Gy R f.Path
      · have : f ∈ K1 B L R := by unfold K1 ownF; rw [List.mem_filter, hh]; exact ⟨hf, rfl⟩
        exact Qu.1 hn f this
      · obtain ⟨f2, m1, m2⟩ := Lj.1 hh
        obtain ⟨g2, m3, m4⟩ := hlate g hg
        rw [← m2, ← m4]
        refine rne hR m1 m3 fun e => ?_
        have := late_no hB.srt hL.srt hR.srt g hg
        rw [Lj.2 ⟨f, hf, by rw [← m2, e, m4]⟩] at this; cases this
    refine ⟨by omega, fin_srt hB.srt hL.srt hR.srt, fun f hf => ?_, ?_, fun f hf => vF_ok hB hL hR f.Path f.Lines (hv f hf)⟩
    · rcases Om.1 hf with h3 | ⟨h3, _⟩
      · obtain ⟨g, m1, m2⟩ := hout f h3
        rw [← m2]; exact hL.path g m1
      · obtain ⟨g, m1, m2⟩ := hlate f h3
        rw [← m2]; exact hR.path g m1
    · refine List.Pairwise.imp_of_mem (R := fun f g => sLt f.Path g.Path = true) (fun {f g} hf hg hlt => ?_) (show (L7 B L R).Pairwise (fun f g => sLt f.Path g.Path = true) from fin_srt hB.srt hL.srt hR.srt)
      have hne := sLt_ne hlt
      rcases Om.1 hf with f1 | ⟨f1, f2⟩
      · rcases Om.1 hg with g1 | ⟨g1, g2⟩
        · obtain ⟨a, a1, a2⟩ := hout f f1
          obtain ⟨b, b1, b2⟩ := hout g g1
          rw [← a2, ← b2]
          exact rne hL a1 b1 (by rw [a2, b2]; exact hne)
        · exact mixed f f1 g g1 g2
      · rcases Om.1 hg with g1 | ⟨g1, g2⟩
        · rw [Qa]; exact mixed g g1 f f1 f2
        · obtain ⟨a, a1, a2⟩ := hlate f f1
          obtain ⟨b, b1, b2⟩ := hlate g g1
          rw [← a2, ← b2]
          exact rne hR a1 b1 (by rw [a2, b2]; exact hne)
  unfold Bb.j1
  simp only
  rw [Qj, Option.bind_some]
  simp only
  rw [decide_eq_true ((H1 _).2 hT), if_pos rfl, N6]; rfl
end Go.Dc
