import Derived.Test.YtmhjcomgbfonfaaGreatDoorDcJD
import Derived.Test.YtmhjcomgbfonfaaGreatDoorDcJX
set_option linter.unusedSimpArgs false
set_option linter.unusedVariables false
set_option maxRecDepth 4000
noncomputable section
namespace Go.Dc
open Go
section
variable (B L R : List File)
def tmK : List ByteArray := ksort (D3 B ++ D3 L ++ D3 R)
def Nz : List File := (tmK B L R).filterMap (outO B L R)
def Hm : List File := (tmK B L R).filterMap (Oi B L R)
def Mg (left right : TreePatch) : List Arr2_Int := (tmK B L R).filterMap (fstO B L R left right)
def K1 : List File := ownF R (Nz B L R)
def L7 : List File := (Hm B L R).foldl (Lk (K1 B L R)) (Nz B L R)
def L9 (left right : TreePatch) : List Arr2_Int := (Hm B L R).filterMap (secO left right (K1 B L R))
end
theorem mgO_late {b r : OT} {v : List ByteArray} (h : (mgO b Option.none r).1 = some v) : r = some v := by
  unfold mgO at h
  split at h
  · cases h
  · split at h
    · exact h
    · cases b <;> cases r <;> cases h
theorem mem_K {B L R : List File} {p : ByteArray} : p ∈ tmK B L R ↔ Gy B p = true ∨ Gy L p = true ∨ Gy R p = true := by
  unfold tmK
  rw [ksort_mem, List.mem_append, List.mem_append, pathsL_mem, pathsL_mem, pathsL_mem]
  exact or_assoc
theorem not_K {B L R : List File} (hB : Gl B) (hL : Gl L) (hR : Gl R) {p : ByteArray} (h : p ∉ tmK B L R) : vF B L R p = (Option.none, true) := by
  rw [mem_K, not_or, not_or] at h
  have e1 := (Qv hB).2 (by simpa using h.1)
  have e2 := (Qv hL).2 (by simpa using h.2.1)
  have e3 := (Qv hR).2 (by simpa using h.2.2)
  unfold vF mgO
  rw [e1, e2, e3]; simp
theorem Mz {B L R : List File} (hB : Gl B) (hL : Gl L) (hR : Gl R) {f : File} : f ∈ Nz B L R ↔ (vF B L R f.Path).1 = some f.Lines ∧ lk L f.Path ≠ Option.none := by
  unfold Nz
  rw [List.mem_filterMap]
  constructor
  · rintro ⟨p, _, h⟩
    have hp := outO_path B L R p f h
    subst hp
    unfold outO at h
    split at h
    · rename_i v w h1 h2
      have e := congrArg File.Lines (Option.some.inj h)
      simp only at e
      exact ⟨by rw [h1, e], by rw [h2]; simp⟩
    · cases h
  · rintro ⟨h1, h2⟩
    refine ⟨f.Path, ?_, ?_⟩
    · by_cases hk : f.Path ∈ tmK B L R
      · exact hk
      · rw [not_K hB hL hR hk] at h1; cases h1
    · unfold outO
      cases h3 : lk L f.Path with
      | none => exact absurd h3 h2
      | some w => rw [h1]
theorem Kz {B L R : List File} (hB : Gl B) (hL : Gl L) (hR : Gl R) {f : File} : f ∈ Hm B L R ↔ (vF B L R f.Path).1 = some f.Lines ∧ lk L f.Path = Option.none := by
  unfold Hm
  rw [List.mem_filterMap]
  constructor
  · rintro ⟨p, _, h⟩
    have hp := Qi B L R p f h
    subst hp
    unfold Oi at h
    split at h
    · rename_i v h1 h2
      have e := congrArg File.Lines (Option.some.inj h)
      simp only at e
      exact ⟨by rw [h1, e], h2⟩
    · cases h
  · rintro ⟨h1, h2⟩
    refine ⟨f.Path, ?_, ?_⟩
    · by_cases hk : f.Path ∈ tmK B L R
      · exact hk
      · rw [not_K hB hL hR hk] at h1; cases h1
    · unfold Oi
      rw [h1, h2]
theorem K_len {B L R : List File} (hB : TrOk B) (hL : TrOk L) (hR : TrOk R) : (tmK B L R).length ≤ 72 := by
  have := ksort_len (D3 B ++ D3 L ++ D3 R)
  unfold tmK
  have h1 := hB.len
  have h2 := hL.len
  have h3 := hR.len
  unfold D3 at *
  rw [List.length_append, List.length_append, List.length_map, List.length_map, List.length_map] at this
  omega
theorem K_size {B L R : List File} (hB : TrOk B) (hL : TrOk L) (hR : TrOk R) : ∀ p ∈ tmK B L R, p.size ≤ 60 := by
  intro p hp
  have h : ∀ l : List File, TrOk l → Gy l p = true → p.size ≤ 60 := by
    intro l hl hh
    obtain ⟨f, hf, rfl⟩ := Lj.1 hh
    exact G3 (hl.path f hf)
  rcases mem_K.1 hp with h1 | h1 | h1
  · exact h B hB h1
  · exact h L hL h1
  · exact h R hR h1
theorem out_srt (B L R : List File) : Gl (Nz B L R) := fm_path (outO_path B L R) (ksort_asc _)
theorem late_srtT (B L R : List File) : Gl (Hm B L R) := fm_path (Qi B L R) (ksort_asc _)
theorem late_no {B L R : List File} (hB : Gl B) (hL : Gl L) (hR : Gl R) : ∀ f ∈ Hm B L R, Gy (Nz B L R) f.Path = false := by
  intro f hf
  cases hh : Gy (Nz B L R) f.Path
  · rfl
  · obtain ⟨g, hg, e⟩ := Lj.1 hh
    have h1 := ((Kz hB hL hR).1 hf).2
    have h2 := ((Mz hB hL hR).1 hg).2
    rw [e] at h2; exact absurd h1 h2
theorem Om {B L R : List File} {f : File} : f ∈ L7 B L R ↔ f ∈ Nz B L R ∨ (f ∈ Hm B L R ∧ Dr (K1 B L R) f.Path = false) := late_mem _ _ _
theorem fin_srt {B L R : List File} (hB : Gl B) (hL : Gl L) (hR : Gl R) : Gl (L7 B L R) := (late_srt (own := K1 B L R) _ _ (out_srt B L R) (late_srtT B L R) (late_no hB hL hR)).1
theorem vF_ok {B L R : List File} (hB : TrOk B) (hL : TrOk L) (hR : TrOk R) (p : ByteArray) : OkO (vF B L R p).1 := (merged_f (lk_ok hB p) (lk_ok hL p) (lk_ok hR p)).2
theorem tmerge {B : List File} {left right : TreePatch} (hB : TrOk B) (h1 : (Di left.Changes B).2.Code = 0) (h2 : (Di right.Changes B).2.Code = 0) :
    Ap ⟨B⟩ left right = some (if (L7 B (Di left.Changes B).1 (Di right.Changes B).1).length > 24 then (⟨[]⟩, [], ⟨10, -1⟩)
      else (⟨L7 B (Di left.Changes B).1 (Di right.Changes B).1⟩, Mg B (Di left.Changes B).1 (Di right.Changes B).1 left right ++ L9 B (Di left.Changes B).1 (Di right.Changes B).1 left right, ⟨0, 0⟩)) := by
  obtain ⟨a1, a2, _, _, hL⟩ := Hb h1
  obtain ⟨b1, b2, _, _, hR⟩ := Hb h2
  have f1 : (Di left.Changes B).2 = ⟨0, 0⟩ := by
    obtain ⟨_, c2, c3, c4, _⟩ := Hb h1
    rw [c4] at h1 ⊢
    exact (run_ok _ _ _ c3 c2 h1).2
  have f2 : (Di right.Changes B).2 = ⟨0, 0⟩ := by
    obtain ⟨_, c2, c3, c4, _⟩ := Hb h2
    rw [c4] at h2 ⊢
    exact (run_ok _ _ _ c3 c2 h2).2
  have eB : Gq B = ⟨0, 0⟩ := by
    rcases Qe B with h | h
    · exact h
    · exact absurd ((H1 B).2 hB) h
  unfold Ap
  rw [Qj, Option.bind_some]
  simp only
  rw [eB]
  simp only [decide_true, Bool.and_self, Bool.not_true, Bool.false_eq_true, if_false]
  rw [Apply_f, Option.bind_some]
  simp only
  rw [f1]
  simp only [decide_true, Bool.and_self, Bool.not_true, Bool.false_eq_true, if_false]
  rw [Apply_f, Option.bind_some]
  simp only
  rw [f2]
  simp only [decide_true, Bool.and_self, Bool.not_true, Bool.false_eq_true, if_false]
  generalize (Di left.Changes B).1 = L at hL ⊢
  generalize (Di right.Changes B).1 = R at hR ⊢
  have lK := K_len hB hL hR
  have sK := K_size hB hL hR
  have lo : (Nz B L R).length ≤ 72 := Nat.le_trans (List.length_filterMap_le _ _) lK
  have ll : (Hm B L R).length ≤ 72 := Nat.le_trans (List.length_filterMap_le _ _) lK
  have lf : (Mg B L R left right).length ≤ 72 := Nat.le_trans (List.length_filterMap_le _ _) lK
  have hsz : ∀ f, (f ∈ Nz B L R ∨ f ∈ Hm B L R) → f.Path.size ≤ 60 ∧ f.Lines.length ≤ 120 := by
    intro f hf
    have hv : (vF B L R f.Path).1 = some f.Lines := by
      rcases hf with hf | hf
      · exact ((Mz hB.srt hL.srt hR.srt).1 hf).1
      · exact ((Kz hB.srt hL.srt hR.srt).1 hf).1
    refine ⟨?_, (vF_ok hB hL hR f.Path f.Lines hv).1⟩
    by_cases hk : f.Path ∈ tmK B L R
    · exact sK _ hk
    · rw [not_K hB.srt hL.srt hR.srt hk] at hv; cases hv
  have lown : (K1 B L R).length ≤ 72 := Nat.le_trans (List.length_filter_le _ _) lo
  have hlf := late_f a2 a1 b2 b1 (own := K1 B L R) (out_srt B L R) (by omega) (late_srtT B L R) (by omega) (late_no hB.srt hL.srt hR.srt) (fun f hf => (hsz f (.inr hf)).1) (fun f hf => by have := (hsz f (.inr hf)).2; omega)
    (fun f hf => (hsz f (.inl (List.mem_filter.1 hf).1)).1) (by omega)
  have ls : (L9 B L R left right).length ≤ 72 := Nat.le_trans (List.length_filterMap_le _ _) ll
  rw [all_f3 hB.len hL.len hR.len, Option.bind_some]
  rw [show ksort (D3 B ++ D3 L ++ D3 R) = tmK B L R from rfl, walk_f hB hL hR a2 a1 b2 b1 (K := tmK B L R) (ksort_asc _) (by omega) sK, Option.bind_some]
  simp only
  rw [show (tmK B L R).filterMap (fstO B L R left right) = Mg B L R left right from rfl, show (tmK B L R).filterMap (Oi B L R) = Hm B L R from rfl, show (tmK B L R).filterMap (outO B L R) = Nz B L R from rfl]
  unfold Ap.j1
  rw [own_f hR (by omega), Option.bind_some]
  unfold Ap.j2
  rw [show ownF R (Nz B L R) = K1 B L R from rfl, hlf, Option.bind_some]
  simp only
  rw [show (Hm B L R).filterMap (secO left right (K1 B L R)) = L9 B L R left right from rfl, show (Hm B L R).foldl (Lk (K1 B L R)) (Nz B L R) = L7 B L R from rfl]
  unfold Ap.j3
  rw [Be]
  by_cases h24 : (L7 B L R).length > 24
  · rw [if_pos (by omega), if_pos h24]
  · rw [if_neg (by omega), if_neg h24, Er (by omega), Option.bind_some]
theorem Ny {B : List File} {left right : TreePatch} (h : ¬ (TrOk B ∧ (Di left.Changes B).2.Code = 0 ∧ (Di right.Changes B).2.Code = 0)) : ∃ t c f, Ap ⟨B⟩ left right = some (t, c, f) ∧ f.Code ≠ 0 := by
  unfold Ap
  rw [Qj, Option.bind_some]
  simp only
  rcases Qe B with eB | eB
  · rw [eB]
    simp only [decide_true, Bool.and_self, Bool.not_true, Bool.false_eq_true, if_false]
    rw [Apply_f, Option.bind_some]
    simp only
    by_cases h1 : (Di left.Changes B).2.Code = 0
    · have f1 : (Di left.Changes B).2 = ⟨0, 0⟩ := by
        obtain ⟨_, c2, c3, c4, _⟩ := Hb h1
        rw [c4] at h1 ⊢
        exact (run_ok _ _ _ c3 c2 h1).2
      rw [f1]
      simp only [decide_true, Bool.and_self, Bool.not_true, Bool.false_eq_true, if_false]
      rw [Apply_f, Option.bind_some]
      simp only
      have h2 : (Di right.Changes B).2.Code ≠ 0 := fun h2 => h ⟨(H1 B).1 (by rw [eB]), h1, h2⟩
      rw [if_pos (by simp [h2])]
      exact ⟨_, _, _, rfl, h2⟩
    · rw [if_pos (by simp [h1])]
      exact ⟨_, _, _, rfl, h1⟩
  · rw [if_pos (by simp [eB])]
    exact ⟨_, _, _, rfl, eB⟩
theorem fst_nil {B L R : List File} (hB : Gl B) (hL : Gl L) (hR : Gl R) {left right : TreePatch} : Mg B L R left right = [] ↔ ∀ p, (vF B L R p).2 = true := by
  unfold Mg
  rw [List.filterMap_eq_nil_iff]
  constructor
  · intro h p
    by_cases hk : p ∈ tmK B L R
    · have := h p hk
      unfold fstO at this
      split at this
      · assumption
      · cases this
    · rw [not_K hB hL hR hk]
  · intro h p _
    unfold fstO
    rw [if_pos (h p)]
theorem sec_nil {B L R : List File} {left right : TreePatch} : L9 B L R left right = [] ↔ ∀ x ∈ Hm B L R, Dr (K1 B L R) x.Path = false := by
  unfold L9
  rw [List.filterMap_eq_nil_iff]
  constructor
  · intro h x hx
    have := h x hx
    unfold secO at this
    cases hr : Dr (K1 B L R) x.Path
    · rfl
    · rw [if_pos hr] at this; cases this
  · intro h x hx
    unfold secO
    rw [h x hx, if_neg Bool.false_ne_true]
theorem tm_right {B L R : List File} (hB : TrOk B) (hL : TrOk L) (hR : TrOk R) (h : ∀ p, vF B L R p = (lk L p, true)) (left right : TreePatch) : L7 B L R = L ∧ Mg B L R left right = [] ∧ L9 B L R left right = [] := by
  have hlate : ∀ f, f ∉ Hm B L R := by
    intro f hf
    obtain ⟨h1, h2⟩ := (Kz hB.srt hL.srt hR.srt).1 hf
    rw [h, h2] at h1; cases h1
  refine ⟨res_eq (fin_srt hB.srt hL.srt hR.srt) hL.srt fun f => ?_, (fst_nil hB.srt hL.srt hR.srt).2 fun p => by rw [h], sec_nil.2 fun x hx => absurd hx (hlate x)⟩
  rw [Om, Mz hB.srt hL.srt hR.srt, h]
  constructor
  · rintro (⟨h1, _⟩ | ⟨h1, _⟩)
    · exact (My hL.srt).1 h1
    · exact absurd h1 (hlate f)
  · intro hf
    have := (My hL.srt (p := f.Path) (L := f.Lines)).2 hf
    exact .inl ⟨this, by rw [this]; simp⟩
theorem tm_left {B L R : List File} (hB : TrOk B) (hL : TrOk L) (hR : TrOk R) (h : ∀ p, vF B L R p = (lk R p, true)) (left right : TreePatch) : L7 B L R = R ∧ Mg B L R left right = [] ∧ L9 B L R left right = [] := by
  have hown : K1 B L R = [] := by
    unfold K1 ownF
    rw [List.filter_eq_nil_iff]
    intro f hf
    have h1 := ((Mz hB.srt hL.srt hR.srt).1 hf).1
    rw [h] at h1
    have : Gy R f.Path = true := by
      cases hh : Gy R f.Path
      · rw [(Qv hR.srt).2 hh] at h1; cases h1
      · rfl
    rw [this]; simp
  have hrel : ∀ p, Dr (K1 B L R) p = false := fun p => by rw [hown]; rfl
  refine ⟨res_eq (fin_srt hB.srt hL.srt hR.srt) hR.srt fun f => ?_, (fst_nil hB.srt hL.srt hR.srt).2 fun p => by rw [h], sec_nil.2 fun x hx => hrel _⟩
  rw [Om, Mz hB.srt hL.srt hR.srt, Kz hB.srt hL.srt hR.srt, h, hrel]
  constructor
  · rintro (⟨h1, _⟩ | ⟨⟨h1, _⟩, _⟩)
    · exact (My hR.srt).1 h1
    · exact (My hR.srt).1 h1
  · intro hf
    have := (My hR.srt (p := f.Path) (L := f.Lines)).2 hf
    by_cases hn : lk L f.Path = Option.none
    · exact .inr ⟨⟨this, hn⟩, rfl⟩
    · exact .inl ⟨this, hn⟩
theorem apply_nil {B : List File} (hB : TrOk B) : Di [] B = (B, ⟨0, 0⟩) := by
  rw [applyT_of (by simp) (by simp) hB]; rfl
theorem tm_one (base : FileTree) (p : TreePatch) : Dp base p = some true := by
  obtain ⟨B⟩ := base
  unfold Dp
  rw [Apply_f, Option.bind_some, N6]
  simp only
  by_cases h1 : (Di p.Changes B).2.Code = 0
  · obtain ⟨_, _, hB, _, hL⟩ := Hb h1
    have hn := apply_nil hB
    have e0 : (Di (⟨[]⟩ : TreePatch).Changes B).2.Code = 0 := by rw [show (⟨[]⟩ : TreePatch).Changes = [] from rfl, hn]
    have hl24 := hL.len
    have m1 := tmerge hB h1 e0
    have m2 := tmerge hB e0 h1
    have m3 := tmerge hB h1 h1
    rw [show (⟨[]⟩ : TreePatch).Changes = [] from rfl, hn] at m1 m2
    simp only at m1 m2
    generalize (Di p.Changes B).1 = L at hL hl24 m1 m2 m3 ⊢
    obtain ⟨a1, a2, a3⟩ := tm_right hB hL hB (fun q => by unfold vF mgO; rw [if_pos (.inl rfl)]) p ⟨[]⟩
    obtain ⟨b1, b2, b3⟩ := tm_left hB hB hL (fun q => by
      unfold vF mgO
      by_cases h : lk L q = lk B q
      · rw [if_pos (.inl h), h]
      · rw [if_neg (by simp [h]), if_pos rfl]) ⟨[]⟩ p
    obtain ⟨c1, c2, c3⟩ := tm_right hB hL hL (fun q => by unfold vF mgO; rw [if_pos (.inr rfl)]) p p
    rw [a1, a2, a3, if_neg (by omega)] at m1
    rw [b1, b2, b3, if_neg (by omega)] at m2
    rw [c1, c2, c3, if_neg (by omega)] at m3
    rw [m1, Option.bind_some, m2, Option.bind_some, m3, Option.bind_some, decide_eq_true h1]
    simp only [tree_ok hL, decide_true, if_true, Option.bind_some, Bool.not_true, Bool.false_eq_true, if_false, List.append_nil, List.length_nil]
    rw [Ce (by simp) (by simp), Option.bind_some, Ce (by simp) (by simp), Option.bind_some]
    simp
  · obtain ⟨t1, c1, f1, m1, k1⟩ := Ny (B := B) (left := p) (right := ⟨[]⟩) (fun h => h1 h.2.1)
    obtain ⟨t2, c2, f2, m2, k2⟩ := Ny (B := B) (left := ⟨[]⟩) (right := p) (fun h => h1 h.2.2)
    obtain ⟨t3, c3, f3, m3, k3⟩ := Ny (B := B) (left := p) (right := p) (fun h => h1 h.2.1)
    rw [m1, Option.bind_some, m2, Option.bind_some, m3, Option.bind_some, decide_eq_false h1]
    simp [k1, k2, k3]
theorem own_mem {B L R : List File} (hB : Gl B) (hL : Gl L) (hR : Gl R) {f : File} : f ∈ K1 B L R ↔ (vF B L R f.Path).1 = some f.Lines ∧ lk L f.Path ≠ Option.none ∧ lk R f.Path = Option.none := by
  unfold K1 ownF
  rw [List.mem_filter, Mz hB hL hR, Qv hR]
  simp [and_assoc]
theorem vF_swap {B L R : List File} (hB : TrOk B) (hL : TrOk L) (hR : TrOk R) (p : ByteArray) : (vF B L R p).2 = (vF B R L p).2 ∧ ((vF B L R p).2 = true → (vF B L R p).1 = (vF B R L p).1) := mgO_swap (lk_ok hB p) (lk_ok hL p) (lk_ok hR p)
theorem sec_swap {B L R : List File} (hB : TrOk B) (hL : TrOk L) (hR : TrOk R) (hc : ∀ p, (vF B L R p).2 = true) (h : ∀ x ∈ Hm B L R, Dr (K1 B L R) x.Path = false) : ∀ x ∈ Hm B R L, Dr (K1 B R L) x.Path = false := by
  intro x hx
  rw [Qu]
  intro y hy
  obtain ⟨x1, x2⟩ := (Kz hB.srt hR.srt hL.srt).1 hx
  obtain ⟨y1, y2, y3⟩ := (own_mem hB.srt hR.srt hL.srt).1 hy
  have sx := (vF_swap hB hL hR x.Path).2 (hc _)
  have sy := (vF_swap hB hL hR y.Path).2 (hc _)
  have hyl : y ∈ Hm B L R := (Kz hB.srt hL.srt hR.srt).2 ⟨sy.trans y1, y3⟩
  have hxL : lk L x.Path = some x.Lines := by
    have h1 : (vF B R L x.Path).1 = some x.Lines := x1
    unfold vF at h1
    rw [x2] at h1
    exact mgO_late h1
  have hxo : x ∈ K1 B L R := (own_mem hB.srt hL.srt hR.srt).2 ⟨sx.trans x1, by rw [hxL]; simp, x2⟩
  have := Qu.1 (h y hyl) x hxo
  rw [Qa]; exact this
theorem fin_clean {B L R : List File} (hB : TrOk B) (hL : TrOk L) (hR : TrOk R) (h : ∀ x ∈ Hm B L R, Dr (K1 B L R) x.Path = false) {f : File} : f ∈ L7 B L R ↔ (vF B L R f.Path).1 = some f.Lines := by
  rw [Om]
  constructor
  · rintro (h1 | ⟨h1, _⟩)
    · exact ((Mz hB.srt hL.srt hR.srt).1 h1).1
    · exact ((Kz hB.srt hL.srt hR.srt).1 h1).1
  · intro h1
    by_cases hn : lk L f.Path = Option.none
    · have hl := (Kz hB.srt hL.srt hR.srt).2 ⟨h1, hn⟩
      exact .inr ⟨hl, h f hl⟩
    · exact .inl ((Mz hB.srt hL.srt hR.srt).2 ⟨h1, hn⟩)
theorem tm_sym (base : FileTree) (left right : TreePatch) : Dk base left right = some true := by
  obtain ⟨B⟩ := base
  unfold Dk
  rw [N6]
  by_cases hok : TrOk B ∧ (Di left.Changes B).2.Code = 0 ∧ (Di right.Changes B).2.Code = 0
  case neg =>
    obtain ⟨t1, c1, f1, m1, k1⟩ := Ny hok
    have hok2 : ¬ (TrOk B ∧ (Di right.Changes B).2.Code = 0 ∧ (Di left.Changes B).2.Code = 0) := fun h => hok ⟨h.1, h.2.2, h.2.1⟩
    obtain ⟨t2, c2, f2, m2, k2⟩ := Ny hok2
    rw [m1, Option.bind_some, m2, Option.bind_some]
    simp [k1]
  obtain ⟨hB, h1, h2⟩ := hok
  obtain ⟨_, _, _, _, hL⟩ := Hb h1
  obtain ⟨_, _, _, _, hR⟩ := Hb h2
  rw [tmerge hB h1 h2, Option.bind_some, tmerge hB h2 h1, Option.bind_some]
  generalize (Di left.Changes B).1 = L at hL ⊢
  generalize (Di right.Changes B).1 = R at hR ⊢
  by_cases n1 : (L7 B L R).length > 24
  · rw [if_pos n1]; simp
  by_cases n2 : (L7 B R L).length > 24
  · rw [if_pos n2]; simp
  rw [if_neg n1, if_neg n2]
  simp only [decide_true, Bool.not_true, Bool.false_eq_true, if_false, Option.bind_some]
  have hiff : (Mg B L R left right ++ L9 B L R left right = []) ↔ (Mg B R L right left ++ L9 B R L right left = []) := by
    rw [List.append_eq_nil_iff, List.append_eq_nil_iff, fst_nil hB.srt hL.srt hR.srt, fst_nil hB.srt hR.srt hL.srt, sec_nil, sec_nil]
    constructor
    · rintro ⟨a1, a2⟩
      exact ⟨fun p => by rw [← (vF_swap hB hL hR p).1]; exact a1 p, sec_swap hB hL hR a1 a2⟩
    · rintro ⟨a1, a2⟩
      exact ⟨fun p => by rw [← (vF_swap hB hR hL p).1]; exact a1 p, sec_swap hB hR hL a1 a2⟩
  have e0 : ∀ l : List Arr2_Int, decide ((l.length : Int) = 0) = decide (l = []) := fun l => len0 l
  rw [e0, e0]
  by_cases he : Mg B L R left right ++ L9 B L R left right = []
  · have he2 := hiff.1 he
    rw [decide_eq_true he, decide_eq_true he2, decide_eq_true rfl, if_pos rfl, he]
    rw [List.append_eq_nil_iff, fst_nil hB.srt hL.srt hR.srt, sec_nil] at he
    rw [List.append_eq_nil_iff, fst_nil hB.srt hR.srt hL.srt, sec_nil] at he2
    have ef : L7 B L R = L7 B R L := res_eq (fin_srt hB.srt hL.srt hR.srt) (fin_srt hB.srt hR.srt hL.srt) fun f => by
      rw [fin_clean hB hL hR he.2, fin_clean hB hR hL he2.2, (vF_swap hB hL hR f.Path).2 (he.1 _)]
    rw [ef, tree_refl (fun f hf => by
      have := (fin_clean hB hR hL he2.2).1 hf
      have := (vF_ok hB hR hL f.Path f.Lines this).1
      omega) (by omega)]
    simp
  · have he2 : ¬ Mg B R L right left ++ L9 B R L right left = [] := fun h => he (hiff.2 h)
    rw [decide_eq_false he, decide_eq_false he2, decide_eq_true rfl, if_pos rfl]
    have : ((Mg B L R left right ++ L9 B L R left right).length : Int) > 0 := by
      cases hl : Mg B L R left right ++ L9 B L R left right with
      | nil => exact absurd hl he
      | cons _ _ => simp
    rw [decide_eq_true this]
    simp
end Go.Dc
