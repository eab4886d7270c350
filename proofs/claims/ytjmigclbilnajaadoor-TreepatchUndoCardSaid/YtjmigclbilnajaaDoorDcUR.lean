/- Patches and their inverses: the law TreepatchUndo. -/
import Derived.Test.YtjmigclbilnajaaDoorDcUQ
set_option linter.unusedSimpArgs false
set_option linter.unusedVariables false
namespace Go.Dc
open Go

def invS : Int → List Hunk → List Hunk
  | _, [] => []
  | d, h :: r => ⟨h.At + d, h.New, h.Old⟩ :: invS (d + gr h) r

def invP (p : Patch) : Patch × Fault :=
  if (patchFault p).Code ≠ 0 then (⟨[]⟩, patchFault p) else if (patchFault ⟨invS 0 p.Hunks⟩).Code ≠ 0 then (⟨[]⟩, ⟨10, -1⟩) else (⟨invS 0 p.Hunks⟩, ⟨0, 0⟩)

theorem made0_f (p : Patch) : textpatch_Made p = some (if (patchFault p).Code ≠ 0 then (⟨[]⟩, ⟨10, -1⟩) else (p, ⟨0, 0⟩)) := by
  unfold textpatch_Made
  rw [pvalidate_f, Option.bind_some]
  rcases patchFault_ok p with h | h
  · rw [h, if_neg (by decide), if_neg (by simp)]
  · rw [if_pos (by simp [h]), if_pos h]

theorem gr_bd {h : Hunk} (hs : SmH 120 h) : -120 ≤ gr h ∧ gr h ≤ 120 := by
  obtain ⟨_, _, h1, h2⟩ := hs
  unfold gr; omega

theorem inv_iter (y : Patch) (hs : Sm 120 y.Hunks) : ∀ (rest A : List Hunk) (k : Nat) (d : Int), y.Hunks.drop k = rest → A.length = k → k ≤ y.Hunks.length → -(120 * (k : Int)) ≤ d → d ≤ 120 * k →
    iter (fun s => textpatch_Invert.l1 y s.1 s.2.1 s.2.2) ((k : Int), d, A ++ rest) = some (A ++ invS d rest) := by
  intro rest
  induction rest with
  | nil =>
    intro A k d hk hA hkl _ _
    have := drop_end hk
    refine iter_done ?_
    show textpatch_Invert.l1 y _ _ _ = _
    unfold textpatch_Invert.l1
    rw [decide_eq_false (by omega), if_neg Bool.false_ne_true]; rfl
  | cons h r ih =>
    intro A k d hk hA hkl h1 h2
    obtain ⟨hlt, hx, hr⟩ := drop_at hk
    have hS : SmH 120 h := hs.2 h (hx ▸ List.getElem_mem hlt)
    have hn := hs.1
    obtain ⟨b1, b2, b3, b4⟩ := hS
    have hg := gr_bd ⟨b1, b2, b3, b4⟩
    have hat : at? (A ++ h :: r) (k : Int) = some h := by
      rw [at_nat (by simp; omega)]
      congr 1
      rw [List.getElem_append_right (by omega)]
      simp [hA]
    have hset : ∀ u v : Hunk, (A ++ u :: r).set k v = A ++ v :: r := by
      intro u v
      rw [List.set_append_right _ _ (by omega), hA, Nat.sub_self]; rfl
    have hs1 : textpatch_Invert.l1 y (k : Int) d (A ++ h :: r) = some (Step.next (((k + 1 : Nat) : Int), d + gr h, A ++ ⟨h.At + d, h.New, h.Old⟩ :: r)) := by
      unfold textpatch_Invert.l1
      rw [decide_eq_true (by omega), if_pos rfl, hat, Option.bind_some, growth_f h b3 b4, Option.bind_some, ck_eq (by omega) (by omega), Option.bind_some, Option.bind_some, Option.bind_some, Option.bind_some,
        ck_eq (by omega) (by omega), Option.bind_some, ck_eq (by omega) (by omega), Option.bind_some]
      simp only [Int.toNat_natCast, hset]
      rfl
    rw [iter_next (s' := (((k + 1 : Nat) : Int), d + gr h, A ++ ⟨h.At + d, h.New, h.Old⟩ :: r)) hs1]
    have := ih (A ++ [⟨h.At + d, h.New, h.Old⟩]) (k + 1) (d + gr h) hr (by simp [hA]) (by omega) (by omega) (by omega)
    rw [List.append_assoc, List.append_assoc] at this
    exact this

theorem invert_f (p : Patch) : textpatch_Invert p = some (invP p) := by
  unfold textpatch_Invert invP
  rw [pvalidate_f, Option.bind_some]
  rcases patchFault_ok p with h | h
  · have h0 : (patchFault p).Code = 0 := by rw [h]
    rw [if_neg (by rw [h]; decide), if_neg (fun hn => hn h0), copy_f p (sm_of h0), Option.bind_some]
    have := inv_iter p (sm_of h0) p.Hunks [] 0 0 rfl rfl (Nat.zero_le _) (by omega) (by omega)
    rw [List.nil_append, List.nil_append, show ((0 : Nat) : Int) = 0 from rfl] at this
    rw [this, Option.bind_some]
    unfold textpatch_Invert.j1
    rw [made0_f, Option.bind_some]
  · rw [if_pos (by simp [h]), if_pos h]

theorem raw_inv (t : List ByteArray) : ∀ (hs : List Hunk) (pre : List ByteArray) (low : Nat) (d e : Int), Good e hs → Fits t hs → (low : Int) ≤ e + 1 → (low ≤ t.length) → (pre.length : Int) = low + d →
    rawS (invS d hs) (pre ++ rawS hs t low) pre.length = t.drop low ∧ Fits (pre ++ rawS hs t low) (invS d hs) := by
  intro hs
  induction hs with
  | nil =>
    intro pre low d e _ _ _ _ _
    refine ⟨?_, fun h hh => by cases hh⟩
    simp [rawS, invS]
  | cons h r ih =>
    intro pre low d e hg hf hle hlt hpre
    obtain ⟨hc, hg'⟩ := hg
    obtain ⟨z1, z2, z3, z4, z5, z6⟩ := hcode_zero hc
    obtain ⟨a, ha⟩ : ∃ a : Nat, h.At = a := ⟨h.At.toNat, by omega⟩
    have ho := hf h List.mem_cons_self
    rw [ha, Int.toNat_natCast] at ho
    have hol := occ_len ho
    obtain ⟨ho1, ho2⟩ := ho
    have hla : low ≤ a := by omega
    have hml : ((t.drop low).take (a - low)).length = a - low := by simp; omega
    generalize hmid : (t.drop low).take (a - low) = mid at hml
    have hT : rawS (h :: r) t low = mid ++ (h.New ++ rawS r t (a + h.Old.length)) := by
      rw [rawS, ha, Int.toNat_natCast, hmid]
    have e2 : pre ++ rawS (h :: r) t low = (pre ++ mid ++ h.New) ++ rawS r t (a + h.Old.length) := by
      rw [hT]; simp
    have hd2 : ((pre ++ mid ++ h.New).length : Int) = ((a + h.Old.length : Nat) : Int) + (d + gr h) := by
      simp only [List.length_append, hml]
      unfold gr; omega
    have ih2 := ih (pre ++ mid ++ h.New) (a + h.Old.length) (d + gr h) (h.At + h.Old.length) hg' (fun x hx => hf x (List.mem_cons_of_mem _ hx)) (by omega) (by omega) hd2
    rw [← e2] at ih2
    have hat : (h.At + d).toNat = pre.length + mid.length := by omega
    have hTd : (pre ++ rawS (h :: r) t low).drop (pre.length + mid.length) = h.New ++ rawS r t (a + h.Old.length) := by
      rw [e2, List.append_assoc, ← List.length_append, List.drop_left']
      rfl
    constructor
    · rw [invS, rawS]
      simp only
      rw [hat, Nat.add_sub_cancel_left, show pre.length + mid.length + h.New.length = (pre ++ mid ++ h.New).length by simp only [List.length_append], ih2.1]
      have e3 : ((pre ++ rawS (h :: r) t low).drop pre.length).take mid.length = mid := by
        rw [List.drop_left', hT, List.take_left']
        · rfl
        · rfl
      rw [e3]
      have e4 : t.drop a = h.Old ++ t.drop (a + h.Old.length) := by
        rw [← List.drop_drop, ← ho2]
        conv => lhs; rw [← List.take_append_drop h.Old.length (t.drop a)]
        rw [ho2]
      rw [← e4, ← hmid, show t.drop a = (t.drop low).drop (a - low) by rw [List.drop_drop]; congr 1; omega, List.take_append_drop]
    · intro x hx
      rw [invS] at hx
      rcases List.mem_cons.1 hx with rfl | hx
      · refine ⟨?_, ?_⟩
        · simp only
          rw [hat, e2]; simp
        · simp only
          rw [hat, hTd, List.take_left']
          rfl
      · exact ih2.2 x hx

theorem applyF_inv {p : Patch} {t : List ByteArray} (h : (applyF p t).2.Code = 0) (hi : (patchFault ⟨invS 0 p.Hunks⟩).Code = 0) : applyF ⟨invS 0 p.Hunks⟩ (applyF p t).1 = (t, ⟨0, 0⟩) := by
  obtain ⟨h1, h2, h3, h4, h5, h6⟩ := applyF_ok h
  have ho := applyF_text h
  rw [h6] at ho ⊢
  simp only at ho ⊢
  obtain ⟨r1, r2⟩ := raw_inv t p.Hunks [] 0 0 (-1) h2 h4 (by omega) (Nat.zero_le _) (by simp)
  rw [List.nil_append, List.drop_zero] at r1
  rw [List.nil_append] at r2
  have r1' : rawS (invS 0 p.Hunks) (rawS p.Hunks t 0) 0 = t := r1
  rw [applyF_of hi ho.2 ho.1 r2]
  simp only
  rw [r1', if_neg (by have := h3.1; omega)]

/-! ## changes -/
def invC (c : TreeChange) : TreeChange :=
  if c.Kind = 1 then ⟨2, c.Path, c.To, c.Lines, c.Patch⟩ else if c.Kind = 2 then ⟨1, c.Path, c.To, c.Lines, c.Patch⟩ else if c.Kind = 3 then ⟨3, c.To, c.Path, c.Lines, c.Patch⟩
  else ⟨c.Kind, c.Path, c.To, c.Lines, (invP c.Patch).1⟩
def invOk (c : TreeChange) : Prop := c.Kind = 4 → (invP c.Patch).2.Code = 0

theorem invP_ok {p : Patch} (h : (invP p).2.Code = 0) : (patchFault p).Code = 0 ∧ (patchFault ⟨invS 0 p.Hunks⟩).Code = 0 ∧ invP p = (⟨invS 0 p.Hunks⟩, ⟨0, 0⟩) := by
  unfold invP at h ⊢
  by_cases h1 : (patchFault p).Code ≠ 0
  · rw [if_pos h1] at h; exact absurd h h1
  rw [if_neg h1] at h ⊢
  by_cases h2 : (patchFault ⟨invS 0 p.Hunks⟩).Code ≠ 0
  · rw [if_pos h2] at h; simp at h
  rw [if_neg h2]
  exact ⟨by simpa using h1, by simpa using h2, rfl⟩

theorem invS_nil {d : Int} {hs : List Hunk} (h : hs ≠ []) : invS d hs ≠ [] := by
  cases hs with
  | nil => exact absurd rfl h
  | cons x r => simp [invS]

theorem invC_ok {c : TreeChange} (hc : OkCh c) (hi : invOk c) : OkCh (invC c) := by
  unfold invC
  have hk := hc.kind
  by_cases k1 : c.Kind = 1
  · rw [if_pos k1]
    exact ⟨by simp, hc.path, by simp, fun _ => hc.noTo (by omega), by simp, by simp, fun _ => hc.noHunks (by omega), hc.lines, hc.patch⟩
  rw [if_neg k1]
  by_cases k2 : c.Kind = 2
  · rw [if_pos k2]
    exact ⟨by simp, hc.path, by simp, fun _ => hc.noTo (by omega), by simp, by simp, fun _ => hc.noHunks (by omega), hc.lines, hc.patch⟩
  rw [if_neg k2]
  by_cases k3 : c.Kind = 3
  · rw [if_pos k3]
    refine ⟨by simp, (hc.to k3).1, fun _ => ⟨hc.path, ?_⟩, by simp, fun _ => hc.noLines (.inr k3), by simp, fun _ => hc.noHunks (by omega), hc.lines, hc.patch⟩
    rw [relB_comm]; exact (hc.to k3).2
  rw [if_neg k3]
  have k4 : c.Kind = 4 := by omega
  obtain ⟨i1, i2, i3⟩ := invP_ok (hi k4)
  rw [i3]
  refine ⟨by simp; omega, hc.path, fun h => absurd h k3, fun _ => hc.noTo k3, fun _ => hc.noLines (.inl k4), fun _ => invS_nil (hc.hunks k4), fun h => absurd k4 h, hc.lines, i2⟩

theorem ins_at {l : List File} {x : File} : (insF l x)[posF l x.Path]? = some x := by
  have := pos_le l x.Path
  unfold insF
  rw [List.getElem?_append_left (by simp; omega), List.getElem?_append_right (by simp; omega)]
  simp [Nat.min_eq_left this]

theorem ins_erase_self {l : List File} {x : File} : (insF l x).eraseIdx (posF l x.Path) = l := by
  have := pos_le l x.Path
  unfold insF
  have hl : (l.take (posF l x.Path)).length = posF l x.Path := by simp; omega
  rw [List.append_assoc, List.eraseIdx_append_of_length_le (by omega), hl, Nat.sub_self]
  simp

theorem ins_pos {l : List File} (h : TSrt l) {x : File} (hn : hasF l x.Path = false) : posF (insF l x) x.Path = posF l x.Path ∧ hasF (insF l x) x.Path = true := by
  have hp := pos_le l x.Path
  have hlt : posF l x.Path < (insF l x).length := by rw [ins_len]; omega
  have e := ins_at (l := l) (x := x)
  rw [List.getElem?_eq_getElem hlt] at e
  have e := Option.some.inj e
  have := pos_of (ins_srt h hn) hlt
  rw [e] at this
  exact this

theorem file_eta (f : File) (P : ByteArray) (h : f.Path = P) : (⟨P, f.Lines⟩ : File) = f := by subst h; rfl

theorem make_inv {l : List File} (h : TrOk l) {c : TreeChange} (hc : OkCh c) (hi : invOk c) (h0 : (makeF c l).1 = 0) : makeF (invC c) (makeF c l).2 = (0, l) := by
  have hk := hc.kind
  unfold makeF at h0
  unfold invC
  by_cases k1 : c.Kind = 1
  · rw [if_pos k1] at h0
    rw [if_pos k1]
    cases hr : relAny l c.Path
    · rw [hr, if_neg Bool.false_ne_true] at h0
      by_cases h24 : 24 ≤ l.length
      · rw [if_pos h24] at h0; simp at h0
      · have hm : makeF c l = (0, insF l ⟨c.Path, c.Lines⟩) := by
          unfold makeF; rw [if_pos k1, hr, if_neg Bool.false_ne_true, if_neg h24]
        rw [hm]
        obtain ⟨p1, p2⟩ := ins_pos h.srt (x := ⟨c.Path, c.Lines⟩) (rel_has hr)
        simp only at p1 p2
        unfold makeF
        simp only
        rw [if_neg (by decide), p2, if_pos rfl, p1]
        have ea := ins_at (l := l) (x := ⟨c.Path, c.Lines⟩)
        simp only at ea
        rw [ea]
        have ee := ins_erase_self (l := l) (x := ⟨c.Path, c.Lines⟩)
        simp only at ee ⊢
        rw [ee]; simp
    · rw [hr, if_pos rfl] at h0; simp at h0
  rw [if_neg k1] at h0
  rw [if_neg k1]
  cases hh : hasF l c.Path with
  | false => rw [hh] at h0; simp at h0
  | true =>
    obtain ⟨hp, he⟩ := has_pos h.srt hh
    have hfm := List.getElem_mem hp
    have hle : (l.eraseIdx (posF l c.Path)).length = l.length - 1 := by rw [List.length_eraseIdx, if_pos hp]
    have hl := h.len
    have her := erase_rel h hp
    rw [he] at her
    have hes : TSrt (l.eraseIdx (posF l c.Path)) := h.srt.sublist (List.eraseIdx_sublist _ _)
    have hback : ∀ L, L = l[posF l c.Path].Lines → insF (l.eraseIdx (posF l c.Path)) ⟨c.Path, L⟩ = l := by
      rintro L rfl
      rw [ins_erase h.srt hp (x := ⟨c.Path, l[posF l c.Path].Lines⟩) he.symm]
      rw [file_eta _ _ he, List.set_getElem_self]
    rw [hh, if_pos rfl, List.getElem?_eq_getElem hp] at h0
    simp only at h0
    by_cases k2 : c.Kind = 2
    · rw [if_pos k2] at h0
      rw [if_pos k2]
      by_cases ht : l[posF l c.Path].Lines ≠ c.Lines
      · rw [if_pos ht] at h0; simp at h0
      · have ht : l[posF l c.Path].Lines = c.Lines := by simpa using ht
        have hm : makeF c l = (0, l.eraseIdx (posF l c.Path)) := by
          unfold makeF; rw [if_neg k1, hh, if_pos rfl, List.getElem?_eq_getElem hp]; simp only; rw [if_pos k2, if_neg (fun hn => hn ht)]
        rw [hm]
        unfold makeF
        simp only
        rw [if_pos (by trivial), her, if_neg Bool.false_ne_true, if_neg (by omega), hback _ ht.symm]
    rw [if_neg k2] at h0
    rw [if_neg k2]
    by_cases k3 : c.Kind = 3
    · rw [if_pos k3] at h0
      rw [if_pos k3]
      cases hr : relAny (l.eraseIdx (posF l c.Path)) c.To
      · have hm : makeF c l = (0, insF (l.eraseIdx (posF l c.Path)) ⟨c.To, l[posF l c.Path].Lines⟩) := by
          unfold makeF; rw [if_neg k1, hh, if_pos rfl, List.getElem?_eq_getElem hp]; simp only; rw [if_neg k2, if_pos k3, hr, if_neg Bool.false_ne_true]
        rw [hm]
        obtain ⟨p1, p2⟩ := ins_pos hes (x := ⟨c.To, l[posF l c.Path].Lines⟩) (rel_has hr)
        have ea := ins_at (l := l.eraseIdx (posF l c.Path)) (x := ⟨c.To, l[posF l c.Path].Lines⟩)
        have ee := ins_erase_self (l := l.eraseIdx (posF l c.Path)) (x := ⟨c.To, l[posF l c.Path].Lines⟩)
        simp only at p1 p2 ea ee
        unfold makeF
        simp only
        rw [if_neg (by decide), p2, if_pos rfl, p1, ea]
        simp only
        rw [ee, if_neg (by decide), if_pos (by trivial), her, if_neg Bool.false_ne_true, hback _ rfl]
      · rw [hr, if_pos rfl] at h0; simp at h0
    · have k4 : c.Kind = 4 := by omega
      rw [if_neg k3] at h0
      rw [if_neg k3]
      by_cases hA : (applyF c.Patch l[posF l c.Path].Lines).2.Code = 0
      · have hm : makeF c l = (0, l.set (posF l c.Path) ⟨c.Path, (applyF c.Patch l[posF l c.Path].Lines).1⟩) := by
          unfold makeF; rw [if_neg k1, hh, if_pos rfl, List.getElem?_eq_getElem hp]; simp only; rw [if_neg k2, if_neg k3, if_neg (fun hn => hn hA), he]
        obtain ⟨i1, i2, i3⟩ := invP_ok (hi k4)
        rw [hm, i3]
        simp only
        have e1 := ins_erase h.srt hp (x := ⟨c.Path, (applyF c.Patch l[posF l c.Path].Lines).1⟩) he.symm
        have pe := pos_erase h.srt hp
        rw [he] at pe
        obtain ⟨p1, p2⟩ := ins_pos hes (x := ⟨c.Path, (applyF c.Patch l[posF l c.Path].Lines).1⟩) (rel_has her)
        have ea := ins_at (l := l.eraseIdx (posF l c.Path)) (x := ⟨c.Path, (applyF c.Patch l[posF l c.Path].Lines).1⟩)
        rw [e1] at p1 p2 ea
        simp only [pe] at p1 p2 ea
        unfold makeF
        simp only
        rw [if_neg k1, p2, if_pos rfl, p1, ea]
        simp only
        rw [if_neg k2, if_neg k3, applyF_inv hA i2, if_neg (by simp)]
        simp only
        rw [List.set_set, file_eta _ _ he, List.set_getElem_self]
      · rw [if_pos hA] at h0; exact absurd h0 hA

theorem run_inv : ∀ (r : List TreeChange) (k j : Nat) (l : List File), TrOk l → (∀ c ∈ r, OkCh c) → (∀ c ∈ r, invOk c) → (runF k r l).2.Code = 0 → runF j (r.map invC).reverse (runF k r l).1 = (l, ⟨0, 0⟩)
  | [], k, j, l, _, _, _, _ => rfl
  | c :: r, k, j, l, h, hc, hi, h0 => by
    rw [runF] at h0 ⊢
    by_cases hm : (makeF c l).1 ≠ 0
    · rw [if_pos hm] at h0; exact absurd h0 hm
    · rw [if_neg hm] at h0 ⊢
      have hm : (makeF c l).1 = 0 := by simpa using hm
      have hcc := hc c List.mem_cons_self
      have h1 := makeF_ok h hcc hm
      have ih := run_inv r (k + 1) j (makeF c l).2 h1 (fun d hd => hc d (List.mem_cons_of_mem _ hd)) (fun d hd => hi d (List.mem_cons_of_mem _ hd)) h0
      rw [List.map_cons, List.reverse_cons, run_app _ _ _ _ (by rw [ih]), ih]
      simp only
      rw [runF, make_inv h hcc (hi c List.mem_cons_self) hm, if_neg (by simp)]; rfl

theorem tinv_iter {p : List TreeChange} (hp : ∀ c ∈ p, OkCh c) (hl : p.length ≤ 30) : ∀ (k : Nat) (out : List TreeChange), k ≤ p.length → out.length + k ≤ 30 →
    (∃ f, iter (fun s => treepatch_Invert.l1 ⟨p⟩ s.1 s.2) ((k : Int) - 1, out) = some (.inl (⟨[]⟩, f)) ∧ f.Code ≠ 0) ∨
    (iter (fun s => treepatch_Invert.l1 ⟨p⟩ s.1 s.2) ((k : Int) - 1, out) = some (.inr (out ++ ((p.take k).map invC).reverse)) ∧ ∀ c ∈ p.take k, invOk c) := by
  intro k
  induction k with
  | zero =>
    intro out _ _
    right
    refine ⟨?_, by simp⟩
    rw [iter_done (r := .inr out)]
    · simp
    · show treepatch_Invert.l1 ⟨p⟩ _ _ = _
      unfold treepatch_Invert.l1
      rw [decide_eq_false (by omega), if_neg Bool.false_ne_true]
  | succ k ih =>
    intro out hk hol
    have hkl : k < p.length := by omega
    have hc := hp _ (List.getElem_mem hkl)
    have hkd := hc.kind
    have hcl : p[k].Lines.length ≤ 120 := textFault_len hc.lines
    have hcc := copyChange_f (c := p[k]) (B := 120) (by omega) (sm_of hc.patch)
    have hj : ∀ (a : Int) (b d : ByteArray) (e : List Hunk), treepatch_Invert.j2 (k : Int) out p[k] a b d e = some (Step.next ((k : Int) - 1, out ++ [⟨a, b, d, p[k].Lines, ⟨e⟩⟩])) := by
      intro a b d e
      unfold treepatch_Invert.j2
      rw [app_eq (by simp; omega), Option.bind_some, ck_eq (by omega) (by omega), Option.bind_some]
    have hs : treepatch_Invert.l1 ⟨p⟩ (((k + 1 : Nat) : Int) - 1) out = if p[k].Kind = 4 ∧ (invP p[k].Patch).2.Code ≠ 0 then some (Step.done (Sum.inl (⟨[]⟩, ⟨(invP p[k].Patch).2.Code, k⟩))) else some (Step.next ((k : Int) - 1, out ++ [invC p[k]])) := by
      rw [show (((k + 1 : Nat) : Int) - 1) = (k : Int) by omega]
      unfold treepatch_Invert.l1
      simp only
      rw [decide_eq_true (by omega), if_pos rfl, at_nat hkl, Option.bind_some, hcc, Option.bind_some]
      unfold invC
      by_cases k1 : p[k].Kind = 1
      · rw [decide_eq_true k1, if_pos rfl, if_neg (by omega), if_pos k1, hj]
      rw [decide_eq_false k1, if_neg Bool.false_ne_true, if_neg k1]
      by_cases k2 : p[k].Kind = 2
      · rw [decide_eq_true k2, if_pos rfl, if_neg (by omega), if_pos k2, hj]
      rw [decide_eq_false k2, if_neg Bool.false_ne_true, if_neg k2]
      by_cases k3 : p[k].Kind = 3
      · rw [decide_eq_true k3, if_pos rfl, if_neg (by omega), if_pos k3, hj, k3]
      rw [decide_eq_false k3, if_neg Bool.false_ne_true, if_neg k3, invert_f, Option.bind_some]
      have k4 : p[k].Kind = 4 := by omega
      by_cases hf : (invP p[k].Patch).2.Code = 0
      · obtain ⟨_, _, e⟩ := invP_ok hf
        rw [if_neg (by rw [e]; simp), if_neg (fun hn => hn.2 hf), hj]
      · rw [if_pos (by simp [hf]), if_pos ⟨k4, hf⟩]
    by_cases hbad : p[k].Kind = 4 ∧ (invP p[k].Patch).2.Code ≠ 0
    · rw [if_pos hbad] at hs
      exact .inl ⟨_, iter_done hs, hbad.2⟩
    · rw [if_neg hbad] at hs
      rw [iter_next (s' := ((k : Int) - 1, out ++ [invC p[k]])) hs]
      have ho : invOk p[k] := by
        intro k4
        by_cases hf : (invP p[k].Patch).2.Code = 0
        · exact hf
        · exact absurd ⟨k4, hf⟩ hbad
      rcases ih (out ++ [invC p[k]]) (by omega) (by simp; omega) with ⟨f, e1, e2⟩ | ⟨e1, e2⟩
      · exact .inl ⟨f, e1, e2⟩
      · refine .inr ⟨?_, ?_⟩
        · rw [e1, List.take_add_one, List.getElem?_eq_getElem hkl, Option.toList_some, List.map_append, List.reverse_append, List.append_assoc]; rfl
        · intro c hcm
          rw [List.take_add_one, List.getElem?_eq_getElem hkl] at hcm
          rcases List.mem_append.1 hcm with h | h
          · exact e2 c h
          · simp at h; subst h; exact ho

theorem tinvert_f (p : List TreeChange) : ∃ q f, treepatch_Invert ⟨p⟩ = some (⟨q⟩, f) ∧ (f.Code = 0 → (∀ c ∈ p, OkCh c ∧ invOk c) ∧ p.length ≤ 30 ∧ q = (p.map invC).reverse) := by
  unfold treepatch_Invert
  rw [VPatch_f, Option.bind_some]
  simp only
  rcases pcF_ok p with h | h
  · obtain ⟨hl, hp⟩ := (pcF_zero p).1 (by rw [h])
    rw [if_neg (by rw [h]; decide), ck_eq (by omega) (by omega), Option.bind_some]
    rcases tinv_iter hp hl p.length [] (Nat.le_refl _) (by simp; omega) with ⟨f, e1, e2⟩ | ⟨e1, e2⟩
    · rw [e1, Option.bind_some]
      exact ⟨_, _, rfl, fun h => absurd h e2⟩
    · rw [e1, Option.bind_some]
      unfold treepatch_Invert.j1
      rw [List.take_length] at e2 ⊢
      exact ⟨_, _, rfl, fun _ => ⟨fun c hc => ⟨hp c hc, e2 c hc⟩, hl, by simp⟩⟩
  · rw [if_pos (by simp [h])]
    exact ⟨_, _, rfl, fun h0 => absurd h0 h⟩

theorem tp_undo (p : TreePatch) (t : FileTree) : changeforgelaw2_TreepatchUndo p t = some true := by
  obtain ⟨p⟩ := p
  obtain ⟨l⟩ := t
  obtain ⟨q, f, e, hf⟩ := tinvert_f p
  unfold changeforgelaw2_TreepatchUndo
  rw [Apply_f, Option.bind_some, e, Option.bind_some]
  simp only
  by_cases h1 : (applyT p l).2.Code = 0
  · rw [decide_eq_true h1, if_neg (show ¬ ((!true) = true) by decide), Option.bind_some]
    by_cases h2 : f.Code = 0
    · obtain ⟨a1, a2, a3, a4, a5⟩ := applyT_ok h1
      obtain ⟨f1, f2, rfl⟩ := hf h2
      have hr := run_inv p 0 0 l a3 a2 (fun c hc => (f1 c hc).2) (by rw [← a4]; exact h1)
      rw [← a4] at hr
      have hq : applyT (p.map invC).reverse (applyT p l).1 = (l, ⟨0, 0⟩) := by
        rw [applyT_of (by simp; omega) (fun c hc => ?_) a5, hr]
        rw [List.mem_reverse, List.mem_map] at hc
        obtain ⟨d, hd, rfl⟩ := hc
        exact invC_ok (f1 d hd).1 (f1 d hd).2
      rw [decide_eq_true h2, if_neg (by decide), Apply_f, Option.bind_some]
      simp only
      rw [hq]
      simp only
      rw [if_pos (by simp), tree_ok a3, Option.bind_some, Option.bind_some, if_pos rfl, renamed_f]; rfl
    · rw [decide_eq_false h2, if_pos (by rfl), renamed_f]; rfl
  · rw [decide_eq_false h1, if_pos (by rfl), Option.bind_some, if_pos rfl, renamed_f]; rfl
end Go.Dc
