/- The law on edits: the lines that stay are those that the origins keep. -/
import Derived.Test.YtnlleniemknjcaaDcPK
import Derived.Test.YtnlleniemknjcaaDcPJ
set_option linter.unusedSimpArgs false
namespace Go.Dc
open Go

instance decMemB (x : ByteArray) (m : List ByteArray) : Decidable (x ∈ m) := decidable_of_iff (∃ y, y ∈ m ∧ x = y) ⟨fun ⟨_, h, e⟩ => e ▸ h, fun h => ⟨x, h, rfl⟩⟩

theorem follows1 (x : ByteArray) (m : List ByteArray) (hm : m.length ≤ 1000000) : changeforgelaw2_follows [x] m = some (decide (x ∈ m)) := by
  by_cases hx : x ∈ m
  · rw [decide_eq_true hx]; exact follows_eq x m hm hx
  · rw [decide_eq_false hx]
    have key : ∀ (rest : List ByteArray) (k : Nat), m.drop k = rest → iter (fun s => changeforgelaw2_follows.l1 [x] m s.1 s.2) ((k : Int), 0) = some 0 := by
      intro rest
      induction rest with
      | nil =>
        intro k hk
        have := drop_end hk
        refine iter_done ?_
        unfold changeforgelaw2_follows.l1
        rw [ite_dec, if_neg (by omega), Option.bind_some, if_neg (by decide)]
      | cons y r ih =>
        intro k hk
        obtain ⟨hlt, hy, hr⟩ := drop_at hk
        have hne : ¬ y = x := fun e => hx (by rw [← e, ← hy]; exact List.getElem_mem hlt)
        have e0 : changeforgelaw2_follows.l1 [x] m (k : Int) 0 = some (.next (((k + 1 : Nat) : Int), 0)) := by
          unfold changeforgelaw2_follows.l1 changeforgelaw2_follows.j2
          rw [ite_dec, if_pos (by omega), Option.bind_some, if_pos (show decide ((0 : Int) < (([x] : List ByteArray).length : Int)) = true from decide_eq_true (by simp)), at_nat hlt, Option.bind_some, hy, show at? [x] 0 = some x from rfl, Option.bind_some, ite_dec, if_neg hne, ck_eq (by omega) (by omega), Option.bind_some]; rfl
        rw [iter_next e0]; exact ih (k + 1) hr
    unfold changeforgelaw2_follows changeforgelaw2_follows.j1
    have := key m 0 rfl
    rw [show ((0 : Nat) : Int) = 0 from rfl] at this
    rw [this, Option.bind_some]
    rfl

theorem cut1 {l : List ByteArray} {k : Nat} (h : k < l.length) : cut? l (k : Int) ((k : Int) + 1) = some [l[k]] := by
  rw [cut_eq (by omega) (by omega) (by omega), Int.toNat_natCast, show ((k : Int) + 1).toNat = k + 1 by omega, List.drop_take, show k + 1 - k = 1 by omega, List.drop_eq_getElem_cons h]
  rfl

/-! ## common parts -/
theorem lcs_sub : ∀ (a b c : List ByteArray), c.Sublist a → c.Sublist b → c.length ≤ lcs a b
  | [], b, c, h, _ => by rw [List.sublist_nil.1 h]; exact Nat.zero_le _
  | x :: a, [], c, _, h => by rw [List.sublist_nil.1 h]; exact Nat.zero_le _
  | x :: a, y :: b, c, h, h' => by
    rw [lcs_cons]
    have s1 := lcs_step a b y
    cases h with
    | cons _ h1 =>
      have := lcs_sub a (y :: b) c h1 h'
      split <;> omega
    | cons_cons _ h1 =>
      rename_i c'
      cases h' with
      | cons _ h2 =>
        have := lcs_sub (x :: a) b (x :: c') (h1.cons_cons x) h2
        split
        · have s2 := lcs_step_l a b x; omega
        · omega
      | cons_cons _ h2 =>
        have := lcs_sub a b c' h1 h2
        rw [if_pos rfl]
        simp only [List.length_cons]; omega
 termination_by a b => a.length + b.length

/-- the origins of a second text: 0 where a line is kept -/
def keptO : List ByteArray → List ByteArray → List Int := fun a b => app1 1 (algn a b) (List.replicate a.length 0)

theorem keptO_all (a b : List ByteArray) : All2 (fun o l => (o = 0 ∧ l ∈ a) ∨ o = 1) (keptO a b) b := by
  unfold keptO
  refine app1_all a b _ (R := fun o l => o = 0 ∧ l ∈ a) (All2.rep a (fun l hl => ⟨rfl, hl⟩)) ?_ ?_
  · intro l _ o ho; exact .inl ho
  · intro l _; exact .inr rfl

theorem keptO_count (a b : List ByteArray) : (keptO a b).count 1 = (algn a b).count 2 := by
  unfold keptO
  refine app1_count 1 _ _ (by rw [algn_used]; simp) ?_
  intro o ho
  rw [List.eq_of_mem_replicate ho]; decide

/-- inserted lines: all but the common ones -/
theorem algn_ins : ∀ a b : List ByteArray, (algn a b).count 2 + lcs a b = b.length
  | [], [] => by simp [algn, lcs]
  | [], y :: b => by
    have := algn_ins [] b
    rw [algn, List.count_cons_self, lcs_nil_l] at *; simp only [List.length_cons]; omega
  | x :: a, [] => by
    have := algn_ins a []
    rw [algn, List.count_cons_of_ne (by decide), lcs_nil_r] at *; omega
  | x :: a, y :: b => by
    have h1 := algn_ins a b
    have h2 := algn_ins a (y :: b)
    have h3 := algn_ins (x :: a) b
    rw [algn, lcs_cons]
    by_cases he : x = y
    · rw [if_pos he, if_pos he, List.count_cons_of_ne (by decide)]; simp only [List.length_cons]; omega
    · rw [if_neg he, if_neg he]
      simp only [List.length_cons] at *
      by_cases hg : lcs a (y :: b) ≥ lcs (x :: a) b
      · rw [if_pos hg, List.count_cons_of_ne (by decide)]; omega
      · rw [if_neg hg, List.count_cons_self]; omega
 termination_by a b => a.length + b.length

theorem all2_force {p : ByteArray → Bool} : ∀ (os : List Int) (ls : List ByteArray), All2 (fun o l => (o = 0 ∧ p l = true) ∨ o = 1) os ls → os.count 1 ≤ (ls.filter fun l => !p l).length → All2 (fun o l => (o = 0 ∧ p l = true) ∨ (o = 1 ∧ p l = false)) os ls
  | [], [], _, _ => trivial
  | o :: os, l :: ls, h, hc => by
    obtain ⟨h1, h2⟩ := h
    have key : ∀ (os : List Int) (ls : List ByteArray), All2 (fun o l => (o = 0 ∧ p l = true) ∨ o = 1) os ls → (ls.filter fun l => !p l).length ≤ os.count 1 := by
      intro os
      induction os with
      | nil => intro ls h; cases ls with
        | nil => simp
        | cons _ _ => exact h.elim
      | cons o os ih => intro ls h; cases ls with
        | nil => exact h.elim
        | cons l ls =>
          have := ih ls h.2
          rcases h.1 with ⟨rfl, hp⟩ | rfl
          · rw [List.filter_cons_of_neg (by simp [hp]), List.count_cons_of_ne (by decide)]; exact this
          · rw [List.count_cons_self]
            cases hp : p l with
            | true => rw [List.filter_cons_of_neg (by simp [hp])]; omega
            | false => rw [List.filter_cons_of_pos (by simp [hp])]; simp only [List.length_cons]; omega
    have hk := key os ls h2
    rcases h1 with ⟨rfl, hp⟩ | rfl
    · rw [List.filter_cons_of_neg (by simp [hp]), List.count_cons_of_ne (by decide)] at hc
      exact ⟨.inl ⟨rfl, hp⟩, all2_force os ls h2 hc⟩
    · rw [List.count_cons_self] at hc
      cases hp : p l with
      | true => rw [List.filter_cons_of_neg (by simp [hp])] at hc; omega
      | false =>
        rw [List.filter_cons_of_pos (by simp [hp])] at hc
        exact ⟨.inr ⟨rfl, hp⟩, all2_force os ls h2 (by simp only [List.length_cons] at hc; omega)⟩
  | [], _ :: _, h, _ => h.elim
  | _ :: _, [], h, _ => h.elim

/-- what stays of the old text -/
theorem raw_sub {text : List ByteArray} (p : ByteArray → Bool) (hp : ∀ l ∈ text, p l = true) : ∀ (hs : List Hunk) (low : Nat) (e : Int), Good e hs → (low : Int) ≤ e + 1 → (∀ h ∈ hs, ∀ l ∈ h.New, p l = false) → ((rawS hs text low).filter p).Sublist (text.drop low)
  | [], low, _, _, _, _ => by
    rw [rawS]; exact List.filter_sublist
  | h :: r, low, e, hg, hle, hn => by
    obtain ⟨hc, hg'⟩ := hg
    obtain ⟨z1, z2, z3, z4, z5, z6⟩ := hcode_zero hc
    have ih := raw_sub p hp r (h.At.toNat + h.Old.length) (h.At + h.Old.length) hg' (by omega) (fun q hq => hn q (List.mem_cons_of_mem _ hq))
    rw [rawS, List.filter_append, List.filter_append]
    have e1 : h.New.filter p = [] := List.filter_eq_nil_iff.2 (fun l hl => by simp [hn h (by simp) l hl])
    rw [e1, List.nil_append]
    have e2 : text.drop low = (text.drop low).take (h.At.toNat - low) ++ text.drop h.At.toNat := by
      conv => lhs; rw [← List.take_append_drop (h.At.toNat - low) (text.drop low), List.drop_drop]
      rw [show low + (h.At.toNat - low) = h.At.toNat by omega]
    rw [e2]
    refine List.Sublist.append ?_ ?_
    · rw [← e2]; exact List.filter_sublist
    · refine ih.trans ?_
      rw [← List.drop_drop]; exact List.drop_sublist _ _

theorem All2.imp' {R R' : Int → ByteArray → Prop} {os : List Int} {ls : List ByteArray} (h : All2 R os ls) (f : ∀ o l, R o l → R' o l) : All2 R' os ls := by
  induction os generalizing ls with
  | nil => cases ls with
    | nil => trivial
    | cons _ _ => exact h.elim
  | cons o os ih => cases ls with
    | nil => exact h.elim
    | cons l ls => exact ⟨f _ _ h.1, ih h.2⟩

theorem edited_kept {base : List ByteArray} {p : Patch} (hg : Good (-1) p.Hunks) (hn : ∀ l ∈ base, ∀ h ∈ p.Hunks, ¬ l ∈ h.New) :
    All2 (fun o l => (o = 0 ∧ l ∈ base) ∨ (o = 1 ∧ ¬ l ∈ base)) (keptO base (rawS p.Hunks base 0)) (rawS p.Hunks base 0) := by
  have h1 := keptO_all base (rawS p.Hunks base 0)
  have hs := raw_sub (text := base) (fun l => decide (l ∈ base)) (fun l hl => decide_eq_true hl) p.Hunks 0 (-1) hg (by omega) (fun h hh l hl => decide_eq_false (fun hb => hn l hb h hh hl))
  rw [List.drop_zero] at hs
  have h2 := lcs_sub base (rawS p.Hunks base 0) _ hs List.filter_sublist
  have h3 := algn_ins base (rawS p.Hunks base 0)
  have h4 := keptO_count base (rawS p.Hunks base 0)
  have h5 : ((rawS p.Hunks base 0).filter fun l => decide (l ∈ base)).length + ((rawS p.Hunks base 0).filter fun l => !decide (l ∈ base)).length = (rawS p.Hunks base 0).length := by
    have : ∀ s : List ByteArray, (s.filter fun l => decide (l ∈ base)).length + (s.filter fun l => !decide (l ∈ base)).length = s.length := by
      intro s
      induction s with
      | nil => rfl
      | cons x s ih =>
        by_cases hx : x ∈ base
        · rw [List.filter_cons_of_pos (by simp [hx]), List.filter_cons_of_neg (by simp [hx])]; simp only [List.length_cons]; omega
        · rw [List.filter_cons_of_neg (by simp [hx]), List.filter_cons_of_pos (by simp [hx])]; simp only [List.length_cons]; omega
    exact this _
  have h6 := all2_force (p := fun l => decide (l ∈ base)) _ _ (h1.imp' fun o l h => by
    rcases h with ⟨a, b⟩ | a
    · exact .inl ⟨a, decide_eq_true b⟩
    · exact .inr a) (by omega)
  exact h6.imp' fun o l h => by
    rcases h with ⟨a, b⟩ | ⟨a, b⟩
    · exact .inl ⟨a, of_decide_eq_true b⟩
    · exact .inr ⟨a, of_decide_eq_false b⟩

theorem edited_inner (base : List ByteArray) (p : Patch) (hb : base.length ≤ 120) (hl : p.Hunks.length ≤ 130) (hnew : ∀ h ∈ p.Hunks, h.New.length ≤ 120) {i : Nat} (hi : i < base.length) : ∀ (rest : List Hunk) (k : Nat), p.Hunks.drop k = rest →
    iter (fun s => changeforgelaw2_BlameEdited.l3 base p (i : Int) s) (k : Int) = some (.inl true) ∨ (iter (fun s => changeforgelaw2_BlameEdited.l3 base p (i : Int) s) (k : Int) = some (.inr ()) ∧ ∀ h ∈ rest, ¬ base[i] ∈ h.New) := by
  intro rest
  induction rest with
  | nil =>
    intro k hk
    have := drop_end hk
    refine .inr ⟨iter_done ?_, fun h hh => by cases hh⟩
    unfold changeforgelaw2_BlameEdited.l3
    rw [ite_dec, if_neg (by omega)]
  | cons h r ih =>
    intro k hk
    obtain ⟨hlt, hh, hr⟩ := drop_at hk
    have hn := hnew h (by rw [← hh]; exact List.getElem_mem hlt)
    have e0 : changeforgelaw2_BlameEdited.l3 base p (i : Int) (k : Int) = some (.done (.inl true)) ∨ (changeforgelaw2_BlameEdited.l3 base p (i : Int) (k : Int) = some (.next ((k + 1 : Nat) : Int)) ∧ ¬ base[i] ∈ h.New) := by
      unfold changeforgelaw2_BlameEdited.l3
      rw [ite_dec, if_pos (by omega), ck_eq (by omega) (by omega), Option.bind_some, cut1 hi, Option.bind_some, at_nat hlt, Option.bind_some, hh, follows1 _ _ (by omega), Option.bind_some, added_eq]
      by_cases hm : base[i] ∈ h.New
      · left
        rw [decide_eq_true hm]
        rfl
      · rw [decide_eq_false hm]
        simp only [Bool.false_eq_true, if_false, decide_eq_true_eq]
        by_cases h0 : (i : Int) > 0
        · rw [if_pos h0, Option.bind_some, cut1 hi, Option.bind_some, cut_eq (by omega) (by omega) (by omega), Option.bind_some, follows1 _ _ (by simp; omega), Option.bind_some, Option.bind_some, Option.bind_some]
          by_cases hm2 : base[i] ∈ (base.take (i : Int).toNat).drop (0 : Int).toNat
          · left; rw [decide_eq_true hm2]; rfl
          · right
            rw [decide_eq_false hm2, if_neg (by decide), ck_eq (by omega) (by omega)]
            exact ⟨rfl, hm⟩
        · right
          rw [if_neg h0, Option.bind_some, Option.bind_some, if_neg (by decide), ck_eq (by omega) (by omega)]
          exact ⟨rfl, hm⟩
    rcases e0 with e0 | ⟨e0, hm⟩
    · exact .inl (iter_done e0)
    · rw [iter_next e0]
      rcases ih (k + 1) hr with h1 | ⟨h1, h2⟩
      · exact .inl h1
      · refine .inr ⟨h1, fun q hq => ?_⟩
        rcases List.mem_cons.1 hq with rfl | hq
        · exact hm
        · exact h2 q hq

theorem edited_outer (base : List ByteArray) (p : Patch) (hb : base.length ≤ 120) (hl : p.Hunks.length ≤ 130) (hnew : ∀ h ∈ p.Hunks, h.New.length ≤ 120) : ∀ (rest : List ByteArray) (k : Nat), base.drop k = rest →
    iter (fun s => changeforgelaw2_BlameEdited.l2 base p s) (k : Int) = some (.inl true) ∨ (iter (fun s => changeforgelaw2_BlameEdited.l2 base p s) (k : Int) = some (.inr ()) ∧ ∀ l ∈ rest, ∀ h ∈ p.Hunks, ¬ l ∈ h.New) := by
  intro rest
  induction rest with
  | nil =>
    intro k hk
    have := drop_end hk
    refine .inr ⟨iter_done ?_, fun h hh => by cases hh⟩
    unfold changeforgelaw2_BlameEdited.l2
    rw [ite_dec, if_neg (by omega)]
  | cons x r ih =>
    intro k hk
    obtain ⟨hlt, hx, hr⟩ := drop_at hk
    rcases edited_inner base p hb hl hnew hlt p.Hunks 0 rfl with e1 | ⟨e1, e2⟩
    · left
      refine iter_done ?_
      unfold changeforgelaw2_BlameEdited.l2
      rw [show ((0 : Nat) : Int) = 0 from rfl] at e1
      rw [ite_dec, if_pos (by omega), e1]; rfl
    · have e0 : changeforgelaw2_BlameEdited.l2 base p (k : Int) = some (.next ((k + 1 : Nat) : Int)) := by
        unfold changeforgelaw2_BlameEdited.l2 changeforgelaw2_BlameEdited.j4 changeforgelaw2_BlameEdited.j3
        rw [show ((0 : Nat) : Int) = 0 from rfl] at e1
        rw [ite_dec, if_pos (by omega), e1, Option.bind_some]
        simp only
        rw [ck_eq (by omega) (by omega)]; rfl
      rw [iter_next e0]
      rcases ih (k + 1) hr with h1 | ⟨h1, h2⟩
      · exact .inl h1
      · refine .inr ⟨h1, fun q hq => ?_⟩
        rcases List.mem_cons.1 hq with rfl | hq
        · rw [← hx]; exact e2
        · exact h2 q hq

theorem rawS_ok {text : List ByteArray} (ht : ∀ s ∈ text, OkLine s) : ∀ (hs : List Hunk) (low : Nat), (∀ h ∈ hs, ∀ s ∈ h.New, OkLine s) → ∀ s ∈ rawS hs text low, OkLine s
  | [], low, _, s, h => ht s (List.mem_of_mem_drop h)
  | q :: r, low, hn, s, h => by
    rw [rawS] at h
    simp only [List.mem_append] at h
    rcases h with h | h | h
    · exact ht s (List.mem_of_mem_drop (List.mem_of_mem_take h))
    · exact hn q (by simp) s h
    · exact rawS_ok ht r _ (fun x hx => hn x (List.mem_cons_of_mem _ hx)) s h

theorem edited_last (base s : List ByteArray) (f g : Fault) (os : List Int) (hb : base.length ≤ 120) (hlen : os.length = s.length) (hs : s.length ≤ 120) (h : All2 (fun o l => (o = 0 ∧ l ∈ base) ∨ (o = 1 ∧ ¬ l ∈ base)) os s) : ∀ (rest : List Int) (k : Nat), os.drop k = rest →
    iter (fun q => changeforgelaw2_BlameEdited.l1 base (s, f) (os, g) q) (k : Int) = some (.inr ()) := by
  intro rest
  induction rest with
  | nil =>
    intro k hk
    have := drop_end hk
    refine iter_done ?_
    unfold changeforgelaw2_BlameEdited.l1
    simp only
    rw [ite_dec, if_neg (by omega)]
  | cons x r ih =>
    intro k hk
    obtain ⟨hlt, hx, hr⟩ := drop_at hk
    have hg := h.get k hlt (by omega)
    rw [hx] at hg
    have e0 : changeforgelaw2_BlameEdited.l1 base (s, f) (os, g) (k : Int) = some (.next ((k + 1 : Nat) : Int)) := by
      unfold changeforgelaw2_BlameEdited.l1
      simp only
      rw [ite_dec, if_pos (by omega), at_nat hlt, Option.bind_some, hx, ck_eq (by omega) (by omega), Option.bind_some, cut1 (by omega), Option.bind_some, follows1 _ _ (by omega), Option.bind_some]
      rcases hg with ⟨rfl, hm⟩ | ⟨rfl, hm⟩
      · rw [decide_eq_true hm]; rfl
      · rw [decide_eq_false hm]; rfl
    rw [iter_next e0]; exact ih (k + 1) hr

theorem edited_eq (base : List ByteArray) (p : Patch) : changeforgelaw2_BlameEdited base p = some true := by
  unfold changeforgelaw2_BlameEdited
  rw [apply_f, Option.bind_some, added_eq]
  by_cases hc : (applyF p base).2.Code = 0
  · obtain ⟨a1, a2, a3, a4, a5, a6⟩ := applyF_ok hc
    rw [a6]
    simp only [decide_true, Bool.not_true, Bool.false_eq_true, if_false]
    have hb := a3.1
    have hga := good_at a2 (by omega)
    have hnew : ∀ h ∈ p.Hunks, h.New.length ≤ 120 := fun h hh => textFault_len (hga h hh).2.2.2.1
    rcases edited_outer base p hb a1 hnew base 0 rfl with e1 | ⟨e1, e2⟩
    · rw [show ((0 : Nat) : Int) = 0 from rfl] at e1
      rw [e1]; rfl
    · rw [show ((0 : Nat) : Int) = 0 from rfl] at e1
      rw [e1, Option.bind_some]
      simp only
      unfold changeforgelaw2_BlameEdited.j1 changeforgelaw2_BlameEdited.j2
      have hok : OkText (rawS p.Hunks base 0) := ⟨a5, rawS_ok a3.2 p.Hunks 0 (fun h hh => ((okText_iff _).2 ((textFault_zero _).2 (hga h hh).2.2.2.1)).2)⟩
      have hof : OkFiles [base, rawS p.Hunks base 0] := ⟨by simp, fun v hv => by
        simp at hv
        rcases hv with rfl | rfl
        · exact a3
        · exact hok⟩
      have han : annot [base, rawS p.Hunks base 0] = keptO base (rawS p.Hunks base 0) := rfl
      have hk := edited_kept a2 e2
      have hkl := hk.length
      simp only
      rw [annotate_ok hof, Option.bind_some, han, added_eq]
      have := edited_last base (rawS p.Hunks base 0) ⟨0, 0⟩ ⟨0, 0⟩ _ hb hkl a5 hk _ 0 rfl
      rw [show ((0 : Nat) : Int) = 0 from rfl] at this
      simp only [decide_true, Bool.not_true, Bool.false_eq_true, if_false, hkl, Option.bind_some, this]
  · rw [if_pos (by simp [hc])]; rfl
end Go.Dc
