/- Laws of registers: merging, writing. -/
import Derived.Test.YtladljignaanfaaDcME
set_option linter.unusedSimpArgs false
set_option linter.unusedVariables false
namespace Go.Dc
open Go

theorem vv_ext {x y : VV} (h1 : x.Value = y.Value) (h2 : x.Vector = y.Vector) : x = y := by
  cases x; cases y
  simp only at h1 h2
  rw [h1, h2]

instance : DecidableEq VersionedValue := fun x y => if h : x.Value = y.Value ∧ x.Vector = y.Vector then isTrue (vv_ext h.1 h.2) else isFalse (fun e => h (by subst e; exact ⟨rfl, rfl⟩))

theorem values_f (a b : List VV) (ha : a.length ≤ 1000) (h6 : ∀ v ∈ a, v.Vector.length ≤ 1000) : changeforgeequal_Values a b = some (decide (a = b)) := by
  unfold changeforgeequal_Values
  rw [ite_ndec]
  by_cases hl : (a.length : Int) = (b.length : Int)
  · rw [if_pos hl]
    have hl' : a.length = b.length := by omega
    obtain ⟨r, h1, h2⟩ := iter_rule (m := fun s => changeforgeequal_Values.l1 a b s) (fun s => ∃ k : Nat, s = (k : Int) ∧ k ≤ a.length ∧ a.take k = b.take k) (fun s => a.length - s.toNat)
      (fun r => (r = .inr () ∧ a = b) ∨ (r = .inl false ∧ a ≠ b)) (by
        rintro s ⟨k, rfl, hk, hall⟩
        unfold changeforgeequal_Values.l1
        rw [ite_dec]
        by_cases hlt : k < a.length
        · have hkb : k < b.length := by omega
          rw [if_pos (by omega), at_nat hlt, Option.bind_some, at_nat hkb, Option.bind_some, Option.bind_some, Option.bind_some, ints_f _ _ (h6 _ (List.getElem_mem hlt)), Option.bind_some]
          have hc : (if (!decide (a[k].Value = b[k].Value)) = true then some true else some !decide (a[k].Vector = b[k].Vector)) = some (!decide (a[k] = b[k])) := by
            by_cases e1 : a[k].Value = b[k].Value
            · by_cases e2 : a[k].Vector = b[k].Vector
              · rw [decide_eq_true (vv_ext e1 e2), decide_eq_true e1, decide_eq_true e2]; rfl
              · rw [decide_eq_false (p := a[k] = b[k]) (fun h => e2 (by rw [h])), decide_eq_true e1, decide_eq_false e2]; rfl
            · rw [decide_eq_false (p := a[k] = b[k]) (fun h => e1 (by rw [h])), decide_eq_false e1]; rfl
          rw [hc, Option.bind_some, ite_ndec]
          by_cases he : a[k] = b[k]
          · rw [if_pos he, ck_eq (by omega) (by omega), Option.bind_some]
            exact .inl ⟨_, rfl, ⟨k + 1, by omega, hlt, by rw [List.take_succ_eq_append_getElem hlt, List.take_succ_eq_append_getElem hkb, hall, he]⟩, by omega⟩
          · rw [if_neg he]
            exact .inr ⟨_, rfl, .inr ⟨rfl, fun h => he (by subst h; rfl)⟩⟩
        · rw [if_neg (by omega)]
          refine .inr ⟨_, rfl, .inl ⟨rfl, ?_⟩⟩
          rw [List.take_of_length_le (by omega), List.take_of_length_le (by omega)] at hall
          exact hall) 0 ⟨0, rfl, Nat.zero_le _, by simp⟩
    rw [h1, Option.bind_some]
    rcases h2 with ⟨rfl, h⟩ | ⟨rfl, h⟩
    · rw [decide_eq_true h]; rfl
    · rw [decide_eq_false h]
  · rw [if_neg hl, decide_eq_false (fun h => hl (by rw [h]))]

theorem first_f : changeforgelaw2_first = some true := by
  unfold changeforgelaw2_first
  have h : writeV [] 0 7 = ([⟨7, [1, 0, 0, 0, 0, 0]⟩], ⟨0, 0⟩) := by rfl
  rw [Write_f, Option.bind_some, h]
  simp only [decide_true, if_true]
  rw [values_f _ _ (by simp) (by intro v hv; simp only [List.mem_singleton] at hv; subst hv; simp), Option.bind_some, Option.bind_some]
  simp

theorem merge_small {a b : List VV} : (mergeV a b).1.length ≤ 1000 ∧ ∀ v ∈ (mergeV a b).1, v.Vector.length ≤ 1000 := by
  by_cases h : (mergeV a b).2.Code = 0
  · obtain ⟨ha, hb, hc, hl⟩ := mergeV_ok.1 h
    rw [mergeV_eq h]
    exact ⟨by simp only; omega, fun v hv => by have := (mrg_spec ha hb hc).six ha hb v hv; omega⟩
  · have : (mergeV a b).1 = [] := by
      unfold mergeV at h ⊢
      by_cases h0 : (vfault a).Code ≠ 0
      · rw [if_pos h0]
      rw [if_neg h0] at h ⊢
      by_cases h1 : (vfault b).Code ≠ 0
      · rw [if_pos h1]
      rw [if_neg h1] at h ⊢
      cases hs : scn (cfG a) 0 b with
      | some r =>
        obtain ⟨j, hj, he⟩ := scn_some hs
        unfold cfG at he
        split at he
        · cases he; rfl
        · cases he
      | none =>
        rw [hs] at h
        simp only at h ⊢
        by_cases h2 : (mrg a b).length > 16
        · rw [if_pos h2]
        · rw [if_neg h2] at h; exact absurd rfl h
    rw [this]; simp

theorem mset_comm {a b : List VV} {z : VV} : mset a b z ↔ mset b a z := by
  unfold mset
  constructor
  · rintro ⟨h1, h2⟩; exact ⟨h1.symm, fun x hx => h2 x hx.symm⟩
  · rintro ⟨h1, h2⟩; exact ⟨h1.symm, fun x hx => h2 x hx.symm⟩

theorem Agr.symm {a b : List VV} (h : Agr a b) : Agr b a := fun x hx v hv he => (h v hv x hx he.symm).symm

theorem mrg_comm {a b : List VV} (ha : VReg a) (hb : VReg b) (hc : Agr a b) : mrg a b = mrg b a :=
  MSpec.uniq ha hb (mrg_spec ha hb hc) ⟨(mrg_spec hb ha hc.symm).lex, fun z => by rw [(mrg_spec hb ha hc.symm).mem, mset_comm]⟩

theorem merge_comm_ok {a b : List VV} : (mergeV a b).2.Code = 0 ↔ (mergeV b a).2.Code = 0 := by
  rw [mergeV_ok, mergeV_ok]
  constructor
  · rintro ⟨ha, hb, hc, hl⟩; exact ⟨hb, ha, hc.symm, by rw [← mrg_comm ha hb hc]; exact hl⟩
  · rintro ⟨ha, hb, hc, hl⟩; exact ⟨hb, ha, hc.symm, by rw [← mrg_comm ha hb hc]; exact hl⟩

theorem mrg_eq {a b l : List VV} (ha : VReg a) (hb : VReg b) (hc : Agr a b) (h : MSpec a b l) : mrg a b = l := MSpec.uniq ha hb (mrg_spec ha hb hc) h

theorem mrg_self {l : List VV} (h : VReg l) : (mergeV l l).2.Code = 0 ∧ mrg l l = l := by
  have hc : Agr l l := fun x hx v hv he => by rw [h.inj hx hv he]
  have e : mrg l l = l := mrg_eq h h hc ⟨h.lex, fun z => by
    constructor
    · intro hz
      refine ⟨.inl hz, fun x hx hcv => ?_⟩
      have hx' : x ∈ l := hx.elim id id
      rw [h.cov hx' hz hcv]
    · rintro ⟨h1, _⟩; exact h1.elim id id⟩
  exact ⟨mergeV_ok.2 ⟨h, h, hc, by rw [e]; exact h.len⟩, e⟩

/-- each value is below one that stays -/
theorem up {a b : List VV} (ha : VReg a) (hb : VReg b) {x : VV} (hx : x ∈ a ∨ x ∈ b) : ∃ m, mset a b m ∧ covB m.Vector x.Vector = true := by
  have key : ∀ {a b : List VV}, VReg a → VReg b → x ∈ a → ∃ m, mset a b m ∧ covB m.Vector x.Vector = true := by
    intro a b ha hb hx
    by_cases h : ∀ y ∈ b, covB y.Vector x.Vector = true → y.Vector = x.Vector
    · refine ⟨x, ⟨.inl hx, fun y hy hc => ?_⟩, covB_refl _⟩
      rcases hy with hy | hy
      · rw [ha.cov hy hx hc]
      · exact h y hy hc
    · simp only [Classical.not_forall] at h
      obtain ⟨y, hy, hc, hne⟩ := h
      refine ⟨y, ⟨.inr hy, fun w hw hwc => ?_⟩, hc⟩
      rcases hw with hw | hw
      · have h1 := covB_trans (by rw [ha.six w hw, hb.six y hy]) (by rw [hb.six y hy, ha.six x hx]) hwc hc
        have := ha.cov hw hx h1
        subst this
        exact absurd (covB_anti (by rw [hb.six y hy, ha.six w hw]) hc hwc) hne
      · rw [hb.cov hw hy hwc]
  rcases hx with hx | hx
  · exact key ha hb hx
  · obtain ⟨m, h1, h2⟩ := key hb ha hx
    exact ⟨m, mset_comm.1 h1, h2⟩

def T3 (a b c : List VV) (z : VV) : Prop := (z ∈ a ∨ z ∈ b ∨ z ∈ c) ∧ ∀ x, (x ∈ a ∨ x ∈ b ∨ x ∈ c) → covB x.Vector z.Vector = true → x.Vector = z.Vector

theorem t3_l {a b c m : List VV} (ha : VReg a) (hb : VReg b) (hcr : VReg c) (hm : MSpec a b m) {z : VV} : mset m c z ↔ T3 a b c z := by
  have sixab : ∀ x, (x ∈ a ∨ x ∈ b) → x.Vector.length = 6 := fun x hx => hx.elim (ha.six x) (hb.six x)
  constructor
  · rintro ⟨h1, h2⟩
    have hz : z ∈ a ∨ z ∈ b ∨ z ∈ c := by
      rcases h1 with h1 | h1
      · rcases ((hm.mem z).1 h1).1 with h | h
        · exact .inl h
        · exact .inr (.inl h)
      · exact .inr (.inr h1)
    have hz6 : z.Vector.length = 6 := by rcases hz with h | h | h; exact ha.six z h; exact hb.six z h; exact hcr.six z h
    refine ⟨hz, fun x hx hc => ?_⟩
    have key : (x ∈ a ∨ x ∈ b) → x.Vector = z.Vector := by
      intro hx
      obtain ⟨w, hw, hwc⟩ := up ha hb hx
      have hw6 := sixab w hw.1
      have h3 := h2 w (.inl ((hm.mem w).2 hw)) (covB_trans (by rw [hw6, sixab x hx]) (by rw [sixab x hx, hz6]) hwc hc)
      rw [h3] at hwc
      exact (covB_anti (by rw [hz6, sixab x hx]) hwc hc).symm
    rcases hx with hx | hx | hx
    · exact key (.inl hx)
    · exact key (.inr hx)
    · exact h2 x (.inr hx) hc
  · rintro ⟨h1, h2⟩
    refine ⟨?_, fun x hx hc => ?_⟩
    · rcases h1 with h | h | h
      · exact .inl ((hm.mem z).2 ⟨.inl h, fun x hx => h2 x (hx.elim .inl (fun h => .inr (.inl h)))⟩)
      · exact .inl ((hm.mem z).2 ⟨.inr h, fun x hx => h2 x (hx.elim .inl (fun h => .inr (.inl h)))⟩)
      · exact .inr h
    · rcases hx with hx | hx
      · exact h2 x (((hm.mem x).1 hx).1.elim .inl (fun h => .inr (.inl h))) hc
      · exact h2 x (.inr (.inr hx)) hc

theorem t3_rot {a b c : List VV} {z : VV} : T3 a b c z ↔ T3 b c a z := by
  unfold T3
  constructor
  · rintro ⟨h1, h2⟩
    exact ⟨by rcases h1 with h | h | h; exact .inr (.inr h); exact .inl h; exact .inr (.inl h), fun x hx => h2 x (by rcases hx with h | h | h; exact .inr (.inl h); exact .inr (.inr h); exact .inl h)⟩
  · rintro ⟨h1, h2⟩
    exact ⟨by rcases h1 with h | h | h; exact .inr (.inl h); exact .inr (.inr h); exact .inl h, fun x hx => h2 x (by rcases hx with h | h | h; exact .inr (.inr h); exact .inl h; exact .inr (.inl h))⟩

theorem semilattice (a b c : List VV) : changeforgelaw2_MultivalueSemilattice a b c = some true := by
  unfold changeforgelaw2_MultivalueSemilattice
  rw [Merge_f, Option.bind_some, Merge_f, Option.bind_some]
  by_cases h : (mergeV a b).2.Code = 0
  case neg =>
    have h2 : ¬ (mergeV b a).2.Code = 0 := fun e => h (merge_comm_ok.2 e)
    simp only [decide_eq_false h, decide_eq_false h2, Bool.not_false, if_true, Option.bind_some, decide_true, first_f]
  have h2 := merge_comm_ok.1 h
  obtain ⟨ha, hb, hc, hl⟩ := mergeV_ok.1 h
  have hM := mrg_spec ha hb hc
  have hR := hM.reg ha hb hl
  obtain ⟨hs1, hs2⟩ := mrg_self hR
  have e0 : (mergeV (mrg a b) (mrg a b)) = (mrg a b, ⟨0, 0⟩) := by rw [mergeV_eq hs1, hs2]
  rw [decide_eq_true h, decide_eq_true h2]
  simp only [Bool.not_true, Bool.false_eq_true, if_false, Option.bind_some]
  rw [mergeV_eq h, mergeV_eq h2, ← mrg_comm ha hb hc]
  simp only [Merge_f, Option.bind_some, e0]
  rw [values_f _ _ (by omega) (fun v hv => by have := hM.six ha hb v hv; omega)]
  simp only [Option.bind_some, decide_true, Bool.not_true, Bool.false_eq_true, if_false]
  by_cases h5 : (mergeV (mrg a b) c).2.Code = 0
  case neg => simp only [decide_eq_false h5, Bool.not_false, if_true, Option.bind_some, first_f]
  by_cases h6 : (mergeV b c).2.Code = 0
  case neg => simp only [decide_eq_true h5, decide_eq_false h6, Bool.not_true, Bool.not_false, Bool.false_eq_true, if_false, if_true, Option.bind_some, first_f]
  by_cases h7 : (mergeV a (mergeV b c).1).2.Code = 0
  case neg => simp only [decide_eq_true h5, decide_eq_true h6, decide_eq_false h7, Bool.not_true, Bool.not_false, Bool.false_eq_true, if_false, if_true, Option.bind_some, first_f]
  simp only [decide_eq_true h5, decide_eq_true h6, decide_eq_true h7, Bool.not_true, Bool.false_eq_true, if_false, Option.bind_some]
  have e : (mergeV (mrg a b) c).1 = (mergeV a (mergeV b c).1).1 := by
    rw [mergeV_eq h6] at h7 ⊢
    rw [mergeV_eq h5, mergeV_eq h7]
    obtain ⟨_, hcr, hc5, _⟩ := mergeV_ok.1 h5
    obtain ⟨_, _, hc6, hl6⟩ := mergeV_ok.1 h6
    obtain ⟨_, hN, hc7, _⟩ := mergeV_ok.1 h7
    have hN' := mrg_spec hb hcr hc6
    have s5 := mrg_spec hR hcr hc5
    have s7 := mrg_spec ha hN hc7
    refine MSpec.uniq hR hcr s5 ⟨s7.lex, fun z => ?_⟩
    rw [s7.mem, t3_l ha hb hcr hM, t3_rot, ← t3_l hb hcr ha hN']
    exact mset_comm
  rw [values_f _ _ merge_small.1 merge_small.2, e, decide_eq_true rfl]
  simp only [Option.bind_some, if_true, first_f]

/-! a value above all others -/
theorem top_merge {l : List VV} {w : VV} (hl : VReg l) (hw : VReg [w]) (h : ∀ v ∈ l, covB w.Vector v.Vector = true ∧ covB v.Vector w.Vector = false) :
    mergeV l [w] = ([w], ⟨0, 0⟩) ∧ mergeV [w] l = ([w], ⟨0, 0⟩) := by
  have hc : Agr l [w] := by
    intro x hx v hv he
    simp only [List.mem_singleton] at hv
    subst hv
    have := (h x hx).2
    rw [he, covB_refl] at this; cases this
  have hS : MSpec l [w] [w] := ⟨by simp, fun z => by
    simp only [List.mem_singleton]
    constructor
    · rintro rfl
      refine ⟨.inr (by simp), fun x hx hcv => ?_⟩
      rcases hx with hx | hx
      · rw [(h x hx).2] at hcv; cases hcv
      · simp only [List.mem_singleton] at hx; rw [hx]
    · rintro ⟨h1, h2⟩
      rcases h1 with h1 | h1
      · have h3 := h2 w (.inr (by simp)) (h z h1).1
        have h4 := (h z h1).2
        rw [← h3, covB_refl] at h4; cases h4
      · simpa using h1⟩
  have e := mrg_eq hl hw hc hS
  have h1 : (mergeV l [w]).2.Code = 0 := mergeV_ok.2 ⟨hl, hw, hc, by rw [e]; simp⟩
  have h2 := merge_comm_ok.1 h1
  rw [mergeV_eq h1, mergeV_eq h2, ← mrg_comm hl hw hc, e]
  exact ⟨rfl, rfl⟩

theorem write_wins (a : List VV) (r v : Int) : changeforgelaw2_MultivalueWriteWins a r v = some true := by
  unfold changeforgelaw2_MultivalueWriteWins
  rw [Write_f, Option.bind_some, ite_ndec]
  by_cases h : (writeV a r v).2.Code = 0
  case neg => rw [if_neg h, first_f]; rfl
  rw [if_pos h]
  obtain ⟨ha, hr0, hr6, e, hw, htop⟩ := writeV_reg h
  rw [e]
  simp only
  rw [Merge_f, (top_merge ha hw htop).1, Option.bind_some]
  rw [decide_eq_true rfl, if_pos rfl, values_f _ _ (by simp) (fun x hx => by have := hw.six x hx; omega)]
  simp only [Option.bind_some, decide_true, if_true, List.length_singleton]
  rw [decide_eq_true (by rfl), if_pos rfl]
  have : at? [(⟨v, vecW a r⟩ : VV)] 0 = some ⟨v, vecW a r⟩ := rfl
  rw [this]
  simp only [Option.bind_some, decide_true, if_true, first_f]

theorem resolves (a b : List VV) (r v : Int) : changeforgelaw2_MultivalueResolves a b r v = some true := by
  unfold changeforgelaw2_MultivalueResolves
  rw [Merge_f, Option.bind_some, Write_f, Option.bind_some]
  by_cases h1 : (mergeV a b).2.Code = 0
  case neg => rw [decide_eq_false h1]; simp only [Bool.not_false, if_true, Option.bind_some, first_f]
  by_cases h2 : (writeV (mergeV a b).1 r v).2.Code = 0
  case neg => rw [decide_eq_true h1, decide_eq_false h2]; simp only [Bool.not_true, Bool.not_false, Bool.false_eq_true, if_false, if_true, Option.bind_some, first_f]
  rw [decide_eq_true h1, decide_eq_true h2]
  obtain ⟨ha, hb, hc, hl⟩ := mergeV_ok.1 h1
  have hM := mrg_spec ha hb hc
  rw [mergeV_eq h1] at h2 ⊢
  obtain ⟨hR, hr0, hr6, e, hw, htop⟩ := writeV_reg h2
  simp only at e hw htop
  simp only [Bool.not_true, Bool.false_eq_true, if_false, Option.bind_some]
  rw [e]
  simp only
  have six : ∀ x, (x ∈ a ∨ x ∈ b) → x.Vector.length = 6 := fun x hx => hx.elim (ha.six x) (hb.six x)
  have all : ∀ x, (x ∈ a ∨ x ∈ b) → covB (vecW (mrg a b) r) x.Vector = true ∧ covB x.Vector (vecW (mrg a b) r) = false := by
    intro x hx
    obtain ⟨m, hm, hmc⟩ := up ha hb hx
    obtain ⟨t1, t2⟩ := htop m ((hM.mem m).2 hm)
    have hm6 := six m hm.1
    have hx6 := six x hx
    refine ⟨covB_trans (by rw [vecW_len, hm6]) (by rw [hm6, hx6]) t1 hmc, ?_⟩
    cases hcv : covB x.Vector (vecW (mrg a b) r)
    · rfl
    · have := covB_trans (by rw [hm6, hx6]) (by rw [vecW_len, hx6]) hmc hcv
      rw [this] at t2; cases t2
  rw [Merge_f, (top_merge ha hw (fun x hx => all x (.inl hx))).2, Option.bind_some, Merge_f, (top_merge hb hw (fun x hx => all x (.inr hx))).1, Option.bind_some]
  have hv := values_f [(⟨v, vecW (mrg a b) r⟩ : VV)] [⟨v, vecW (mrg a b) r⟩] (by simp) (fun x hx => by have := hw.six x hx; omega)
  simp only [decide_true, if_true, Option.bind_some, hv, first_f]

theorem concurrent (a : List VV) (r m s n : Int) : changeforgelaw2_MultivalueConcurrent a r m s n = some true := by
  unfold changeforgelaw2_MultivalueConcurrent
  rw [Write_f, Option.bind_some, Write_f, Option.bind_some]
  by_cases h1 : (writeV a r m).2.Code = 0
  case neg => rw [decide_eq_false h1]; simp only [Bool.not_false, if_true, Option.bind_some, first_f]
  by_cases h2 : (writeV a s n).2.Code = 0
  case neg => rw [decide_eq_true h1, decide_eq_false h2]; simp only [Bool.not_true, Bool.not_false, Bool.false_eq_true, if_false, if_true, Option.bind_some, first_f]
  rw [decide_eq_true h1, decide_eq_true h2]
  obtain ⟨ha, hr0, hr6, e1, hw1, ht1⟩ := writeV_reg h1
  obtain ⟨_, hs0, hs6, e2, hw2, ht2⟩ := writeV_reg h2
  rw [e1, e2]
  simp only [Bool.not_true, Bool.false_eq_true, if_false, Option.bind_some]
  rw [Merge_f, Option.bind_some, ite_dec]
  by_cases hrs : r = s
  · subst hrs
    rw [if_pos rfl]
    by_cases hmn : m = n
    · subst hmn
      obtain ⟨q1, q2⟩ := mrg_self hw1
      rw [mergeV_eq q1, q2]
      have hv := values_f [(⟨m, vecW a r⟩ : VV)] [⟨m, vecW a r⟩] (by simp) (fun x hx => by have := hw1.six x hx; omega)
      simp only [decide_true, Bool.not_true, Bool.false_eq_true, if_false, if_true, Option.bind_some, hv, first_f]
    · have hno : ¬ (mergeV [⟨m, vecW a r⟩] [⟨n, vecW a r⟩]).2.Code = 0 := by
        intro h
        obtain ⟨_, _, hc, _⟩ := mergeV_ok.1 h
        exact hmn (hc ⟨m, vecW a r⟩ (by simp) ⟨n, vecW a r⟩ (by simp) rfl)
      rw [decide_eq_false hno, decide_eq_false hmn]
      simp only [decide_true, Bool.not_false, if_true, Option.bind_some, first_f]
  · rw [if_neg hrs]
    obtain ⟨i, rfl⟩ := Int.eq_ofNat_of_zero_le hr0
    obtain ⟨j, rfl⟩ := Int.eq_ofNat_of_zero_le hs0
    have hi : i < 6 := by omega
    have hj : j < 6 := by omega
    have hne : ∀ {p q : Nat}, p < 6 → (p : Int) ≠ q → covB (vecW a q) (vecW a p) = false := by
      intro p q hp hpq
      cases hc : covB (vecW a q) (vecW a p)
      · rfl
      · have := (covB_iff (by rw [vecW_len, vecW_len])).1 hc p (by rw [vecW_len]; exact hp)
        rw [vecW_at, vecW_at, if_pos rfl, if_neg hpq] at this
        omega
    have c1 := hne hi hrs
    have c2 := hne hj (Ne.symm hrs)
    have hvne : vecW a (i : Int) ≠ vecW a (j : Int) := by intro h; rw [h, covB_refl] at c1; cases c1
    have hc : Agr [⟨m, vecW a i⟩] [⟨n, vecW a j⟩] := by
      intro x hx v hv he
      simp only [List.mem_singleton] at hx hv
      subst hx; subst hv
      exact absurd he hvne
    have hmem : ∀ z : VV, mset [⟨m, vecW a i⟩] [⟨n, vecW a j⟩] z ↔ z = ⟨m, vecW a i⟩ ∨ z = ⟨n, vecW a j⟩ := by
      intro z
      constructor
      · rintro ⟨h, _⟩; simpa using h
      · intro h
        refine ⟨by simpa using h, fun x hx hcv => ?_⟩
        simp only [List.mem_singleton] at hx
        rcases h with rfl | rfl <;> rcases hx with rfl | rfl
        · rfl
        · simp only at hcv; rw [c1] at hcv; cases hcv
        · simp only at hcv; rw [c2] at hcv; cases hcv
        · rfl
    have hS : ∃ l, MSpec [⟨m, vecW a i⟩] [⟨n, vecW a j⟩] l ∧ l.length = 2 := by
      by_cases hlx : lexB (vecW a (i : Int)) (vecW a (j : Int)) = true
      · exact ⟨[⟨m, vecW a i⟩, ⟨n, vecW a j⟩], ⟨by simp [hlx], fun z => by rw [hmem]; simp⟩, rfl⟩
      · have : lexB (vecW a (j : Int)) (vecW a (i : Int)) = true := by
          cases h : lexB (vecW a (j : Int)) (vecW a (i : Int))
          · exact absurd (lexB_tri (by rw [vecW_len, vecW_len]) (by simpa using hlx) h) hvne
          · rfl
        exact ⟨[⟨n, vecW a j⟩, ⟨m, vecW a i⟩], ⟨by simp [this], fun z => by rw [hmem]; simp [or_comm]⟩, rfl⟩
    obtain ⟨l, hl, hlen⟩ := hS
    have e := mrg_eq hw1 hw2 hc hl
    have hok : (mergeV [⟨m, vecW a i⟩] [⟨n, vecW a j⟩]).2.Code = 0 := mergeV_ok.2 ⟨hw1, hw2, hc, by rw [e]; omega⟩
    rw [mergeV_eq hok, e]
    have hval : vfault l = ⟨0, 0⟩ := (vreg_iff l).1 (hl.reg hw1 hw2 (by omega))
    simp only [decide_true, if_true, Option.bind_some, Validate_f, hval, first_f]
    rw [decide_eq_true (show (l.length : Int) = 2 by omega)]
    simp
end Go.Dc
