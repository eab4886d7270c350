/- Merging registers: what the program's Merge gives. -/
import Derived.Test.YtladljignaanfaaDcMD
set_option linter.unusedSimpArgs false
set_option linter.unusedVariables false
namespace Go.Dc
open Go

def mset (a b : List VV) (z : VV) : Prop := (z ∈ a ∨ z ∈ b) ∧ ∀ x, (x ∈ a ∨ x ∈ b) → covB x.Vector z.Vector = true → x.Vector = z.Vector
noncomputable def mrg (a b : List VV) : List VV := dd ((leftF a b ++ leftF b a).mergeSort fun x y => !ltM multivalue_Merge_s1 y x)
noncomputable def mergeV (a b : List VV) : List VV × Fault :=
  if (vfault a).Code ≠ 0 then ([], vfault a) else if (vfault b).Code ≠ 0 then ([], ⟨(vfault b).Code, -2⟩)
  else match scn (cfG a) 0 b with
    | some r => r
    | Option.none => if (mrg a b).length > 16 then ([], ⟨10, -1⟩) else (mrg a b, ⟨0, 0⟩)

theorem pw_cases {l : List VV} {R : VV → VV → Prop} (h : l.Pairwise R) {x y : VV} (hx : x ∈ l) (hy : y ∈ l) : x = y ∨ R x y ∨ R y x := by
  obtain ⟨i, hi, rfl⟩ := List.getElem_of_mem hx
  obtain ⟨j, hj, rfl⟩ := List.getElem_of_mem hy
  rcases Nat.lt_trichotomy i j with h1 | h1 | h1
  · exact .inr (.inl ((List.pairwise_iff_getElem.1 h) i j hi hj h1))
  · subst h1; exact .inl rfl
  · exact .inr (.inr ((List.pairwise_iff_getElem.1 h) j i hj hi h1))

theorem VReg.inj {l : List VV} (h : VReg l) {x y : VV} (hx : x ∈ l) (hy : y ∈ l) (he : x.Vector = y.Vector) : x = y := by
  rcases pw_cases h.lex hx hy with h1 | h1 | h1
  · exact h1
  · exact absurd he (lexB_ne h1)
  · exact absurd he.symm (lexB_ne h1)

theorem VReg.cov {l : List VV} (h : VReg l) {x y : VV} (hx : x ∈ l) (hy : y ∈ l) (he : covB x.Vector y.Vector = true) : x = y := by
  rcases pw_cases h.inc hx hy with h1 | h1 | h1
  · exact h1
  · rw [h1.1] at he; cases he
  · rw [h1.2] at he; cases he

/-- no two values at one vector -/
def Agr (a b : List VV) : Prop := ∀ x, x ∈ a → ∀ v, v ∈ b → x.Vector = v.Vector → x.Value = v.Value

theorem union_inj {a b : List VV} (ha : VReg a) (hb : VReg b) (hc : Agr a b) {x y : VV} (hx : x ∈ a ∨ x ∈ b) (hy : y ∈ a ∨ y ∈ b) (he : x.Vector = y.Vector) : x = y := by
  have key : ∀ x y : VV, x.Vector = y.Vector → x.Value = y.Value → x = y := by
    intro x y h1 h2
    cases x; cases y
    simp only at h1 h2
    rw [h1, h2]
  rcases hx with hx | hx <;> rcases hy with hy | hy
  · exact ha.inj hx hy he
  · exact key _ _ he (hc x hx y hy he)
  · exact key _ _ he (hc y hy x hx he.symm).symm
  · exact hb.inj hx hy he

theorem mem_left {a b : List VV} {z : VV} : z ∈ leftF a b ↔ z ∈ a ∧ ∀ x ∈ b, covB x.Vector z.Vector = true → x.Vector = z.Vector := by
  unfold leftF
  rw [List.mem_filter, Bool.not_eq_true', List.any_eq_false]
  constructor
  · rintro ⟨h1, h2⟩
    refine ⟨h1, fun x hx hc => ?_⟩
    have := h2 x hx
    unfold supB at this
    rw [hc, Bool.true_and] at this
    simpa using this
  · rintro ⟨h1, h2⟩
    refine ⟨h1, fun x hx => ?_⟩
    unfold supB
    intro h
    rw [Bool.and_eq_true] at h
    have := h2 x hx h.1
    rw [decide_eq_true this] at h
    cases h.2

theorem mem_both {a b : List VV} (ha : VReg a) (hb : VReg b) {z : VV} : (z ∈ leftF a b ∨ z ∈ leftF b a) ↔ mset a b z := by
  rw [mem_left, mem_left]
  constructor
  · rintro (⟨h1, h2⟩ | ⟨h1, h2⟩)
    · refine ⟨.inl h1, fun x hx hc => ?_⟩
      rcases hx with hx | hx
      · rw [ha.cov hx h1 hc]
      · exact h2 x hx hc
    · refine ⟨.inr h1, fun x hx hc => ?_⟩
      rcases hx with hx | hx
      · exact h2 x hx hc
      · rw [hb.cov hx h1 hc]
  · rintro ⟨h1 | h1, h2⟩
    · exact .inl ⟨h1, fun x hx => h2 x (.inr hx)⟩
    · exact .inr ⟨h1, fun x hx => h2 x (.inl hx)⟩

theorem ddq_spec : ∀ (l : List VV) (p : VV), p.Vector.length = 6 → (∀ y ∈ l, y.Vector.length = 6) → (∀ y ∈ l, lexB y.Vector p.Vector = false) → l.Pairwise (fun x y => lexB y.Vector x.Vector = false) → (∀ x ∈ l, ∀ y ∈ l, x.Vector = y.Vector → x = y) →
    (ddq p.Vector l).Pairwise (fun x y => lexB x.Vector y.Vector = true) ∧ (∀ z ∈ ddq p.Vector l, lexB p.Vector z.Vector = true) ∧ ∀ z, z ∈ ddq p.Vector l ↔ z ∈ l ∧ z.Vector ≠ p.Vector
  | [], p, _, _, _, _, _ => by simp [ddq]
  | y :: r, p, hp, h6, hge, hs, hinj => by
    rw [List.pairwise_cons] at hs
    have h6r : ∀ z ∈ r, z.Vector.length = 6 := fun z hz => h6 z (by simp [hz])
    have hinjr : ∀ x ∈ r, ∀ z ∈ r, x.Vector = z.Vector → x = z := fun x hx z hz => hinj x (by simp [hx]) z (by simp [hz])
    rw [ddq]
    by_cases h : y.Vector = p.Vector
    · rw [if_pos h]
      obtain ⟨h1, h2, h3⟩ := ddq_spec r p hp h6r (fun z hz => hge z (by simp [hz])) hs.2 hinjr
      refine ⟨h1, h2, fun z => ?_⟩
      rw [h3, List.mem_cons]
      constructor
      · rintro ⟨a, b⟩; exact ⟨.inr a, b⟩
      · rintro ⟨rfl | a, b⟩
        · exact absurd h b
        · exact ⟨a, b⟩
    · rw [if_neg h]
      have hy6 := h6 y (by simp)
      obtain ⟨h1, h2, h3⟩ := ddq_spec r y hy6 h6r (fun z hz => hs.1 z hz) hs.2 hinjr
      have hpy : lexB p.Vector y.Vector = true := by
        cases hc : lexB p.Vector y.Vector
        · exact absurd (lexB_tri (by rw [hy6, hp]) (hge y (by simp)) hc) h
        · rfl
      refine ⟨List.pairwise_cons.2 ⟨h2, h1⟩, ?_, fun z => ?_⟩
      · intro z hz
        rcases List.mem_cons.1 hz with rfl | hz
        · exact hpy
        · exact lexB_trans (by rw [hp, hy6]) hpy (h2 z hz)
      · rw [List.mem_cons, h3, List.mem_cons]
        constructor
        · rintro (rfl | ⟨a, b⟩)
          · exact ⟨.inl rfl, h⟩
          · refine ⟨.inr a, fun e => ?_⟩
            have h4 := h2 z ((h3 z).2 ⟨a, b⟩)
            rw [e] at h4
            rw [lexB_asymm (by rw [hp, hy6]) hpy] at h4; cases h4
        · rintro ⟨rfl | a, b⟩
          · exact .inl rfl
          · by_cases e : z.Vector = y.Vector
            · exact .inl (hinj z (by simp [a]) y (by simp) e)
            · exact .inr ⟨a, e⟩

theorem dd_spec {l : List VV} (h6 : ∀ y ∈ l, y.Vector.length = 6) (hs : l.Pairwise (fun x y => lexB y.Vector x.Vector = false)) (hinj : ∀ x ∈ l, ∀ y ∈ l, x.Vector = y.Vector → x = y) :
    (dd l).Pairwise (fun x y => lexB x.Vector y.Vector = true) ∧ ∀ z, z ∈ dd l ↔ z ∈ l := by
  cases l with
  | nil => simp [dd]
  | cons x r =>
    rw [List.pairwise_cons] at hs
    obtain ⟨h1, h2, h3⟩ := ddq_spec r x (h6 x (by simp)) (fun z hz => h6 z (by simp [hz])) hs.1 hs.2 (fun a ha b hb => hinj a (by simp [ha]) b (by simp [hb]))
    rw [dd]
    refine ⟨List.pairwise_cons.2 ⟨h2, h1⟩, fun z => ?_⟩
    rw [List.mem_cons, h3, List.mem_cons]
    constructor
    · rintro (rfl | ⟨a, _⟩)
      · exact .inl rfl
      · exact .inr a
    · rintro (rfl | a)
      · exact .inl rfl
      · by_cases e : z.Vector = x.Vector
        · exact .inl (hinj z (by simp [a]) x (by simp) e)
        · exact .inr ⟨a, e⟩

theorem s1_f {x y : VV} (hx : x.Vector.length = 6) (hy : y.Vector.length = 6) : multivalue_Merge_s1 x y = some (cmpL x.Vector y.Vector) := by
  unfold multivalue_Merge_s1
  rw [compare_f (by omega) (by omega), Option.bind_some]

theorem lt_f {x y : VV} (hx : x.Vector.length = 6) (hy : y.Vector.length = 6) : ltM multivalue_Merge_s1 x y = lexB x.Vector y.Vector := by
  unfold ltM
  rw [s1_f hx hy, Option.getD_some, cmpL_neg]

theorem lexB_ntrans {a b c : List Int} (h1 : a.length = b.length) (h2 : b.length = c.length) (h : lexB a b = false) (h' : lexB b c = false) : lexB a c = false := by
  cases hc : lexB a c
  · rfl
  · cases hb : lexB b a
    · have := lexB_tri h1 h hb
      subst this; rw [hc] at h'; cases h'
    · have := lexB_trans h1.symm hb hc
      rw [this] at h'; cases h'

theorem fit {l : List VV} (h6 : ∀ y ∈ l, y.Vector.length = 6) (hinj : ∀ x ∈ l, ∀ y ∈ l, x.Vector = y.Vector → x = y) : CmpFit multivalue_Merge_s1 l where
  some_ := fun x hx y hy => ⟨_, s1_f (h6 x hx) (h6 y hy)⟩
  irrefl := fun x hx => by rw [lt_f (h6 x hx) (h6 x hx)]; exact lexB_irr _
  trans := fun x hx y hy z hz h1 h2 => by
    rw [lt_f (h6 x hx) (h6 y hy)] at h1
    rw [lt_f (h6 y hy) (h6 z hz)] at h2
    rw [lt_f (h6 x hx) (h6 z hz)]
    exact lexB_trans (by rw [h6 x hx, h6 y hy]) h1 h2
  ntrans := fun x hx y hy z hz h1 h2 => by
    rw [lt_f (h6 x hx) (h6 y hy)] at h1
    rw [lt_f (h6 y hy) (h6 z hz)] at h2
    rw [lt_f (h6 x hx) (h6 z hz)]
    exact lexB_ntrans (by rw [h6 x hx, h6 y hy]) (by rw [h6 y hy, h6 z hz]) h1 h2
  anti := fun x hx y hy h1 h2 => by
    rw [lt_f (h6 x hx) (h6 y hy)] at h1
    rw [lt_f (h6 y hy) (h6 x hx)] at h2
    exact hinj x hx y hy (lexB_tri (by rw [h6 x hx, h6 y hy]) h1 h2)

structure MSpec (a b l : List VV) : Prop where
  lex : l.Pairwise fun x y => lexB x.Vector y.Vector = true
  mem : ∀ z, z ∈ l ↔ mset a b z

section
variable {a b : List VV} (ha : VReg a) (hb : VReg b) (hc : Agr a b) include ha hb hc

theorem lefts : (∀ y ∈ leftF a b ++ leftF b a, y.Vector.length = 6) ∧ (∀ x ∈ leftF a b ++ leftF b a, ∀ y ∈ leftF a b ++ leftF b a, x.Vector = y.Vector → x = y) := by
  have hm : ∀ y ∈ leftF a b ++ leftF b a, y ∈ a ∨ y ∈ b := by
    intro y hy
    rw [List.mem_append, mem_both ha hb] at hy
    exact hy.1
  refine ⟨fun y hy => ?_, fun x hx y hy => union_inj ha hb hc (hm x hx) (hm y hy)⟩
  rcases hm y hy with h | h
  · exact ha.six y h
  · exact hb.six y h

theorem mrg_spec : MSpec a b (mrg a b) := by
  obtain ⟨h6, hinj⟩ := lefts ha hb hc
  have hp := List.mergeSort_perm (leftF a b ++ leftF b a) fun x y => !ltM multivalue_Merge_s1 y x
  have hs := sortM_pw (fit h6 hinj)
  unfold mrg
  generalize (leftF a b ++ leftF b a).mergeSort (fun x y => !ltM multivalue_Merge_s1 y x) = M at hp hs ⊢
  have h6' : ∀ y ∈ M, y.Vector.length = 6 := fun y hy => h6 y (hp.mem_iff.1 hy)
  obtain ⟨h1, h2⟩ := dd_spec h6' (hs.imp_of_mem (fun {x y} hx hy h => by rw [lt_f (h6' y hy) (h6' x hx)] at h; exact h)) (fun x hx y hy => hinj x (hp.mem_iff.1 hx) y (hp.mem_iff.1 hy))
  refine ⟨h1, fun z => ?_⟩
  rw [h2, hp.mem_iff, List.mem_append, mem_both ha hb]
end

theorem scn_first {α ρ : Type} {g : Nat → α → Option ρ} : ∀ {l : List α} {k j : Nat} {y : ρ} (h : j < l.length), g (k + j) l[j] = some y → (∀ i (hi : i < l.length), i < j → g (k + i) l[i] = Option.none) → scn g k l = some y
  | [], k, j, y, h, _, _ => by simp at h
  | x :: r, k, j, y, h, hg, hn => by
    rw [scn]
    cases j with
    | zero => rw [Nat.add_zero, List.getElem_cons_zero] at hg; rw [hg]
    | succ j =>
      have h0 := hn 0 (by simp) (by omega)
      rw [Nat.add_zero, List.getElem_cons_zero] at h0
      rw [h0]
      simp only
      refine scn_first (j := j) (by simpa using h) ?_ ?_
      · rw [List.getElem_cons_succ] at hg; rw [← hg]; congr 1; omega
      · intro i hi hij
        have := hn (i + 1) (by simpa using hi) (by omega)
        rw [List.getElem_cons_succ] at this
        rw [← this]; congr 1; omega

theorem agr_iff {a b : List VV} : scn (cfG a) 0 b = Option.none ↔ Agr a b := by
  rw [scn_none]
  constructor
  · intro h x hx v hv he
    obtain ⟨j, hj, rfl⟩ := List.getElem_of_mem hv
    have := h j hj
    unfold cfG at this
    split at this
    · cases this
    · rename_i hn
      simp only [Bool.not_eq_true] at hn
      rw [List.any_eq_false] at hn
      have := hn x hx
      unfold sameX at this
      rw [decide_eq_true he, Bool.true_and] at this
      simpa using this
  · intro h j hj
    unfold cfG
    rw [if_neg]
    simp only [Bool.not_eq_true]
    rw [List.any_eq_false]
    intro x hx
    unfold sameX
    intro hs
    rw [Bool.and_eq_true] at hs
    have := h x hx _ (List.getElem_mem hj) (of_decide_eq_true hs.1)
    rw [decide_eq_true this] at hs
    cases hs.2

theorem Merge_f (a b : List VV) : multivalue_Merge a b = some (mergeV a b) := by
  unfold multivalue_Merge mergeV
  rw [Validate_f, Option.bind_some, fault_cond _ (vfault_code a), ite_dec]
  by_cases h0 : (vfault a).Code ≠ 0
  · rw [if_pos h0, if_pos h0]
  rw [if_neg h0, if_neg h0, Validate_f, Option.bind_some, fault_cond _ (vfault_code b), ite_dec]
  by_cases h1 : (vfault b).Code ≠ 0
  · rw [if_pos h1, if_pos h1]
  rw [if_neg h1, if_neg h1]
  have ha : VReg a := (vreg_iff a).2 ((vfault_code a).resolve_right h0)
  have hb : VReg b := (vreg_iff b).2 ((vfault_code b).resolve_right h1)
  have hla := ha.len
  have hlb := hb.len
  rw [scn_loop (f := fun s => multivalue_Merge.l3 a b s) Sum.inl (.inr ()) b (cfG a) ?_ ?_, Option.bind_some]
  · cases hs : scn (cfG a) 0 b with
    | some r => rfl
    | none =>
      have hc := agr_iff.1 hs
      simp only
      unfold multivalue_Merge.j1
      have hll : (leftF a b).length ≤ 16 := Nat.le_trans (List.length_filter_le _ _) hla
      have hlr : (leftF b a).length ≤ 16 := Nat.le_trans (List.length_filter_le _ _) hlb
      obtain ⟨h6, hinj⟩ := lefts ha hb hc
      rw [left_f ha hb, Option.bind_some, left_f hb ha, Option.bind_some, app_eq (by omega), Option.bind_some, sortM_eq (fit h6 hinj) (by simp; omega), Option.bind_some]
      have hp := List.mergeSort_perm (leftF a b ++ leftF b a) fun x y => !ltM multivalue_Merge_s1 y x
      refine Eq.trans (compact_f (by rw [hp.length_eq]; simp; omega) (fun v hv => h6 v (hp.mem_iff.1 hv))) ?_
      show multivalue_Merge.j2 (mrg a b) = _
      generalize mrg a b = M
      unfold multivalue_Merge.j2
      rw [ite_dec]
      by_cases h : M.length > 16
      · rw [if_pos (by omega), if_pos h]
      · rw [if_neg (by omega), if_neg h]
  · intro k h _
    unfold multivalue_Merge.l3 cfG
    rw [ite_dec, if_pos (by omega), at_nat h, Option.bind_some]
    rw [any_loopC (f := fun s => multivalue_Merge.l4 a (k : Int) b[k] s) (.inl ([], ⟨19, (k : Int)⟩)) (.inr ()) a (sameX b[k]) ?_ ?_, Option.bind_some]
    · by_cases hs : a.any (sameX b[k]) = true
      · rw [if_pos hs, if_pos hs]
      · rw [if_neg hs, if_neg hs]
        unfold multivalue_Merge.j8 multivalue_Merge.j7
        simp only
        rw [ck_eq (by omega) (by omega), Option.bind_some]; rfl
    · intro j hj
      have hx := ha.six _ (List.getElem_mem hj)
      unfold multivalue_Merge.l4 sameX
      rw [ite_dec, if_pos (by omega), at_nat hj, Option.bind_some, sEqual_f _ _ (by omega), Option.bind_some]
      by_cases hv : a[j].Vector = b[k].Vector
      · rw [decide_eq_true hv, if_pos rfl, Option.bind_some, Bool.true_and]
        by_cases hw : a[j].Value = b[k].Value
        · rw [if_neg (by simpa using hw), if_neg (by simpa using hw), ck_eq (by omega) (by omega), Option.bind_some]; rfl
        · rw [if_pos (by simpa using hw), if_pos (by simpa using hw)]
      · rw [decide_eq_false hv, if_neg Bool.false_ne_true, Option.bind_some, if_neg Bool.false_ne_true, Bool.false_and, if_neg Bool.false_ne_true, ck_eq (by omega) (by omega), Option.bind_some]; rfl
    · unfold multivalue_Merge.l4
      rw [ite_dec, if_neg (by omega)]
  · unfold multivalue_Merge.l3
    rw [ite_dec, if_neg (by omega)]

/-! one list for one set -/
theorem lex_uniq : ∀ {l m : List VV}, (∀ x ∈ l, x.Vector.length = 6) → (∀ x ∈ m, x.Vector.length = 6) → l.Pairwise (fun x y => lexB x.Vector y.Vector = true) → m.Pairwise (fun x y => lexB x.Vector y.Vector = true) → (∀ z, z ∈ l ↔ z ∈ m) → l = m
  | [], [], _, _, _, _, _ => rfl
  | [], y :: m, _, _, _, _, h => by have := (h y).2 (by simp); cases this
  | x :: l, [], _, _, _, _, h => by have := (h x).1 (by simp); cases this
  | x :: l, y :: m, h6, h6', hl, hm, h => by
    rw [List.pairwise_cons] at hl hm
    have e : x = y := by
      rcases List.mem_cons.1 ((h x).1 (by simp)) with e | hx
      · exact e
      · rcases List.mem_cons.1 ((h y).2 (by simp)) with e | hy
        · exact e.symm
        · have h1 := hm.1 x hx
          have h2 := hl.1 y hy
          rw [lexB_asymm (by rw [h6 x (by simp), h6' y (by simp)]) h2] at h1; cases h1
    subst e
    rw [lex_uniq (fun z hz => h6 z (by simp [hz])) (fun z hz => h6' z (by simp [hz])) hl.2 hm.2 (fun z => ?_)]
    constructor
    · intro hz
      rcases List.mem_cons.1 ((h z).1 (by simp [hz])) with rfl | h1
      · have := hl.1 z hz; rw [lexB_irr] at this; cases this
      · exact h1
    · intro hz
      rcases List.mem_cons.1 ((h z).2 (by simp [hz])) with rfl | h1
      · have := hm.1 z hz; rw [lexB_irr] at this; cases this
      · exact h1

theorem MSpec.six {a b l : List VV} (ha : VReg a) (hb : VReg b) (h : MSpec a b l) : ∀ x ∈ l, x.Vector.length = 6 := fun x hx => by
  rcases ((h.mem x).1 hx).1 with h1 | h1
  · exact ha.six x h1
  · exact hb.six x h1

theorem MSpec.uniq {a b l m : List VV} (ha : VReg a) (hb : VReg b) (hl : MSpec a b l) (hm : MSpec a b m) : l = m :=
  lex_uniq (hl.six ha hb) (hm.six ha hb) hl.lex hm.lex fun z => by rw [hl.mem, hm.mem]

theorem MSpec.reg {a b l : List VV} (ha : VReg a) (hb : VReg b) (h : MSpec a b l) (h16 : l.length ≤ 16) : VReg l where
  len := h16
  six := h.six ha hb
  val := fun x hx => by
    rcases ((h.mem x).1 hx).1 with h1 | h1
    · exact ha.val x h1
    · exact hb.val x h1
  rng := fun x hx => by
    rcases ((h.mem x).1 hx).1 with h1 | h1
    · exact ha.rng x h1
    · exact hb.rng x h1
  nz := fun x hx => by
    rcases ((h.mem x).1 hx).1 with h1 | h1
    · exact ha.nz x h1
    · exact hb.nz x h1
  lex := h.lex
  inc := h.lex.imp_of_mem fun {x y} hx hy hxy => by
    obtain ⟨hx1, hx2⟩ := (h.mem x).1 hx
    obtain ⟨hy1, hy2⟩ := (h.mem y).1 hy
    constructor
    · cases hc : covB x.Vector y.Vector
      · rfl
      · exact absurd (hy2 x hx1 hc) (lexB_ne hxy)
    · cases hc : covB y.Vector x.Vector
      · rfl
      · exact absurd (hx2 y hy1 hc).symm (lexB_ne hxy)

/-- when a merge is without fault -/
theorem mergeV_ok {a b : List VV} : (mergeV a b).2.Code = 0 ↔ VReg a ∧ VReg b ∧ Agr a b ∧ (mrg a b).length ≤ 16 := by
  unfold mergeV
  by_cases h0 : (vfault a).Code ≠ 0
  · rw [if_pos h0]
    exact ⟨fun h => absurd h h0, fun h => absurd (by rw [(vreg_iff a).1 h.1]) h0⟩
  rw [if_neg h0]
  by_cases h1 : (vfault b).Code ≠ 0
  · rw [if_pos h1]
    exact ⟨fun h => absurd h h1, fun h => absurd (by rw [(vreg_iff b).1 h.2.1]) h1⟩
  rw [if_neg h1]
  have ha : VReg a := (vreg_iff a).2 ((vfault_code a).resolve_right h0)
  have hb : VReg b := (vreg_iff b).2 ((vfault_code b).resolve_right h1)
  cases hs : scn (cfG a) 0 b with
  | some r =>
    constructor
    · intro h
      obtain ⟨j, hj, he⟩ := scn_some hs
      unfold cfG at he
      split at he
      · cases he; cases h
      · cases he
    · rintro ⟨_, _, h, _⟩
      rw [agr_iff.2 h] at hs; cases hs
  | none =>
    simp only
    by_cases h : (mrg a b).length > 16
    · rw [if_pos h]
      constructor
      · intro h; cases h
      · rintro ⟨_, _, _, h'⟩; omega
    · rw [if_neg h]
      exact ⟨fun _ => ⟨ha, hb, agr_iff.1 hs, by omega⟩, fun _ => rfl⟩

theorem mergeV_eq {a b : List VV} (h : (mergeV a b).2.Code = 0) : mergeV a b = (mrg a b, ⟨0, 0⟩) := by
  obtain ⟨ha, hb, hc, hl⟩ := mergeV_ok.1 h
  unfold mergeV
  rw [(vreg_iff a).1 ha, (vreg_iff b).1 hb, agr_iff.2 hc]
  simp only
  rw [if_neg (by simp), if_neg (by simp), if_neg (by omega)]
end Go.Dc
