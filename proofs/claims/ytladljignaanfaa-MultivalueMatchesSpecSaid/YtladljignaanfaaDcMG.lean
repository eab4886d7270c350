/- Merging registers: the document's MergedValues gives what the program's Merge gives; Covers. -/
import Derived.Test.YtladljignaanfaaDcMF
set_option linter.unusedSimpArgs false
set_option linter.unusedVariables false
namespace Go.Dc
open Go

section
variable (a : List VV) (L : List VV)

def cnf (i k : Nat) : Prop := k < i ∧ ∃ (h : k < L.length) (h' : i < L.length), L[k].Vector = L[i].Vector ∧ L[k].Value ≠ L[i].Value
def drp (i k : Nat) : Prop := ∃ (h : k < L.length) (h' : i < L.length), (L[k].Vector = L[i].Vector ∧ k < i) ∨ (covB L[k].Vector L[i].Vector = true ∧ L[k].Vector ≠ L[i].Vector)
end

theorem inner_f {a L : List VV} (hL : L.length ≤ 1000) (hal : a.length ≤ 1000) (h6 : ∀ v ∈ L, v.Vector.length = 6) {i : Nat} (hi : i < L.length) :
    ∃ r, iter (fun s => changeforgeref2_MergedValues.l3 a L (i : Int) s.1 s.2) (0, true) = some r ∧
      ((r = .inl ([], ⟨19, (i : Int) - a.length⟩) ∧ ∃ k, cnf L i k) ∨ (∃ t, r = .inr t ∧ (∀ k, ¬ cnf L i k) ∧ (t = true ↔ ∀ k, ¬ drp L i k))) := by
  obtain ⟨r, e, h⟩ := inv_loopE (f := fun s => changeforgeref2_MergedValues.l3 a L (i : Int) s.1 s.2) 0 L.length (Nat.zero_le _) (fun k t => (∀ j, j < k → ¬ cnf L i j) ∧ (t = true ↔ ∀ j, j < k → ¬ drp L i j))
    (fun r => (r = .inl ([], ⟨19, (i : Int) - a.length⟩) ∧ ∃ k, cnf L i k) ∨ (∃ t, r = .inr t ∧ (∀ k, ¬ cnf L i k) ∧ (t = true ↔ ∀ k, ¬ drp L i k))) (by
    rintro k t _ hk ⟨hc, ht⟩
    have hk6 := h6 _ (List.getElem_mem hk)
    have hi6 := h6 _ (List.getElem_mem hi)
    have hrel : changeforgeref2_Relation L[k].Vector L[i].Vector = some (covB L[k].Vector L[i].Vector, covB L[i].Vector L[k].Vector) := relation_f (by omega) (by omega)
    have heq : (covB L[k].Vector L[i].Vector && covB L[i].Vector L[k].Vector) = decide (L[k].Vector = L[i].Vector) := by
      by_cases h : L[k].Vector = L[i].Vector
      · rw [h, covB_refl, decide_eq_true rfl]; rfl
      · rw [decide_eq_false h]
        cases h1 : covB L[k].Vector L[i].Vector
        · rfl
        · cases h2 : covB L[i].Vector L[k].Vector
          · rfl
          · exact absurd (covB_anti (by omega) h1 h2) h
    have nxt : ∀ t' : Bool, (t' = true ↔ t = true ∧ ¬ drp L i k) → ¬ cnf L i k → (∃ s', some (Step.next (((k : Int) + 1), t') : Step (Int × Bool) (((List VV) × Fault) ⊕ Bool)) = some (.next (((k + 1 : Nat) : Int), s')) ∧ (∀ j, j < k + 1 → ¬ cnf L i j) ∧ (s' = true ↔ ∀ j, j < k + 1 → ¬ drp L i j)) := by
      intro t' h1 h2
      refine ⟨t', rfl, fun j hj => ?_, ?_⟩
      · by_cases hjk : j = k
        · rw [hjk]; exact h2
        · exact hc j (by omega)
      · rw [h1, ht]
        constructor
        · rintro ⟨h3, h4⟩ j hj
          by_cases hjk : j = k
          · rw [hjk]; exact h4
          · exact h3 j (by omega)
        · intro h3; exact ⟨fun j hj => h3 j (by omega), h3 k (by omega)⟩
    unfold changeforgeref2_MergedValues.l3
    simp only
    rw [ite_dec, if_pos (by omega), at_nat hk, Option.bind_some, at_nat hi, Option.bind_some, hrel, Option.bind_some]
    simp only
    have e1 : (if covB L[k].Vector L[i].Vector = true then some (covB L[i].Vector L[k].Vector) else some false) = some (decide (L[k].Vector = L[i].Vector)) := by
      rw [← heq]
      cases covB L[k].Vector L[i].Vector <;> rfl
    rw [e1, Option.bind_some]
    have e2 : (if decide (L[k].Vector = L[i].Vector) = true then some (decide ((k : Int) < (i : Int))) else some false) = some (decide (L[k].Vector = L[i].Vector ∧ k < i)) := by
      by_cases h : L[k].Vector = L[i].Vector
      · by_cases h2 : k < i
        · simp [h, h2]
        · simp [h, h2]
      · simp [h]
    rw [e2, Option.bind_some, ite_dec]
    unfold changeforgeref2_MergedValues.j6 changeforgeref2_MergedValues.j5 changeforgeref1_At
    simp only
    have hck : ckK .i64 ((k : Int) + 1) = some ((k : Int) + 1) := ck_eq (by omega) (by omega)
    have e3 : (if covB L[k].Vector L[i].Vector = true then some (!covB L[i].Vector L[k].Vector) else some false) = some (decide (covB L[k].Vector L[i].Vector = true ∧ L[k].Vector ≠ L[i].Vector)) := by
      by_cases h : L[k].Vector = L[i].Vector
      · simp [h, covB_refl]
      · have h' := heq
        rw [decide_eq_false h] at h'
        cases h1 : covB L[k].Vector L[i].Vector
        · simp
        · rw [h1, Bool.true_and] at h'
          simp [h, h']
    rw [e3]
    simp only [Option.bind_some, hck]
    by_cases h1 : L[k].Vector = L[i].Vector ∧ k < i
    · rw [if_pos h1, ite_ndec]
      by_cases h2 : L[k].Value = L[i].Value
      · rw [if_pos h2]
        left
        have hd : drp L i k := ⟨hk, hi, .inl h1⟩
        have hnc : ¬ cnf L i k := fun ⟨_, _, _, _, h3⟩ => h3 h2
        have := nxt false (by simp [hd]) hnc
        by_cases h3 : covB L[k].Vector L[i].Vector = true ∧ L[k].Vector ≠ L[i].Vector
        · exact absurd h1.1 h3.2
        · rw [decide_eq_false h3, if_neg Bool.false_ne_true]; exact this
      · rw [if_neg h2, ck_eq (by omega) (by omega), Option.bind_some]
        right
        exact ⟨_, rfl, .inl ⟨rfl, k, h1.2, hk, hi, h1.1, h2⟩⟩
    · rw [if_neg h1]
      left
      have hnc : ¬ cnf L i k := fun ⟨h3, _, _, h4, _⟩ => h1 ⟨h4, h3⟩
      by_cases h3 : covB L[k].Vector L[i].Vector = true ∧ L[k].Vector ≠ L[i].Vector
      · have hd : drp L i k := ⟨hk, hi, .inr h3⟩
        rw [decide_eq_true h3, if_pos rfl]
        exact nxt false (by simp [hd]) hnc
      · have hd : ¬ drp L i k := by
          rintro ⟨_, _, h4 | h4⟩
          · exact h1 h4
          · exact h3 h4
        rw [decide_eq_false h3, if_neg Bool.false_ne_true]
        exact nxt t (by simp [hd]) hnc) (by
    rintro t ⟨hc, ht⟩
    unfold changeforgeref2_MergedValues.l3
    simp only
    rw [ite_dec, if_neg (by omega)]
    refine ⟨_, rfl, .inr ⟨t, rfl, fun k hk => hc k hk.2.1 hk, ?_⟩⟩
    rw [ht]
    exact ⟨fun h k hk => h k hk.1 hk, fun h k _ => h k⟩) true ⟨fun j hj => absurd hj (by omega), ⟨fun _ j hj => absurd hj (by omega), fun _ => rfl⟩⟩
  exact ⟨r, e, h⟩

/-- putting a value into its place -/
theorem ins_f {L : List VV} {i : Nat} (hi : i < L.length) {out : List VV} (hlen : out.length ≤ 1000) (h6 : ∀ v ∈ out, v.Vector.length = 6) (hz6 : L[i].Vector.length = 6) (hs : out.Pairwise fun x y => lexB x.Vector y.Vector = true) (hne : ∀ x ∈ out, x.Vector ≠ L[i].Vector) :
    ∃ r, iter (fun s => changeforgeref2_MergedValues.l2 L (i : Int) s.1 s.2) (out ++ [L[i]], (out.length : Int)) = some r ∧
      ∃ p : Nat, r.2 = p ∧ p < r.1.length ∧ (r.1.set p L[i]).Pairwise (fun x y => lexB x.Vector y.Vector = true) ∧ (∀ z, z ∈ r.1.set p L[i] ↔ z ∈ out ∨ z = L[i]) ∧ (r.1.set p L[i]).length = out.length + 1 := by
  obtain ⟨r, e, t, p, rfl, hp, ht, htk, hdp, hgt, hend⟩ := iter_rule (m := fun s => changeforgeref2_MergedValues.l2 L (i : Int) s.1 s.2)
    (fun s => ∃ (t : List VV) (p : Nat), s = (t, (p : Int)) ∧ p ≤ out.length ∧ t.length = out.length + 1 ∧ t.take p = out.take p ∧ t.drop (p + 1) = out.drop p ∧ ∀ x ∈ out.drop p, lexB L[i].Vector x.Vector = true)
    (fun s => s.2.toNat)
    (fun r => ∃ (t : List VV) (p : Nat), r = (t, (p : Int)) ∧ p ≤ out.length ∧ t.length = out.length + 1 ∧ t.take p = out.take p ∧ t.drop (p + 1) = out.drop p ∧ (∀ x ∈ out.drop p, lexB L[i].Vector x.Vector = true) ∧ (p = 0 ∨ ∃ h : p - 1 < out.length, lexB L[i].Vector out[p - 1].Vector = false)) (by
    rintro s ⟨t, p, rfl, hp, ht, htk, hdp, hgt⟩
    unfold changeforgeref2_MergedValues.l2
    simp only
    by_cases h0 : p = 0
    · right
      refine ⟨_, ?_, t, p, rfl, hp, ht, htk, hdp, hgt, .inl h0⟩
      rw [ite_dec, if_neg (by omega), Option.bind_some, if_neg Bool.false_ne_true]
    · have hpo : p - 1 < out.length := by omega
      have htp : t[p - 1]'(by omega) = out[p - 1] := by
        have h1 := List.getElem_take (xs := t) (i := p - 1) (j := p) (h := by rw [List.length_take]; omega)
        have h2 := List.getElem_take (xs := out) (i := p - 1) (j := p) (h := by rw [List.length_take]; omega)
        simp only [htk] at h1
        rw [← h1, ← h2]
      have ho6 := h6 _ (List.getElem_mem hpo)
      rw [ite_dec, if_pos (by omega), at_nat hi, Option.bind_some, ck_eq (by omega) (by omega), Option.bind_some, show ((p : Int) - 1) = ((p - 1 : Nat) : Int) by omega, at_nat (by omega), Option.bind_some, htp, less_f (by omega) (by omega), Option.bind_some, Option.bind_some]
      by_cases hl : lexB L[i].Vector out[p - 1].Vector = true
      · rw [if_pos hl]
        left
        rw [at_nat (by omega), Option.bind_some, at_nat (by omega), Option.bind_some, Option.bind_some, Option.bind_some, Int.toNat_natCast]
        refine ⟨_, rfl, ⟨_, p - 1, rfl, by omega, by simpa using ht, ?_, ?_, ?_⟩, by simp only; omega⟩
        · rw [List.take_set_of_le (by omega)]
          have := congrArg (List.take (p - 1)) htk
          rw [List.take_take, List.take_take, Nat.min_eq_left (by omega)] at this
          exact this
        · have e1 : p - 1 + 1 = p := by omega
          rw [e1, List.drop_eq_getElem_cons (by simp; omega), List.getElem_set_self, List.drop_set_of_lt (by omega), hdp, List.drop_eq_getElem_cons (l := out) (i := p - 1) hpo, e1, htp]
        · intro x hx
          rw [List.drop_eq_getElem_cons hpo] at hx
          rcases List.mem_cons.1 hx with rfl | hx
          · exact hl
          · have e1 : p - 1 + 1 = p := by omega
            rw [e1] at hx
            exact hgt x hx
      · rw [if_neg hl]
        right
        exact ⟨_, rfl, t, p, rfl, hp, ht, htk, hdp, hgt, .inr ⟨hpo, by simpa using hl⟩⟩)
    (out ++ [L[i]], (out.length : Int)) ⟨_, out.length, rfl, Nat.le_refl _, by simp, by simp, by simp, by simp⟩
  refine ⟨_, e, p, rfl, by simp only; omega, ?_⟩
  have hset : t.set p L[i] = out.take p ++ L[i] :: out.drop p := by
    rw [List.set_eq_take_append_cons_drop, if_pos (by omega), htk, hdp]
  simp only
  rw [hset]
  have hlt : ∀ x ∈ out.take p, lexB x.Vector L[i].Vector = true := by
    intro x hx
    rcases hend with h0 | ⟨hpo, hno⟩
    · subst h0; simp at hx
    · have hm := List.getElem_mem hpo
      have hl : lexB out[p - 1].Vector L[i].Vector = true := by
        cases hc : lexB out[p - 1].Vector L[i].Vector
        · exact absurd (lexB_tri (by rw [h6 _ hm, hz6]) hc hno) (hne _ hm)
        · rfl
      obtain ⟨j, hj, rfl⟩ := List.getElem_of_mem hx
      rw [List.length_take] at hj
      rw [List.getElem_take]
      by_cases hjp : j = p - 1
      · subst hjp; exact hl
      · exact lexB_trans (by rw [h6 _ (List.getElem_mem _), h6 _ hm]) ((List.pairwise_iff_getElem.1 hs) j (p - 1) (by omega) hpo (by omega)) hl
  refine ⟨?_, fun z => ?_, ?_⟩
  · rw [List.pairwise_append, List.pairwise_cons]
    refine ⟨hs.sublist (List.take_sublist _ _), ⟨hgt, hs.sublist (List.drop_sublist _ _)⟩, fun x hx y hy => ?_⟩
    rcases List.mem_cons.1 hy with rfl | hy
    · exact hlt x hx
    · exact lexB_trans (by rw [h6 x (List.mem_of_mem_take hx), hz6]) (hlt x hx) (hgt y hy)
  · rw [List.mem_append, List.mem_cons]
    conv => rhs; rw [← List.take_append_drop p out, List.mem_append]
    constructor
    · rintro (h | h | h)
      · exact .inl (.inl h)
      · exact .inr h
      · exact .inl (.inr h)
    · rintro ((h | h) | h)
      · exact .inl h
      · exact .inr (.inr h)
      · exact .inr (.inl h)
  · simp; omega

theorem first_at {L : List VV} {v : List Int} (h : ∃ j, ∃ hj : j < L.length, L[j].Vector = v) : ∃ j, ∃ hj : j < L.length, L[j].Vector = v ∧ ∀ k (hk : k < L.length), k < j → L[k].Vector ≠ v := by
  obtain ⟨j, hj, e⟩ := h
  induction j using Nat.strongRecOn with
  | ind j ih =>
    by_cases hx : ∃ k, k < j ∧ ∃ hk : k < L.length, L[k].Vector = v
    · obtain ⟨k, hkj, hk, e2⟩ := hx
      exact ih k hkj hk e2
    · exact ⟨j, hj, e, fun k hk hkj e2 => hx ⟨k, hkj, hk, e2⟩⟩

theorem Merged_f (a b : List VV) : changeforgeref2_MergedValues a b = some (mergeV a b) := by
  unfold changeforgeref2_MergedValues mergeV
  rw [ValuesFault_f, Option.bind_some, ite_ndec]
  by_cases h0 : (vfault a).Code = 0
  case neg => rw [if_neg h0, if_pos h0]
  rw [if_pos h0, if_neg (show ¬ (vfault a).Code ≠ 0 from fun h => h h0), ValuesFault_f, Option.bind_some, ite_ndec]
  by_cases h1 : (vfault b).Code = 0
  case neg => rw [if_neg h1, if_pos h1]; rfl
  rw [if_pos h1, if_neg (show ¬ (vfault b).Code ≠ 0 from fun h => h h1)]
  have ha : VReg a := (vreg_iff a).2 ((vfault_code a).resolve_right (fun h => h h0))
  have hb : VReg b := (vreg_iff b).2 ((vfault_code b).resolve_right (fun h => h h1))
  have hla := ha.len
  have hlb := hb.len
  rw [app_eq (by simp; omega), Option.bind_some, List.nil_append, app_eq (by omega), Option.bind_some]
  have hL6 : ∀ v ∈ a ++ b, v.Vector.length = 6 := by
    intro v hv
    rcases List.mem_append.1 hv with h | h
    · exact ha.six v h
    · exact hb.six v h
  have hLl : (a ++ b).length ≤ 32 := by rw [List.length_append]; omega
  -- where values disagree
  have hcnf : ∀ i k, cnf (a ++ b) i k → a.length ≤ i ∧ k < a.length := by
    rintro i k ⟨hki, hk, hi, hv, hne⟩
    refine ⟨Nat.not_lt.1 fun hia => ?_, Nat.not_le.1 fun hak => ?_⟩
    · have e1 : (a ++ b)[k] = a[k] := List.getElem_append_left (by omega)
      have e2 : (a ++ b)[i] = a[i] := List.getElem_append_left hia
      rw [e1, e2] at hv hne
      exact hne (by rw [ha.inj (List.getElem_mem _) (List.getElem_mem _) hv])
    · have e1 : (a ++ b)[k] = b[k - a.length]'(by rw [List.length_append] at hk; omega) := List.getElem_append_right hak
      have e2 : (a ++ b)[i] = b[i - a.length]'(by rw [List.length_append] at hi; omega) := List.getElem_append_right (by omega)
      rw [e1, e2] at hv hne
      exact hne (by rw [hb.inj (List.getElem_mem _) (List.getElem_mem _) hv])
  have hany : ∀ j (hj : j < b.length), b[j] = b[j] ∧ (a.any (sameX b[j]) = true ↔ ∃ k, cnf (a ++ b) (a.length + j) k) := by
    intro j hj
    refine ⟨rfl, ?_⟩
    have e2 : (a ++ b)[a.length + j]'(by rw [List.length_append]; omega) = b[j] := by
      rw [List.getElem_append_right (by omega)]; congr 1; omega
    rw [List.any_eq_true]
    constructor
    · rintro ⟨x, hx, hs⟩
      obtain ⟨k, hk, rfl⟩ := List.getElem_of_mem hx
      unfold sameX at hs
      rw [Bool.and_eq_true] at hs
      refine ⟨k, by omega, by rw [List.length_append]; omega, by rw [List.length_append]; omega, ?_, ?_⟩
      · rw [e2, List.getElem_append_left hk]; exact of_decide_eq_true hs.1
      · rw [e2, List.getElem_append_left hk]; simpa using hs.2
    · rintro ⟨k, hc⟩
      obtain ⟨_, hka⟩ := hcnf _ _ hc
      obtain ⟨_, hk, hi, hv, hne⟩ := hc
      rw [e2, List.getElem_append_left hka] at hv hne
      refine ⟨a[k], List.getElem_mem _, ?_⟩
      unfold sameX
      rw [decide_eq_true hv, decide_eq_false hne]; rfl
  obtain ⟨r, e, hr⟩ := inv_loopE (f := fun s => changeforgeref2_MergedValues.l1 a (a ++ b) s.1 s.2) 0 (a ++ b).length (Nat.zero_le _)
    (fun i out => (∀ i', i' < i → ∀ k, ¬ cnf (a ++ b) i' k) ∧ out.length ≤ i ∧ out.Pairwise (fun x y => lexB x.Vector y.Vector = true) ∧ ∀ z, z ∈ out ↔ ∃ i', ∃ h : i' < (a ++ b).length, i' < i ∧ (a ++ b)[i'] = z ∧ ∀ k, ¬ drp (a ++ b) i' k)
    (fun r => (∃ i, i < (a ++ b).length ∧ r = .inl ([], ⟨19, (i : Int) - a.length⟩) ∧ (∃ k, cnf (a ++ b) i k) ∧ ∀ i', i' < i → ∀ k, ¬ cnf (a ++ b) i' k) ∨
      (∃ out, r = .inr out ∧ (∀ i' k, ¬ cnf (a ++ b) i' k) ∧ out.Pairwise (fun x y => lexB x.Vector y.Vector = true) ∧ ∀ z, z ∈ out ↔ ∃ i', ∃ h : i' < (a ++ b).length, (a ++ b)[i'] = z ∧ ∀ k, ¬ drp (a ++ b) i' k)) (by
    rintro i out _ hi ⟨hc, hol, hs, hm⟩
    unfold changeforgeref2_MergedValues.l1
    simp only
    obtain ⟨q, eq, hq⟩ := inner_f (a := a) (by omega) (by omega) hL6 hi
    rw [ite_dec, if_pos (by omega), eq, Option.bind_some]
    rcases hq with ⟨rfl, hk⟩ | ⟨t, rfl, hnc, ht⟩
    · right
      exact ⟨_, rfl, .inl ⟨i, hi, rfl, hk, hc⟩⟩
    · left
      have hc' : ∀ i', i' < i + 1 → ∀ k, ¬ cnf (a ++ b) i' k := by
        intro i' h k
        by_cases he : i' = i
        · subst he; exact hnc k
        · exact hc i' (by omega) k
      unfold changeforgeref2_MergedValues.j3 changeforgeref2_MergedValues.j2
      simp only
      by_cases htt : t = true
      · subst htt
        have hnd := ht.1 rfl
        have hne : ∀ x ∈ out, x.Vector ≠ (a ++ b)[i].Vector := by
          intro x hx he
          obtain ⟨i', hi', hlt, rfl, _⟩ := (hm x).1 hx
          exact hnd i' ⟨hi', hi, .inl ⟨he, hlt⟩⟩
        have ho6 : ∀ x ∈ out, x.Vector.length = 6 := by
          intro x hx
          obtain ⟨i', hi', _, rfl, _⟩ := (hm x).1 hx
          exact hL6 _ (List.getElem_mem _)
        obtain ⟨r, er, p, hp, hpl, g1, g2, g3⟩ := ins_f hi (out := out) (by omega) ho6 (hL6 _ (List.getElem_mem hi)) hs hne
        rw [if_neg (by simp), at_nat hi, Option.bind_some, app_eq (by simp; omega), Option.bind_some, er, Option.bind_some]
        unfold changeforgeref2_MergedValues.j4 changeforgeref2_MergedValues.j2
        rw [at_nat hi, Option.bind_some, hp, at_nat hpl, Option.bind_some, Option.bind_some, Int.toNat_natCast, ck_eq (by omega) (by omega), Option.bind_some]
        refine ⟨_, rfl, hc', by rw [g3]; omega, g1, fun z => ?_⟩
        rw [g2, hm]
        constructor
        · rintro (⟨i', h1, h2, h3, h4⟩ | rfl)
          · exact ⟨i', h1, by omega, h3, h4⟩
          · exact ⟨i, hi, by omega, rfl, hnd⟩
        · rintro ⟨i', h1, h2, h3, h4⟩
          by_cases he : i' = i
          · subst he; exact .inr h3.symm
          · exact .inl ⟨i', h1, by omega, h3, h4⟩
      · have htf : t = false := by simpa using htt
        subst htf
        rw [if_pos (by rfl), ck_eq (by omega) (by omega), Option.bind_some]
        refine ⟨_, rfl, hc', by omega, hs, fun z => ?_⟩
        rw [hm]
        constructor
        · rintro ⟨i', h1, h2, h3, h4⟩; exact ⟨i', h1, by omega, h3, h4⟩
        · rintro ⟨i', h1, h2, h3, h4⟩
          by_cases he : i' = i
          · subst he; exact absurd (ht.2 h4) (by simp)
          · exact ⟨i', h1, by omega, h3, h4⟩) (by
    rintro out ⟨hc, hol, hs, hm⟩
    unfold changeforgeref2_MergedValues.l1
    simp only
    rw [ite_dec, if_neg (by omega)]
    refine ⟨_, rfl, .inr ⟨out, rfl, fun i' k h => hc i' h.2.2.1 k h, hs, fun z => ?_⟩⟩
    rw [hm]
    constructor
    · rintro ⟨i', h1, _, h3, h4⟩; exact ⟨i', h1, h3, h4⟩
    · rintro ⟨i', h1, h3, h4⟩; exact ⟨i', h1, h1, h3, h4⟩) [] ⟨fun i' h => absurd h (by omega), Nat.zero_le _, List.Pairwise.nil, fun z => by simp⟩
  rw [show ((0 : Nat) : Int) = 0 from rfl] at e
  rw [e, Option.bind_some]
  rcases hr with ⟨i, hi, rfl, ⟨k, hk⟩, hfirst⟩ | ⟨out, rfl, hnc, hs, hm⟩
  · obtain ⟨hai, _⟩ := hcnf i k hk
    have hib : i - a.length < b.length := by rw [List.length_append] at hi; omega
    have hsc : scn (cfG a) 0 b = some ([], ⟨19, ((i - a.length : Nat) : Int)⟩) := by
      refine scn_first (j := i - a.length) hib ?_ ?_
      · unfold cfG
        rw [if_pos ((hany _ hib).2.2 ⟨k, by rw [show a.length + (i - a.length) = i by omega]; exact hk⟩), Nat.zero_add]
      · intro j hj hji
        unfold cfG
        rw [if_neg]
        intro h
        obtain ⟨k', hk'⟩ := (hany j hj).2.1 h
        exact hfirst (a.length + j) (by omega) k' hk'
    rw [hsc]
    simp only
    rw [show ((i : Int) - a.length) = ((i - a.length : Nat) : Int) by omega]
  · have hsc : scn (cfG a) 0 b = Option.none := by
      rw [scn_none]
      intro j hj
      unfold cfG
      rw [if_neg]
      intro h
      obtain ⟨k', hk'⟩ := (hany j hj).2.1 h
      exact hnc _ _ hk'
    have hc := agr_iff.1 hsc
    rw [hsc]
    simp only
    have hmem : ∀ z, z ∈ out ↔ mset a b z := by
      intro z
      rw [hm]
      constructor
      · rintro ⟨i', h1, rfl, h4⟩
        refine ⟨List.mem_append.1 (List.getElem_mem h1), fun x hx hcv => ?_⟩
        obtain ⟨k, hk, rfl⟩ := List.getElem_of_mem (List.mem_append.2 hx)
        exact Classical.byContradiction fun hne => h4 k ⟨hk, h1, .inr ⟨hcv, hne⟩⟩
      · rintro ⟨hz, hmx⟩
        obtain ⟨j, hj, rfl⟩ := List.getElem_of_mem (List.mem_append.2 hz)
        obtain ⟨f, hf, ef, hfirst⟩ := first_at (L := a ++ b) (v := (a ++ b)[j].Vector) ⟨j, hj, rfl⟩
        have eq : (a ++ b)[f] = (a ++ b)[j] := union_inj ha hb hc (List.mem_append.1 (List.getElem_mem hf)) hz ef
        refine ⟨f, hf, eq, ?_⟩
        rintro k ⟨hk, _, h | h⟩
        · exact hfirst k hk h.2 (h.1.trans ef)
        · have := hmx _ (List.mem_append.1 (List.getElem_mem hk)) (by rw [← ef]; exact h.1)
          exact h.2 (this.trans ef.symm)
    have : mrg a b = out := mrg_eq ha hb hc ⟨hs, hmem⟩
    rw [this]
    unfold changeforgeref2_MergedValues.j1 changeforgeref1_At
    rw [ite_dec]
    by_cases h : out.length > 16
    · rw [if_pos (by omega), if_pos h]; rfl
    · rw [if_neg (by omega), if_neg h]

theorem write_small {l : List VV} {r v : Int} : (writeV l r v).1.length ≤ 1000 ∧ ∀ x ∈ (writeV l r v).1, x.Vector.length ≤ 1000 := by
  unfold writeV
  by_cases h0 : (vfault l).Code ≠ 0
  · rw [if_pos h0]; simp
  rw [if_neg h0]
  by_cases h1 : r < 0 ∨ r ≥ 6
  · rw [if_pos h1]; simp
  rw [if_neg h1]
  by_cases h2 : outB v = true
  · rw [if_pos h2]; simp
  rw [if_neg h2]
  by_cases h3 : cm l r.toNat ≥ 1000000000
  · rw [if_pos h3]; simp
  rw [if_neg h3]
  exact ⟨by simp, fun x hx => by simp only [List.mem_singleton] at hx; subst hx; simp only; rw [vecW_len]; omega⟩

theorem matches_spec (a b : List VV) (r v : Int) : changeforgelaw2_MultivalueMatchesSpec a b r v = some true := by
  unfold changeforgelaw2_MultivalueMatchesSpec
  rw [Write_f, Option.bind_some, Written_f, Option.bind_some, Merge_f, Option.bind_some, Merged_f, Option.bind_some, Validate_f, Option.bind_some, ValuesFault_f, Option.bind_some]
  rw [values_f _ _ write_small.1 write_small.2, values_f _ _ merge_small.1 merge_small.2, first_f]
  simp

/-- every value is below one of the merge -/
theorem covers_law (a b : List VV) (i : Int) (h : a.length + b.length ≤ 1048576) : changeforgelaw2_MultivalueCovers a b i = some true := by
  unfold changeforgelaw2_MultivalueCovers
  rw [Merge_f, Option.bind_some, app_eq (by simp; omega), Option.bind_some, List.nil_append, app_eq (by omega), Option.bind_some]
  by_cases hc : (mergeV a b).2.Code = 0
  case neg => rw [decide_eq_false hc]; simp only [Bool.not_false, if_true, Option.bind_some, first_f]
  rw [decide_eq_true hc]
  simp only [Bool.not_true, Bool.false_eq_true, if_false, Option.bind_some]
  by_cases h0 : i < 0
  · rw [decide_eq_true h0]; simp only [if_true, Option.bind_some, first_f]
  rw [decide_eq_false h0]
  simp only [Bool.false_eq_true, if_false, Option.bind_some]
  by_cases h1 : i ≥ ((a ++ b).length : Int)
  · rw [decide_eq_true h1]; simp only [if_true, first_f, Option.bind_some]
  rw [decide_eq_false h1]
  simp only [Bool.false_eq_true, if_false]
  obtain ⟨j, rfl⟩ := Int.eq_ofNat_of_zero_le (show 0 ≤ i by omega)
  have hj : j < (a ++ b).length := by omega
  obtain ⟨ha, hb, hg, hl⟩ := mergeV_ok.1 hc
  have hM := mrg_spec ha hb hg
  have six : ∀ x, (x ∈ a ∨ x ∈ b) → x.Vector.length = 6 := fun x hx => hx.elim (ha.six x) (hb.six x)
  have hx := List.mem_append.1 (List.getElem_mem hj)
  rw [mergeV_eq hc]
  rw [any_loopC (f := fun s => changeforgelaw2_MultivalueCovers.l1 (j : Int) (mrg a b, ⟨0, 0⟩) (a ++ b) s) (.inl true) (.inr ()) (mrg a b) (fun m => covB m.Vector (a ++ b)[j].Vector) ?_ ?_, Option.bind_some]
  · obtain ⟨m, hm, hmc⟩ := up ha hb hx
    have : (mrg a b).any (fun m => covB m.Vector (a ++ b)[j].Vector) = true := List.any_eq_true.2 ⟨m, (hM.mem m).2 hm, hmc⟩
    rw [if_pos this]
  · intro k hk
    unfold changeforgelaw2_MultivalueCovers.l1
    simp only
    have hk6 := hM.six ha hb _ (List.getElem_mem hk)
    have hj6 := six _ hx
    rw [ite_dec, if_pos (by omega), at_nat hk, Option.bind_some, at_nat hj, Option.bind_some, relation_f (by omega) (by omega), Option.bind_some]
    simp only
    by_cases hcv : covB (mrg a b)[k].Vector (a ++ b)[j].Vector = true
    · rw [if_pos hcv, if_pos hcv, first_f, Option.bind_some]
    · rw [if_neg hcv, if_neg hcv, ck_eq (by omega) (by omega), Option.bind_some]; rfl
  · unfold changeforgelaw2_MultivalueCovers.l1
    simp only
    rw [ite_dec, if_neg (by omega)]
end Go.Dc
