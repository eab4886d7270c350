/- Digests and sketches: they come to something, and a sketch is the least of its lines' numbers. -/
import Derived.Test.YtnlleniemknjcaaDcPD
namespace Go.Dc
open Go

theorem rem_nn {x m : Int} (h0 : 0 ≤ x) (hm : 0 < m) : rem? x m = some (x % m) := by
  unfold rem?
  rw [if_neg (by omega), Int.tmod_eq_emod_of_nonneg h0]

theorem shr1 {b : Int} : shr? .i64 b 1 = some (b / 2) := by
  unfold shr?
  rw [if_neg (by decide)]
  have : (2 : Int) ^ (min (1 : Int).toNat IntKind.i64.bits) = 2 := by decide
  rw [this, Int.fdiv_eq_ediv_of_nonneg _ (by decide)]

/-- numbers of a digest -/
def Dig (x : Int) : Prop := 0 ≤ x ∧ x < 2305843009213693951

theorem dig_mod {x : Int} : Dig (x % 2305843009213693951) := ⟨Int.emod_nonneg _ (by decide), Int.emod_lt_of_pos _ (by decide)⟩

theorem mul_ok {a b : Int} (ha : Dig a) (hb : 0 ≤ b) : ∃ r, digest_mul a b = some r ∧ Dig r := by
  unfold digest_mul
  obtain ⟨r, h1, h2⟩ := iter_rule (m := fun s : Int × Int × Int => digest_mul.l1 s.1 s.2.1 s.2.2) (fun s => Dig s.1 ∧ Dig s.2.1 ∧ 0 ≤ s.2.2) (fun s => s.2.2.toNat) Dig (by
    rintro ⟨o, x, y⟩ ⟨h1, h2, h3⟩
    simp only at h1 h2 h3 ⊢
    obtain ⟨p1, p2⟩ := h1
    obtain ⟨q1, q2⟩ := h2
    unfold digest_mul.l1
    simp only [ite_dec]
    by_cases hy : y > 0
    · left
      rw [if_pos hy]
      have j2 : ∀ o', Dig o' → ∃ s', digest_mul.j2 x y o' = some (.next s') ∧ (Dig s'.1 ∧ Dig s'.2.1 ∧ 0 ≤ s'.2.2) ∧ s'.2.2.toNat < y.toNat := by
        intro o' ho
        unfold digest_mul.j2
        rw [ck_eq (by omega) (by omega), Option.bind_some, rem_nn (by omega) (by decide), Option.bind_some, shr1, Option.bind_some]
        exact ⟨_, rfl, ⟨ho, dig_mod, by simp only; omega⟩, by simp only; omega⟩
      by_cases hc : andI .i64 y 1 = 1
      · rw [if_pos hc, ck_eq (by omega) (by omega), Option.bind_some, rem_nn (by omega) (by decide), Option.bind_some]
        exact j2 _ dig_mod
      · rw [if_neg hc]
        exact j2 _ ⟨p1, p2⟩
    · right
      rw [if_neg hy]
      exact ⟨_, rfl, p1, p2⟩) (0, a, b) ⟨⟨Int.le_refl 0, (by decide : (0 : Int) < 2305843009213693951)⟩, ha, hb⟩
  rw [h1, Option.bind_some]
  exact ⟨r, rfl, h2⟩

theorem dnext_ok {s : Step_digest} {f : Int} (h0 : Dig s.e0) (h1 : Dig s.e1) (hf : 0 ≤ f) : ∃ r, digest_next s f = some r ∧ Dig r := by
  obtain ⟨r, h2, h3, h4⟩ := mul_ok h0 hf
  unfold digest_next
  obtain ⟨p1, p2⟩ := h1
  rw [h2, Option.bind_some, ck_eq (by omega) (by omega), Option.bind_some, rem_nn (by omega) (by decide), Option.bind_some]
  exact ⟨_, rfl, dig_mod⟩

theorem of_ok {l : List UInt8} (hl : l.length ≤ 4096) : ∃ r, digest_Of l = some (r, ⟨0, 0⟩) ∧ Dig r := by
  unfold digest_Of
  rw [ite_dec, if_neg (by omega)]
  obtain ⟨r, h1, h2⟩ := iter_rule (m := fun s : Int × Int => digest_Of.l1 l s.1 s.2) (fun s => ∃ k : Nat, s.1 = (k : Int) ∧ k ≤ l.length ∧ Dig s.2) (fun s => l.length - s.1.toNat) Dig (by
    rintro ⟨x, h⟩ ⟨k, hx, hk, hd⟩
    simp only at hx hd ⊢
    subst hx
    unfold digest_Of.l1
    rw [ite_dec]
    by_cases hlt : k < l.length
    · left
      have hb : (l[k]).toNat < 256 := (l[k]).toNat_lt
      rw [if_pos (by omega), at_nat hlt, Option.bind_some, ck_eq (by omega) (by omega), Option.bind_some, ck_eq (by omega) (by omega), Option.bind_some]
      obtain ⟨r, e1, e2⟩ := dnext_ok (s := { e0 := h, e1 := ((l[k]).toNat : Int) + 1 }) (f := 257) hd ⟨by simp only; omega, by simp only; omega⟩ (by decide)
      rw [e1, Option.bind_some, ck_eq (by omega) (by omega), Option.bind_some]
      exact ⟨_, rfl, ⟨k + 1, by simp, hlt, e2⟩, by simp only; omega⟩
    · right
      rw [if_neg (by omega)]
      exact ⟨_, rfl, hd⟩) (0, 1) ⟨0, rfl, Nat.zero_le _, by decide, by decide⟩
  rw [h1, Option.bind_some]
  exact ⟨r, rfl, h2⟩

theorem pair_ok {a b : Int} (ha : Dig a) (hb : Dig b) : ∃ r, digest_pair a b = some r ∧ Dig r := by
  unfold digest_pair
  obtain ⟨r, h1, h2⟩ := dnext_ok (s := { e0 := b, e1 := 7 }) (f := 31) hb ⟨(by decide : (0 : Int) ≤ 7), (by decide : (7 : Int) < 2305843009213693951)⟩ (by decide)
  rw [h1, Option.bind_some]
  obtain ⟨r', h3, h4⟩ := dnext_ok (s := { e0 := a, e1 := r }) (f := 1000003) ha h2 (by decide)
  rw [h3]
  exact ⟨r', rfl, h4⟩

theorem is_eq {a : Int} (h : Dig a) : digest_is a = some true := by
  obtain ⟨h1, h2⟩ := h
  unfold digest_is
  rw [ite_dec, if_pos h1, Option.bind_some, decide_eq_true h2]

theorem Pair_ok {a b : Int} (ha : Dig a) (hb : Dig b) : ∃ r, digest_Pair a b = some (r, ⟨0, 0⟩) ∧ Dig r := by
  unfold digest_Pair
  have : iter (fun s => digest_Pair.l1 a b s) 0 = some (.inr ()) := by
    refine iter_eq_of (fun s => s = 0 ∨ s = 1 ∨ s = 2) (fun s => 2 - s.toNat) _ ?_ _ (.inl rfl)
    rintro s (rfl | rfl | rfl)
    · left
      unfold digest_Pair.l1
      rw [ite_dec, if_pos (by decide), show at? [a, b] 0 = some a from rfl, Option.bind_some, is_eq ha, Option.bind_some, if_neg (by decide), ck_eq (by decide) (by decide), Option.bind_some]
      exact ⟨_, rfl, .inr (.inl rfl), by decide⟩
    · left
      unfold digest_Pair.l1
      rw [ite_dec, if_pos (by decide), show at? [a, b] 1 = some b from rfl, Option.bind_some, is_eq hb, Option.bind_some, if_neg (by decide), ck_eq (by decide) (by decide), Option.bind_some]
      exact ⟨_, rfl, .inr (.inr rfl), by decide⟩
    · right
      unfold digest_Pair.l1
      rw [ite_dec, if_neg (by decide)]
  rw [this, Option.bind_some]
  simp only
  unfold digest_Pair.j1
  obtain ⟨r, h1, h2⟩ := pair_ok ha hb
  rw [h1, Option.bind_some]
  exact ⟨r, rfl, h2⟩

/-- the number k of one line -/
noncomputable def lineN (k : Nat) (s : ByteArray) : Int := (((digest_Of s.data.toList).bind fun d => digest_Pair ((k : Int) + 1) d.1).map (·.1)).getD 0

/-- the number k of a text: the least of its lines' -/
noncomputable def textN (k : Nat) : List ByteArray → Int
  | [] => 0
  | [s] => lineN k s
  | s :: r => min (lineN k s) (textN k r)

theorem textN_cons (k : Nat) (s : ByteArray) {r : List ByteArray} (h : r ≠ []) : textN k (s :: r) = min (lineN k s) (textN k r) := by
  cases r with
  | nil => exact absurd rfl h
  | cons x r => rfl

theorem textN_append (k : Nat) : ∀ (l m : List ByteArray), l ≠ [] → m ≠ [] → textN k (l ++ m) = min (textN k l) (textN k m)
  | [], _, h, _ => absurd rfl h
  | [s], m, _, h => by rw [List.singleton_append, textN_cons k s h]; rfl
  | s :: x :: l, m, _, h => by
    rw [List.cons_append, textN_cons k s (by simp), textN_append k (x :: l) m (by simp) h, textN_cons k s (by simp)]
    omega

/-- a digest of a line that the program takes -/
theorem line_ok {s : ByteArray} (h : OkLine s) : ∃ d, digest_Of s.data.toList = some (d, ⟨0, 0⟩) ∧ Dig d ∧ ∀ k : Nat, k < 8 → digest_Pair ((k : Int) + 1) d = some (lineN k s, ⟨0, 0⟩) := by
  have hl : s.data.toList.length ≤ 4096 := by
    have h1 := h.1
    rw [Array.length_toList]
    show s.size ≤ 4096
    omega
  obtain ⟨d, h1, h2⟩ := of_ok hl
  refine ⟨d, h1, h2, fun k hk => ?_⟩
  obtain ⟨r, h3, _⟩ := Pair_ok (a := (k : Int) + 1) (b := d) ⟨by omega, by omega⟩ h2
  rw [h3]
  unfold lineN
  rw [h1, Option.bind_some, h3]
  rfl

/-- the eight numbers -/
noncomputable def nums (t : List ByteArray) : List Int := (List.range 8).map fun k => textN k t

theorem nums_len (t : List ByteArray) : (nums t).length = 8 := by simp [nums]
theorem nums_get {t : List ByteArray} {k : Nat} (h : k < (nums t).length) : (nums t)[k] = textN k t := by simp [nums]

theorem eq_nums {l : List Int} {t : List ByteArray} (hl : l.length = 8) (h : ∀ k (hk : k < l.length), l[k] = textN k t) : l = nums t := by
  apply List.ext_getElem
  · rw [hl, nums_len]
  · intro k h1 h2
    rw [h k h1, nums_get]

/-- one line more -/
theorem sketch_line {i : Nat} {s : ByteArray} {d : Int} {old : List Int} {pre : List ByteArray} (hold : old.length = 8) (hp : i = pre.length) (ho : i ≠ 0 → old = nums pre) (hd : ∀ k : Nat, k < 8 → digest_Pair ((k : Int) + 1) d = some (lineN k s, ⟨0, 0⟩)) :
    iter (fun st => rename_Sketch.l2 (i : Int) (d, ⟨0, 0⟩) st.1 st.2) (0, old) = some (nums (pre ++ [s])) := by
  refine iter_eq_of (σ := Int × List Int) (fun st => ∃ j : Nat, st.1 = (j : Int) ∧ j ≤ 8 ∧ st.2.length = 8 ∧ ∀ k (hk : k < st.2.length) (hk' : k < old.length), st.2[k] = if k < j then textN k (pre ++ [s]) else old[k]) (fun st => 8 - st.1.toNat) _ ?_ _ ⟨0, rfl, by decide, hold, fun k hk hk' => by simp⟩
  rintro ⟨x, l⟩ ⟨j, hx, hj, hl, hv⟩
  simp only at hx hl hv ⊢
  subst hx
  unfold rename_Sketch.l2
  simp only [ite_dec]
  by_cases hj8 : j < 8
  · left
    have hjl : j < l.length := by omega
    rw [if_pos (by omega), ck_eq (by omega) (by omega), Option.bind_some, hd j hj8, Option.bind_some]
    simp only
    have harr : arr? 8 l (j : Int) = some l[j] := by unfold arr?; rw [if_pos hl, at_nat hjl]
    have hlj : l[j] = old[j]'(by omega) := by have := hv j hjl (by omega); rw [if_neg (by omega)] at this; exact this
    have fin : ∀ l' : List Int, l'.length = 8 → (∀ k (hk : k < l'.length) (hk' : k < old.length), l'[k] = if k < j + 1 then textN k (pre ++ [s]) else old[k]) →
        ∃ s', rename_Sketch.j4 (j : Int) l' = some (.next s') ∧ (∃ q : Nat, s'.1 = (q : Int) ∧ q ≤ 8 ∧ s'.2.length = 8 ∧ ∀ k (hk : k < s'.2.length) (hk' : k < old.length), s'.2[k] = if k < q then textN k (pre ++ [s]) else old[k]) ∧ 8 - s'.1.toNat < 8 - (j : Int).toNat := by
      intro l' h1 h2
      unfold rename_Sketch.j4
      rw [ck_eq (by omega) (by omega), Option.bind_some]
      exact ⟨_, rfl, ⟨j + 1, by simp, hj8, h1, h2⟩, by simp only; omega⟩
    have keep : ∀ k (hk : k < l.length) (hk' : k < old.length), k ≠ j → l[k] = if k < j + 1 then textN k (pre ++ [s]) else old[k] := by
      intro k hk hk' hne
      rw [hv k hk hk']
      by_cases h : k < j
      · rw [if_pos h, if_pos (by omega)]
      · rw [if_neg h, if_neg (by omega)]
    have set : lineN j s = textN j (pre ++ [s]) → ∀ k (hk : k < (l.set j (lineN j s)).length) (hk' : k < old.length), (l.set j (lineN j s))[k] = if k < j + 1 then textN k (pre ++ [s]) else old[k] := by
      intro he k hk hk'
      rw [List.getElem_set]
      by_cases h : j = k
      · subst h; rw [if_pos rfl, if_pos (by omega), he]
      · rw [if_neg h]; exact keep k (by simpa using hk) hk' (fun e => h e.symm)
    by_cases hi : i = 0
    · rw [if_pos (by omega), Option.bind_some]
      simp only [if_true]
      rw [harr, Option.bind_some, Option.bind_some]
      have hpre : pre = [] := List.eq_nil_of_length_eq_zero (by omega)
      refine fin _ (by rw [List.length_set]; exact hl) ?_
      simp only [Int.toNat_natCast]
      exact set (by rw [hpre]; rfl)
    · rw [if_neg (by omega), harr]
      simp only [Option.bind_some, decide_eq_true_eq]
      have hpre : pre ≠ [] := by intro h; rw [h] at hp; simp at hp; omega
      have htn : textN j (pre ++ [s]) = min (textN j pre) (lineN j s) := textN_append j pre [s] hpre (by simp)
      have hoj : l[j] = textN j pre := by
        rw [hlj]
        have hoo := ho hi
        subst hoo
        rw [nums_get]
      by_cases hc : lineN j s < l[j]
      · rw [if_pos hc]
        refine fin _ (by rw [List.length_set]; exact hl) ?_
        simp only [Int.toNat_natCast]
        exact set (by omega)
      · rw [if_neg hc]
        refine fin l hl (fun k hk hk' => ?_)
        by_cases h : k = j
        · subst h
          rw [if_pos (by omega)]; omega
        · exact keep k hk hk' h
  · right
    rw [if_neg (by omega)]
    congr 2
    refine eq_nums hl (fun k hk => ?_)
    rw [hv k hk (by omega), if_pos (by omega)]

theorem sketch_eq (t : List ByteArray) : ∃ l f, rename_Sketch t = some (l, f) ∧ ((f = ⟨0, 0⟩ ∧ OkText t ∧ l = if t = [] then [] else nums t) ∨ (f.Code ≠ 0 ∧ ¬ OkText t)) := by
  obtain ⟨f, h1, h2⟩ := validate_eq t
  unfold rename_Sketch
  rw [h1, Option.bind_some]
  rcases h2 with ⟨rfl, hok⟩ | ⟨h2, h3⟩
  · rw [if_neg (by simp), ite_dec]
    by_cases h0 : t = []
    · rw [if_pos (by rw [h0]; rfl)]
      exact ⟨_, _, rfl, .inl ⟨rfl, hok, by rw [if_pos h0]⟩⟩
    · have hne : t.length ≠ 0 := fun h => h0 (List.eq_nil_of_length_eq_zero h)
      have h120 := hok.1
      rw [if_neg (by omega)]
      have main : iter (fun s => rename_Sketch.l1 t s.1 s.2) (0, ([0, 0, 0, 0, 0, 0, 0, 0] : List Int)) = some (nums t) := by
        refine iter_eq_of (σ := Int × List Int) (fun st => ∃ i : Nat, st.1 = (i : Int) ∧ i ≤ t.length ∧ st.2.length = 8 ∧ (i ≠ 0 → st.2 = nums (t.take i))) (fun st => t.length - st.1.toNat) _ ?_ _ ⟨0, rfl, Nat.zero_le _, rfl, fun h => absurd rfl h⟩
        rintro ⟨x, l⟩ ⟨i, hx, hi, hl, hv⟩
        simp only at hx hl hv ⊢
        subst hx
        unfold rename_Sketch.l1
        rw [ite_dec]
        by_cases hlt : i < t.length
        · left
          obtain ⟨d, e1, e2, e3⟩ := line_ok (hok.2 _ (List.getElem_mem hlt))
          rw [if_pos (by omega), at_nat hlt, Option.bind_some, e1, Option.bind_some, sketch_line (pre := t.take i) hl (by rw [List.length_take]; omega) hv e3, Option.bind_some]
          unfold rename_Sketch.j3 rename_Sketch.j2
          rw [ck_eq (by omega) (by omega), Option.bind_some]
          exact ⟨_, rfl, ⟨i + 1, by simp, hlt, nums_len _, fun _ => by rw [List.take_succ_eq_append_getElem hlt]⟩, by simp only; omega⟩
        · right
          rw [if_neg (by omega), hv (by omega), List.take_of_length_le (by omega)]
      rw [main, Option.bind_some]
      unfold rename_Sketch.j1
      rw [show arrl? 8 (nums t) = some (nums t) from by unfold arrl?; rw [if_pos (nums_len t)], Option.bind_some]
      exact ⟨_, _, rfl, .inl ⟨rfl, hok, by rw [if_neg h0]⟩⟩
  · rw [if_pos (faultless.2 (fun h => h2 h.1))]
    exact ⟨_, _, rfl, .inr ⟨h2, h3⟩⟩

/-- RenameSketchUnion: the law's function answers yes, where there is room for both texts together -/
theorem union_eq (a b : List ByteArray) (hroom : (a.length + b.length) * 16 ≤ 140737488355328) : changeforgelaw2_RenameSketchUnion a b = some true := by
  obtain ⟨x, f, h1, h2⟩ := sketch_eq a
  obtain ⟨y, g, h3, h4⟩ := sketch_eq b
  obtain ⟨z, h, h5, h6⟩ := sketch_eq (a ++ b)
  unfold changeforgelaw2_RenameSketchUnion
  rw [h1, Option.bind_some, h3, Option.bind_some, app_eq (by simp only [List.length_nil]; omega), Option.bind_some, List.nil_append, app_eq hroom, Option.bind_some, h5, Option.bind_some, half_eq]
  simp only [ite_ndec]
  by_cases hf : f.Code = 0
  · by_cases hg : g.Code = 0
    · by_cases hh : h.Code = 0
      · obtain ⟨rfl, _, hx⟩ := h2.resolve_right (fun q => q.1 hf)
        obtain ⟨rfl, _, hy⟩ := h4.resolve_right (fun q => q.1 hg)
        obtain ⟨rfl, _, hz⟩ := h6.resolve_right (fun q => q.1 hh)
        by_cases ha : a = []
        · rw [if_pos ha] at hx; subst hx
          simp
        · by_cases hb : b = []
          · rw [if_pos hb] at hy; subst hy
            simp
          · rw [if_neg ha] at hx
            rw [if_neg hb] at hy
            rw [if_neg (by simp [ha])] at hz
            subst hx; subst hy; subst hz
            have main : iter (fun s => changeforgelaw2_RenameSketchUnion.l1 (nums a, ⟨0, 0⟩) (nums b, ⟨0, 0⟩) (nums (a ++ b), ⟨0, 0⟩) s) 0 = some (Sum.inr ()) := by
              refine iter_eq_of (fun s => ∃ k : Nat, s = (k : Int) ∧ k ≤ 8) (fun s => 8 - s.toNat) _ ?_ _ ⟨0, rfl, by decide⟩
              rintro s ⟨k, rfl, hk⟩
              unfold changeforgelaw2_RenameSketchUnion.l1
              simp only [ite_dec, ite_ndec]
              by_cases hlt : k < 8
              · left
                have e1 : at? (nums a) (k : Int) = some (textN k a) := by rw [at_nat (by rw [nums_len]; exact hlt), nums_get]
                have e2 : at? (nums b) (k : Int) = some (textN k b) := by rw [at_nat (by rw [nums_len]; exact hlt), nums_get]
                have e3 : at? (nums (a ++ b)) (k : Int) = some (min (textN k a) (textN k b)) := by rw [at_nat (by rw [nums_len]; exact hlt), nums_get, textN_append k a b ha hb]
                rw [if_pos (by omega), e1, e2, e3]
                simp only [Option.bind_some]
                rw [if_neg (by omega), decide_eq_false (by omega)]
                simp only [Option.bind_some, Bool.false_eq_true, if_false]
                have : (if min (textN k a) (textN k b) = textN k a then some false else some (!decide (min (textN k a) (textN k b) = textN k b))) = some false := by
                  by_cases hc : min (textN k a) (textN k b) = textN k a
                  · rw [if_pos hc]
                  · rw [if_neg hc, decide_eq_true (by omega)]; rfl
                rw [this]
                simp only [Option.bind_some, Bool.false_eq_true, if_false]
                rw [ck_eq (by omega) (by omega), Option.bind_some]
                exact ⟨_, rfl, ⟨k + 1, by simp, hlt⟩, by omega⟩
              · right
                rw [if_neg (by omega)]
            simp only [nums_len]
            unfold changeforgelaw2_RenameSketchUnion.j1
            rw [half_eq]
            simp [main]
      · simp [hf, hg, hh]
    · simp [hf, hg]
  · simp [hf]

end Go.Dc
