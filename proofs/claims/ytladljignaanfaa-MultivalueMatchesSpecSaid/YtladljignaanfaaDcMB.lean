/- Registers: what is at fault with them, on both sides. -/
import Derived.Test.YtladljignaanfaaDcMA
set_option linter.unusedSimpArgs false
set_option linter.unusedVariables false
namespace Go.Dc
open Go
abbrev VV := VersionedValue

def outB (n : Int) : Bool := decide (n < 0) || decide (n > 1000000000)

theorem inRange_f (n : Int) : multivalue_inRange n = some (!outB n) := by
  unfold multivalue_inRange outB
  by_cases h : n ≥ 0
  · have : ¬ n < 0 := by omega
    simp only [h, this, decide_true, decide_false, if_true, Bool.false_or, Option.bind_some]
    by_cases h2 : n ≤ 1000000000
    · have : ¬ n > 1000000000 := by omega
      simp [h2, this]
    · have : n > 1000000000 := by omega
      simp [h2, this]
  · have : n < 0 := by omega
    simp [h, this]

theorem checks1_f (n : Int) : multivalue_check_s1 n = some (outB n) := by
  unfold multivalue_check_s1
  rw [inRange_f, Option.bind_some, Bool.not_not]

def zerB (v : List Int) : Bool := v.all fun n => decide (n = 0)
def befB (ear : List VV) (v : VV) : Bool := match ear.getLast? with
  | Option.none => true
  | some x => lexB x.Vector v.Vector

def chk (v : VV) (ear : List VV) : Int :=
  if outB v.Value then 3 else if v.Vector.length ≠ 6 then 9 else if v.Vector.any outB then 3
  else if zerB v.Vector || !befB ear v then 5
  else if ear.any (fun x => covB x.Vector v.Vector || covB v.Vector x.Vector) then 19 else 0

theorem max_zero : ∀ (l : List Int) (m : Int), 0 ≤ m → l.any outB = false → (l.foldl max m = 0 ↔ m = 0 ∧ zerB l = true)
  | [], m, h0, _ => by simp [zerB]
  | x :: l, m, h0, h => by
    rw [List.any_cons, Bool.or_eq_false_iff] at h
    have hx : 0 ≤ x := by
      have := h.1
      unfold outB at this
      rw [Bool.or_eq_false_iff] at this
      have := of_decide_eq_false this.1
      omega
    rw [List.foldl_cons, max_zero l (max m x) (by omega) h.2]
    unfold zerB
    rw [List.all_cons, Bool.and_eq_true, decide_eq_true_eq]
    constructor
    · rintro ⟨h1, h2⟩; exact ⟨by omega, by omega, h2⟩
    · rintro ⟨h1, h2, h3⟩; exact ⟨by omega, h3⟩

theorem smax_f {l : List Int} (h6 : l.length = 6) (ho : l.any outB = false) : ∃ m, slices_Max l = some m ∧ decide (m = 0) = zerB l := by
  unfold slices_Max
  rw [ite_dec, if_neg (by omega)]
  unfold slices_Max.j1
  have h0 := at_nat (l := l) (k := 0) (by omega)
  rw [show ((0 : Nat) : Int) = 0 from rfl] at h0
  rw [h0, Option.bind_some]
  obtain ⟨s', e1, e2⟩ := fold_loop (f := fun s => slices_Max.l1 l s.1 s.2) l (fun _ s x => max s x) (fun s => s) (by
    intro k h s
    unfold slices_Max.l1
    simp only
    rw [ite_dec, if_pos (by omega), at_nat h, Option.bind_some, ck_eq (by omega) (by omega), Option.bind_some]; rfl) (by
    intro s
    unfold slices_Max.l1
    simp only
    rw [ite_dec, if_neg (by omega)]) (l.drop 1) 1 l[0] rfl (by omega)
  rw [show ((1 : Nat) : Int) = 1 from rfl] at e1
  rw [e1, Option.bind_some]
  refine ⟨s', rfl, ?_⟩
  have key : ∀ (m : List Int) (k : Nat) (s : Int), (m.foldl (fun (t : Nat × Int) x => (t.1 + 1, max t.2 x)) (k, s)).2 = m.foldl max s := by
    intro m
    induction m with
    | nil => intro k s; rfl
    | cons x r ih => intro k s; exact ih (k + 1) _
  rw [key] at e2
  have hd : l = l[0] :: l.drop 1 := by
    have := List.drop_eq_getElem_cons (l := l) (i := 0) (by omega)
    simpa using this
  have ho2 := ho
  rw [hd, List.any_cons, Bool.or_eq_false_iff] at ho2
  have hx : 0 ≤ l[0] := by
    have := ho2.1
    unfold outB at this
    rw [Bool.or_eq_false_iff] at this
    have := of_decide_eq_false this.1
    omega
  have := max_zero (l.drop 1) l[0] hx ho2.2
  rw [← e2] at this
  have hz : zerB l = (decide (l[0] = 0) && zerB (l.drop 1)) := by
    conv => lhs; rw [hd]
    unfold zerB; rw [List.all_cons]
  rw [hz]
  by_cases h : s' = 0
  · have h2 := this.1 h
    rw [decide_eq_true h, decide_eq_true h2.1, h2.2]; rfl
  · rw [decide_eq_false h]
    cases h3 : zerB (l.drop 1)
    · simp
    · have : ¬ l[0] = 0 := fun h4 => h (this.2 ⟨h4, h3⟩)
      simp [this]

theorem last_at {ear : List VV} (h : 0 < ear.length) : ear.getLast? = some ear[ear.length - 1] := by
  rw [List.getLast?_eq_getElem?, List.getElem?_eq_getElem (by omega)]

theorem check_f (v : VV) (ear : List VV) (hl : ear.length ≤ 1000) (he : ∀ x ∈ ear, x.Vector.length = 6) : multivalue_check v ear = some (chk v ear) := by
  unfold multivalue_check chk
  rw [inRange_f, Option.bind_some, Bool.not_not]
  by_cases h1 : outB v.Value = true
  · rw [if_pos h1, if_pos h1]
  rw [if_neg h1, if_neg h1, ite_ndec]
  by_cases h2 : v.Vector.length = 6
  case neg => rw [if_neg (by omega), if_pos h2]
  rw [if_pos (by omega), if_neg (by omega)]
  rw [any_loop (f := fun s => multivalue_check.l2 v s) (fun k => .inl (k : Int)) (.inr ()) v.Vector outB ?_ ?_, Option.bind_some]
  rotate_left
  · intro k h
    unfold multivalue_check.l2
    rw [ite_dec, if_pos (by omega), at_nat h, Option.bind_some, checks1_f, Option.bind_some]
    by_cases hc : outB v.Vector[k] = true
    · rw [if_pos hc, if_pos hc]
    · rw [if_neg hc, if_neg hc, ck_eq (by omega) (by omega), Option.bind_some]; rfl
  · unfold multivalue_check.l2
    rw [ite_dec, if_neg (by omega)]
  cases h3 : firstB outB 0 v.Vector with
  | some p =>
    have : v.Vector.any outB = true := by
      cases h4 : v.Vector.any outB
      · rw [firstB_none.2 h4] at h3; cases h3
      · rfl
    rw [this, if_pos rfl]
    unfold multivalue_check.j1
    simp only
    rw [ite_dec, if_pos (by omega)]
  | none =>
    have ho := firstB_none.1 h3
    rw [ho, if_neg (by simp)]
    simp only
    unfold multivalue_check.j4 multivalue_check.j1
    rw [ite_dec, if_neg (by omega)]
    obtain ⟨m, hm, hz⟩ := smax_f h2 ho
    rw [hm, Option.bind_some, hz]
    have hcond : (if zerB v.Vector = true then some true else (if decide ((ear.length : Int) > 0) = true then (ckK .i64 ((ear.length : Int) - 1)).bind fun z1 => (at? ear z1).bind fun y3 => (slices_Compare v.Vector y3.Vector).bind fun y4 => some (decide (y4 ≤ 0)) else some false).bind fun x3 => some x3) = some (zerB v.Vector || !befB ear v) := by
      by_cases hz1 : zerB v.Vector = true
      · rw [if_pos hz1, hz1]; rfl
      · rw [if_neg hz1]
        simp only [Bool.not_eq_true] at hz1
        rw [hz1, Bool.false_or, ite_dec]
        by_cases hp : 0 < ear.length
        · rw [if_pos (by omega), ck_eq (by omega) (by omega), Option.bind_some, show ((ear.length : Int) - 1) = ((ear.length - 1 : Nat) : Int) by omega, at_nat (by omega), Option.bind_some, compare_f (by rw [h2, he _ (List.getElem_mem _)]) (by omega), Option.bind_some, cmpL_pos, Option.bind_some]
          unfold befB
          rw [last_at hp]
        · rw [if_neg (by omega)]
          have : ear = [] := List.eq_nil_of_length_eq_zero (by omega)
          subst this
          rfl
    rw [hcond, Option.bind_some]
    by_cases h5 : (zerB v.Vector || !befB ear v) = true
    · rw [if_pos h5, if_pos h5]
    rw [if_neg h5, if_neg h5]
    rw [any_loop (f := fun s => multivalue_check.l1 v ear s) (fun k => .inl (k : Int)) (.inr ()) ear (fun x => covB x.Vector v.Vector || covB v.Vector x.Vector) ?_ ?_, Option.bind_some]
    · cases h6 : firstB (fun x => covB x.Vector v.Vector || covB v.Vector x.Vector) 0 ear with
      | some p =>
        have : ear.any (fun x => covB x.Vector v.Vector || covB v.Vector x.Vector) = true := by
          cases h4 : ear.any (fun x => covB x.Vector v.Vector || covB v.Vector x.Vector)
          · rw [firstB_none.2 h4] at h6; cases h6
          · rfl
        rw [this, if_pos rfl]
        simp only
        unfold multivalue_check.j2
        rw [ite_dec, if_pos (by omega)]
      | none =>
        rw [firstB_none.1 h6]
        simp only
        unfold multivalue_check.j3 multivalue_check.j2
        rw [ite_dec, if_neg (by omega), if_neg (by simp)]
    · intro k h
      unfold multivalue_check.l1
      have hx := he _ (List.getElem_mem h)
      rw [ite_dec, if_pos (by omega), at_nat h, Option.bind_some, covers_f (by omega) (by omega), Option.bind_some]
      by_cases hc : covB ear[k].Vector v.Vector = true
      · rw [if_pos hc, Option.bind_some, if_pos rfl, if_pos (by rw [hc]; rfl)]
      · rw [if_neg hc, covers_f (by omega) (by omega), Option.bind_some, Option.bind_some]
        simp only [Bool.not_eq_true] at hc
        rw [hc, Bool.false_or]
        by_cases hd : covB v.Vector ear[k].Vector = true
        · rw [if_pos hd, if_pos hd]
        · rw [if_neg hd, if_neg hd, ck_eq (by omega) (by omega), Option.bind_some]; rfl
    · unfold multivalue_check.l1
      rw [ite_dec, if_neg (by omega)]

/-! the fault of a register -/
def vG (l : List VV) (k : Nat) (v : VV) : Option Fault := if chk v (l.take k) = 0 then Option.none else some ⟨chk v (l.take k), (k : Int)⟩
def vfault (l : List VV) : Fault := if l.length > 16 then ⟨2, -1⟩ else (scn (vG l) 0 l).getD ⟨0, 0⟩

theorem vG_none {l : List VV} {k : Nat} {v : VV} : vG l k v = Option.none ↔ chk v (l.take k) = 0 := by
  unfold vG
  by_cases h : chk v (l.take k) = 0
  · rw [if_pos h]; simp [h]
  · rw [if_neg h]; simp [h]

theorem chk_zero {v : VV} {ear : List VV} : chk v ear = 0 ↔ outB v.Value = false ∧ v.Vector.length = 6 ∧ v.Vector.any outB = false ∧ zerB v.Vector = false ∧ befB ear v = true ∧ ∀ x ∈ ear, covB x.Vector v.Vector = false ∧ covB v.Vector x.Vector = false := by
  unfold chk
  by_cases h1 : outB v.Value = true
  · rw [if_pos h1, h1]; simp
  rw [if_neg h1]
  simp only [Bool.not_eq_true] at h1
  by_cases h2 : v.Vector.length = 6
  case neg => rw [if_pos h2]; simp [h2]
  rw [if_neg (by omega)]
  by_cases h3 : v.Vector.any outB = true
  · rw [if_pos h3, h3]; simp
  rw [if_neg h3]
  simp only [Bool.not_eq_true] at h3
  by_cases h4 : (zerB v.Vector || !befB ear v) = true
  · rw [if_pos h4]
    simp only [Bool.or_eq_true, Bool.not_eq_true'] at h4
    constructor
    · intro h; cases h
    · rintro ⟨_, _, _, h5, h6, _⟩
      rcases h4 with h4 | h4
      · rw [h5] at h4; cases h4
      · rw [h6] at h4; cases h4
  rw [if_neg h4]
  simp only [Bool.not_eq_true, Bool.or_eq_false_iff, Bool.not_eq_false'] at h4
  by_cases h5 : ear.any (fun x => covB x.Vector v.Vector || covB v.Vector x.Vector) = true
  · rw [if_pos h5]
    constructor
    · intro h; cases h
    · rintro ⟨_, _, _, _, _, h6⟩
      obtain ⟨x, hx, h7⟩ := List.any_eq_true.1 h5
      obtain ⟨a, b⟩ := h6 x hx
      rw [a, b] at h7; cases h7
  · rw [if_neg h5]
    simp only [Bool.not_eq_true] at h5
    rw [List.any_eq_false] at h5
    refine ⟨fun _ => ⟨h1, h2, h3, h4.1, h4.2, fun x hx => ?_⟩, fun _ => rfl⟩
    have := h5 x hx
    simp only [Bool.not_eq_true, Bool.or_eq_false_iff] at this
    exact this

theorem Validate_f (l : List VV) : multivalue_Validate l = some (vfault l) := by
  unfold multivalue_Validate vfault
  rw [ite_dec]
  by_cases h16 : l.length > 16
  · rw [if_pos (by omega), if_pos h16]
  rw [if_neg (by omega), if_neg h16]
  rw [scn_loop (f := fun s => multivalue_Validate.l1 l s) Sum.inl (.inr ()) l (vG l) ?_ ?_, Option.bind_some]
  · cases scn (vG l) 0 l <;> rfl
  · intro k h hp
    unfold multivalue_Validate.l1 vG
    rw [ite_dec, if_pos (by omega), at_nat h, Option.bind_some, cut_eq (by omega) (by omega) (by omega), Option.bind_some]
    have e : (l.take (k : Int).toNat).drop (0 : Int).toNat = l.take k := by simp
    rw [e, check_f _ _ (by rw [List.length_take]; omega) ?_, Option.bind_some, ite_ndec]
    · by_cases hc : chk l[k] (l.take k) = 0
      · rw [if_pos hc, if_pos hc, ck_eq (by omega) (by omega), Option.bind_some]; rfl
      · rw [if_neg hc, if_neg hc]
    · intro x hx
      obtain ⟨j, hj, rfl⟩ := List.getElem_of_mem hx
      rw [List.length_take] at hj
      rw [List.getElem_take]
      exact (chk_zero.1 (vG_none.1 (hp j (by omega) (by omega)))).2.1
  · unfold multivalue_Validate.l1
    rw [ite_dec, if_neg (by omega)]

theorem ValuesFault_f (l : List VV) : changeforgeref2_ValuesFault l = some (vfault l) := by
  unfold changeforgeref2_ValuesFault vfault changeforgeref1_At
  rw [ite_dec]
  by_cases h16 : l.length > 16
  · rw [if_pos (by omega), if_pos h16]; rfl
  rw [if_neg (by omega), if_neg h16]
  rw [scn_loop (f := fun s => changeforgeref2_ValuesFault.l1 l s) Sum.inl (.inr ()) l (vG l) ?_ ?_, Option.bind_some]
  · cases scn (vG l) 0 l <;> rfl
  · intro k h hp
    have h6 : ∀ x ∈ l.take k, x.Vector.length = 6 := by
      intro x hx
      obtain ⟨j, hj, rfl⟩ := List.getElem_of_mem hx
      rw [List.length_take] at hj
      rw [List.getElem_take]
      exact (chk_zero.1 (vG_none.1 (hp j (by omega) (by omega)))).2.1
    unfold changeforgeref2_ValuesFault.l1 vG changeforgeref1_At
    rw [ite_dec, if_pos (by omega), at_nat h, Option.bind_some]
    have e1 : (if decide (l[k].Value < 0) = true then some true else some (decide (l[k].Value > 1000000000))) = some (outB l[k].Value) := by
      unfold outB
      by_cases hc : l[k].Value < 0 <;> simp [hc]
    rw [e1, Option.bind_some]
    by_cases h1 : outB l[k].Value = true
    · have hc : chk l[k] (l.take k) = 3 := by unfold chk; rw [if_pos h1]
      rw [if_pos h1, hc, Option.bind_some, if_neg (by decide)]
    rw [if_neg h1, ite_ndec]
    by_cases h2 : l[k].Vector.length = 6
    case neg =>
      have hc : chk l[k] (l.take k) = 9 := by unfold chk; rw [if_neg h1, if_pos h2]
      rw [if_neg (by omega), hc, Option.bind_some, if_neg (by decide)]
    rw [if_pos (by omega)]
    rw [exit_loop (f := fun s => changeforgeref2_ValuesFault.l3 k l[k] s.1 s.2) l[k].Vector outB (fun s n => s && decide (n = 0)) (.inl ⟨3, (k : Int)⟩) (fun s => .inr s) ?_ ?_ true, Option.bind_some]
    rotate_left
    · intro j hj s
      unfold changeforgeref2_ValuesFault.l3 changeforgeref1_At
      simp only
      rw [ite_dec, if_pos (by omega), at_nat hj]
      simp only [Option.bind_some]
      have e2 : (if decide (l[k].Vector[j] < 0) = true then some true else some (decide (l[k].Vector[j] > 1000000000))) = some (outB l[k].Vector[j]) := by
        unfold outB
        by_cases hc : l[k].Vector[j] < 0 <;> simp [hc]
      rw [e2, Option.bind_some]
      by_cases ho : outB l[k].Vector[j] = true
      · rw [if_pos ho, if_pos ho]
      · rw [if_neg ho, if_neg ho]
        cases s
        · simp only [Bool.false_eq_true, if_false, Option.bind_some, Bool.false_and]
          rw [ck_eq (by omega) (by omega), Option.bind_some]; rfl
        · simp only [if_true, Option.bind_some, Bool.true_and]
          rw [ck_eq (by omega) (by omega), Option.bind_some]; rfl
    · intro s
      unfold changeforgeref2_ValuesFault.l3
      simp only
      rw [ite_dec, if_neg (by omega)]
    by_cases h3 : l[k].Vector.any outB = true
    · have hc : chk l[k] (l.take k) = 3 := by unfold chk; rw [if_neg h1, if_neg (by omega), if_pos h3]
      rw [if_pos h3, hc, if_neg (by decide)]
    rw [if_neg h3]
    have hz : l[k].Vector.foldl (fun s n => s && decide (n = 0)) true = zerB l[k].Vector := by
      unfold zerB
      have : ∀ (m : List Int) (s : Bool), m.foldl (fun s n => s && decide (n = 0)) s = (s && m.all fun n => decide (n = 0)) := by
        intro m
        induction m with
        | nil => intro s; simp
        | cons x m ih => intro s; rw [List.foldl_cons, ih, List.all_cons, Bool.and_assoc]
      rw [this, Bool.true_and]
    rw [hz]
    unfold changeforgeref2_ValuesFault.j3 changeforgeref1_At
    simp only
    have hb : (if zerB l[k].Vector = true then some true else (if decide ((k : Int) > 0) = true then (ckK .i64 ((k : Int) - 1)).bind fun z2 => (at? l z2).bind fun y5 => (changeforgeref2_less y5.Vector l[k].Vector).bind fun y6 => some !y6 else some false).bind fun x6 => some x6) = some (zerB l[k].Vector || !befB (l.take k) l[k]) := by
      by_cases hz1 : zerB l[k].Vector = true
      · rw [if_pos hz1, hz1]; rfl
      · rw [if_neg hz1]
        simp only [Bool.not_eq_true] at hz1
        rw [hz1, Bool.false_or, ite_dec]
        by_cases hk : 0 < k
        · have hlen : (l.take k).length = k := by rw [List.length_take]; omega
          have hlast := last_at (ear := l.take k) (by omega)
          have hv6 := h6 _ (List.getElem_mem (l := l.take k) (n := (l.take k).length - 1) (by omega))
          have e3 : (l.take k)[(l.take k).length - 1]'(by omega) = l[k - 1] := by
            rw [List.getElem_take]; congr 1; omega
          rw [e3] at hlast hv6
          rw [if_pos (by omega), ck_eq (by omega) (by omega), Option.bind_some, show ((k : Int) - 1) = ((k - 1 : Nat) : Int) by omega, at_nat (by omega), Option.bind_some, less_f (by omega) (by omega), Option.bind_some, Option.bind_some]
          unfold befB
          rw [hlast]
        · rw [if_neg (by omega)]
          have : k = 0 := by omega
          subst this
          rfl
    rw [hb, Option.bind_some]
    by_cases h5 : (zerB l[k].Vector || !befB (l.take k) l[k]) = true
    · have hc : chk l[k] (l.take k) = 5 := by unfold chk; rw [if_neg h1, if_neg (by omega), if_neg h3, if_pos h5]
      rw [if_pos h5, hc, Option.bind_some, if_neg (by decide)]
    rw [if_neg h5]
    have hlen : (l.take k).length = k := by rw [List.length_take]; omega
    rw [any_loopC (f := fun s => changeforgeref2_ValuesFault.l2 l k l[k] s) (.inl ⟨19, (k : Int)⟩) (.inr ()) (l.take k) (fun x => covB x.Vector l[k].Vector || covB l[k].Vector x.Vector) ?_ ?_, Option.bind_some]
    · by_cases h7 : (l.take k).any (fun x => covB x.Vector l[k].Vector || covB l[k].Vector x.Vector) = true
      · have hc : chk l[k] (l.take k) = 19 := by unfold chk; rw [if_neg h1, if_neg (by omega), if_neg h3, if_neg h5, if_pos h7]
        rw [if_pos h7, hc, if_neg (by decide)]
      · have hc : chk l[k] (l.take k) = 0 := by unfold chk; rw [if_neg h1, if_neg (by omega), if_neg h3, if_neg h5, if_neg h7]
        rw [if_neg h7, hc, if_pos rfl]
        unfold changeforgeref2_ValuesFault.j4 changeforgeref2_ValuesFault.j2
        simp only
        rw [ck_eq (by omega) (by omega), Option.bind_some]; rfl
    · intro j hj
      rw [hlen] at hj
      have hv6 := h6 _ (List.getElem_mem (l := l.take k) (n := j) (by omega))
      rw [List.getElem_take] at hv6 ⊢
      unfold changeforgeref2_ValuesFault.l2 changeforgeref1_At
      rw [ite_dec, if_pos (by omega), at_nat (by omega), Option.bind_some, relation_f (by omega) (by omega), Option.bind_some]
      simp only
      have e4 : (if covB l[k].Vector l[j].Vector = true then some true else some (covB l[j].Vector l[k].Vector)) = some (covB l[j].Vector l[k].Vector || covB l[k].Vector l[j].Vector) := by
        cases covB l[k].Vector l[j].Vector <;> cases covB l[j].Vector l[k].Vector <;> rfl
      rw [e4, Option.bind_some]
      by_cases hc : (covB l[j].Vector l[k].Vector || covB l[k].Vector l[j].Vector) = true
      · rw [if_pos hc, if_pos hc, Option.bind_some]
      · rw [if_neg hc, if_neg hc, ck_eq (by omega) (by omega), Option.bind_some]; rfl
    · unfold changeforgeref2_ValuesFault.l2
      rw [hlen, ite_dec, if_neg (by omega)]
  · unfold changeforgeref2_ValuesFault.l1
    rw [ite_dec, if_neg (by omega)]

/-! what a register without fault is -/
structure VReg (l : List VV) : Prop where
  len : l.length ≤ 16
  six : ∀ v ∈ l, v.Vector.length = 6
  val : ∀ v ∈ l, outB v.Value = false
  rng : ∀ v ∈ l, v.Vector.any outB = false
  nz : ∀ v ∈ l, zerB v.Vector = false
  lex : l.Pairwise fun x y => lexB x.Vector y.Vector = true
  inc : l.Pairwise fun x y => covB x.Vector y.Vector = false ∧ covB y.Vector x.Vector = false

theorem vfault_code (l : List VV) : vfault l = ⟨0, 0⟩ ∨ (vfault l).Code ≠ 0 := by
  unfold vfault
  by_cases h : l.length > 16
  · rw [if_pos h]; right; decide
  · rw [if_neg h]
    cases hs : scn (vG l) 0 l with
    | none => exact .inl rfl
    | some f =>
      obtain ⟨j, hj, he⟩ := scn_some hs
      unfold vG at he
      split at he
      · cases he
      · rename_i hc
        cases he
        exact .inr hc

theorem vreg_iff (l : List VV) : VReg l ↔ vfault l = ⟨0, 0⟩ := by
  have hN : vfault l = ⟨0, 0⟩ ↔ l.length ≤ 16 ∧ ∀ j (h : j < l.length), chk l[j] (l.take j) = 0 := by
    unfold vfault
    by_cases h : l.length > 16
    · rw [if_pos h]
      constructor
      · intro h; cases h
      · rintro ⟨h', _⟩; omega
    · rw [if_neg h]
      constructor
      · intro h2
        refine ⟨by omega, ?_⟩
        cases hs : scn (vG l) 0 l with
        | none =>
          intro j hj
          have := scn_none.1 hs j hj
          rw [Nat.zero_add] at this
          exact vG_none.1 this
        | some f =>
          rw [hs] at h2
          obtain ⟨j, hj, he⟩ := scn_some hs
          unfold vG at he
          split at he
          · cases he
          · rename_i hc
            cases he
            simp only [Option.getD_some, Fault.mk.injEq] at h2
            exact absurd h2.1 hc
      · rintro ⟨_, h2⟩
        rw [scn_none.2 (fun j hj => by rw [Nat.zero_add]; exact vG_none.2 (h2 j hj))]; rfl
  rw [hN]
  constructor
  · intro h
    refine ⟨h.len, fun j hj => chk_zero.2 ?_⟩
    have hm := List.getElem_mem hj
    refine ⟨h.val _ hm, h.six _ hm, h.rng _ hm, h.nz _ hm, ?_, ?_⟩
    · unfold befB
      by_cases hj0 : 0 < j
      · have hlen : (l.take j).length = j := by rw [List.length_take]; omega
        have hlast := last_at (ear := l.take j) (by omega)
        have e3 : (l.take j)[(l.take j).length - 1]'(by omega) = l[j - 1] := by
          rw [List.getElem_take]; congr 1; omega
        rw [e3] at hlast
        rw [hlast]
        exact (List.pairwise_iff_getElem.1 h.lex) (j - 1) j (by omega) hj (by omega)
      · have : j = 0 := by omega
        subst this
        rfl
    · intro x hx
      obtain ⟨i, hi, rfl⟩ := List.getElem_of_mem hx
      rw [List.length_take] at hi
      rw [List.getElem_take]
      exact (List.pairwise_iff_getElem.1 h.inc) i j (by omega) hj (by omega)
  · rintro ⟨hl, h⟩
    have hc := fun j hj => chk_zero.1 (h j hj)
    have six : ∀ v ∈ l, v.Vector.length = 6 := fun v hv => by obtain ⟨j, hj, rfl⟩ := List.getElem_of_mem hv; exact (hc j hj).2.1
    refine ⟨hl, six, fun v hv => by obtain ⟨j, hj, rfl⟩ := List.getElem_of_mem hv; exact (hc j hj).1, fun v hv => by obtain ⟨j, hj, rfl⟩ := List.getElem_of_mem hv; exact (hc j hj).2.2.1,
      fun v hv => by obtain ⟨j, hj, rfl⟩ := List.getElem_of_mem hv; exact (hc j hj).2.2.2.1, ?_, ?_⟩
    · have adj : ∀ j (hj : j + 1 < l.length), lexB l[j].Vector l[j + 1].Vector = true := by
        intro j hj
        have := (hc (j + 1) hj).2.2.2.2.1
        unfold befB at this
        have hlen : (l.take (j + 1)).length = j + 1 := by rw [List.length_take]; omega
        have hlast := last_at (ear := l.take (j + 1)) (by omega)
        have e3 : (l.take (j + 1))[(l.take (j + 1)).length - 1]'(by omega) = l[j] := by
          rw [List.getElem_take]; congr 1; omega
        rw [e3] at hlast
        rw [hlast] at this
        exact this
      rw [List.pairwise_iff_getElem]
      intro i j hi hj hij
      obtain ⟨d, rfl⟩ : ∃ d, j = i + 1 + d := ⟨j - (i + 1), by omega⟩
      clear hij
      induction d with
      | zero => exact adj i hj
      | succ d ih =>
        have h1 := ih (by omega)
        have h2 := adj (i + 1 + d) (by omega)
        exact lexB_trans (by rw [six _ (List.getElem_mem _), six _ (List.getElem_mem _)]) h1 h2
    · rw [List.pairwise_iff_getElem]
      intro i j hi hj hij
      have := (hc j hj).2.2.2.2.2 l[i] (by
        rw [List.mem_take_iff_getElem]
        exact ⟨i, by omega, rfl⟩)
      exact this
end Go.Dc
