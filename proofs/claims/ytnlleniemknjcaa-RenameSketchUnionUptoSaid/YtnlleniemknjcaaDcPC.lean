/- blame.Annotate: what it comes to. -/
import Derived.Test.YtnlleniemknjcaaDcPB
namespace Go.Dc
open Go

theorem drop_consI {α : Type} {l : List α} {i : Nat} (h : i < l.length) : l.drop i = l[i] :: l.drop (i + 1) := List.drop_eq_getElem_cons h

theorem step_eq {i : Int} {ss old : List Int} (hs : ss.length * 8 ≤ 140737488355328) (hu : used ss ≤ old.length) :
    iter (fun s => blame_Annotate.l2 i ss s.1 s.2.1 s.2.2) (0, [], old) = some (app1 i ss old) := by
  refine iter_eq_of (σ := Int × List Int × List Int) (fun s => ∃ k : Nat, k ≤ ss.length ∧ s.1 = (k : Int) ∧ s.2.1.length ≤ k ∧ used (ss.drop k) ≤ s.2.2.length ∧ s.2.1 ++ app1 i (ss.drop k) s.2.2 = app1 i ss old) (fun s => ss.length - s.1.toNat) _ ?_ _ ⟨0, Nat.zero_le _, rfl, by simp, by simpa using hu, by simp⟩
  rintro ⟨x, out, od⟩ ⟨k, hk, hx, hl, hu, ho⟩
  simp only at hx hl hu ho ⊢
  subst hx
  unfold blame_Annotate.l2
  rw [ite_dec]
  by_cases hlt : k < ss.length
  · left
    have hd := drop_consI hlt
    rw [hd] at hu ho
    rw [if_pos (by omega), at_nat hlt, Option.bind_some, ite_dec]
    have nxt : ∀ out' od' : List Int, out'.length ≤ k + 1 → used (ss.drop (k + 1)) ≤ od'.length → out' ++ app1 i (ss.drop (k + 1)) od' = app1 i ss old →
        ∃ s', blame_Annotate.j5 (k : Int) out' od' = some (.next s') ∧ (∃ q : Nat, q ≤ ss.length ∧ s'.1 = (q : Int) ∧ s'.2.1.length ≤ q ∧ used (ss.drop q) ≤ s'.2.2.length ∧ s'.2.1 ++ app1 i (ss.drop q) s'.2.2 = app1 i ss old) ∧ ss.length - s'.1.toNat < ss.length - (k : Int).toNat := by
      intro out' od' h1 h2 h3
      unfold blame_Annotate.j5
      rw [ck_eq (by omega) (by omega), Option.bind_some]
      exact ⟨_, rfl, ⟨k + 1, hlt, by simp, h1, h2, h3⟩, by simp only; omega⟩
    by_cases h2 : ss[k] = 2
    · rw [if_pos h2, app_eq (by simp only [List.length_singleton]; omega), Option.bind_some]
      rw [used, if_pos h2] at hu
      rw [app1_cons, if_pos h2] at ho
      exact nxt _ _ (by simp; omega) hu (by rw [List.append_assoc]; exact ho)
    · rw [if_neg h2, ite_dec]
      rw [used, if_neg h2] at hu
      rw [app1_cons, if_neg h2] at ho
      match od, hu, ho with
      | [], hu, _ => exact absurd hu (by simp)
      | o :: od', hu, ho =>
        simp only [List.length_cons] at hu
        have j6 : ∀ out', blame_Annotate.j6 (k : Int) (o :: od') out' = blame_Annotate.j5 (k : Int) out' od' := by
          intro out'
          unfold blame_Annotate.j6
          rw [cut_eq (by omega) (by simp only [List.length_cons]; omega) (by omega), Option.bind_some]
          congr 1
          rw [show (((o :: od').length : Int)).toNat = (o :: od').length from by omega, List.take_length]
          rfl
        by_cases h0 : ss[k] = 0
        · rw [if_pos h0]
          simp only [if_pos h0] at ho
          rw [show at? (o :: od') 0 = some o from rfl, Option.bind_some, app_eq (by simp only [List.length_singleton]; omega), Option.bind_some, j6]
          exact nxt _ _ (by simp; omega) (by omega) (by rw [List.append_assoc]; exact ho)
        · rw [if_neg h0]
          simp only [if_neg h0] at ho
          rw [j6]
          exact nxt _ _ (by omega) (by omega) ho
  · right
    rw [if_neg (by omega)]
    have : ss.drop k = [] := List.drop_eq_nil_of_le (by omega)
    rw [this] at ho
    simp only [app1, List.append_nil] at ho
    rw [ho]

/-- what the program takes -/
def OkFiles (vs : List (List ByteArray)) : Prop := vs.length ≤ 16 ∧ ∀ v ∈ vs, OkText v

theorem okText_small {a b : List ByteArray} (ha : OkText a) (hb : OkText b) : (a.length + 1) * (b.length + 1) * 8 ≤ 140737488355328 := by
  have h1 : a.length + 1 ≤ 121 := by have := ha.1; omega
  have h2 : b.length + 1 ≤ 121 := by have := hb.1; omega
  have := Nat.mul_le_mul h1 h2
  omega

theorem annotate_loop {vs : List (List ByteArray)} (ho : OkFiles vs) : iter (fun s => blame_Annotate.l1 vs s.1 s.2) (0, []) = some (annot vs) := by
  refine iter_eq_of (σ := Int × List Int) (fun s => ∃ k : Nat, k ≤ vs.length ∧ s.1 = (k : Int) ∧ s.2 = annot (vs.take k) ∧ (∀ (h : k - 1 < vs.length), 0 < k → s.2.length = vs[k - 1].length)) (fun s => vs.length - s.1.toNat) _ ?_ _ ⟨0, Nat.zero_le _, rfl, by simp [annot], fun _ h => absurd h (by omega)⟩
  rintro ⟨x, old⟩ ⟨k, hk, hx, hold, hlen⟩
  simp only at hx hold hlen ⊢
  subst hx
  have h16 := ho.1
  unfold blame_Annotate.l1
  rw [ite_dec]
  by_cases hlt : k < vs.length
  · left
    rw [if_pos (by omega), at_nat hlt, Option.bind_some, ite_dec]
    have okk := ho.2 _ (List.getElem_mem hlt)
    have nxt : ∀ old' : List Int, old' = annot (vs.take (k + 1)) → old'.length = vs[k].length → ∃ s', blame_Annotate.j3 (k : Int) old' = some (.next s') ∧ (∃ q : Nat, q ≤ vs.length ∧ s'.1 = (q : Int) ∧ s'.2 = annot (vs.take q) ∧ (∀ (h : q - 1 < vs.length), 0 < q → s'.2.length = vs[q - 1].length)) ∧ vs.length - s'.1.toNat < vs.length - (k : Int).toNat := by
      intro old' h1 h2
      unfold blame_Annotate.j3
      rw [ck_eq (by omega) (by omega), Option.bind_some]
      exact ⟨_, rfl, ⟨k + 1, hlt, by simp, h1, fun h _ => h2⟩, by simp only; omega⟩
    cases k with
    | zero =>
      rw [if_pos (by rfl)]
      have := okk.1
      rw [mk_eq (by omega) (by omega), Option.bind_some]
      refine nxt _ ?_ (by simp)
      rw [List.take_succ_eq_append_getElem hlt]
      simp [annot, anng]
    | succ k =>
      have hk' : k < vs.length := by omega
      rw [if_neg (by omega), ck_eq (by omega) (by omega), Option.bind_some, show ((k + 1 : Nat) : Int) - 1 = (k : Int) from by omega, at_nat hk', Option.bind_some]
      have okp := ho.2 _ (List.getElem_mem hk')
      have h1 := okk.1
      have h2 := okp.1
      rw [align_eq (okText_small okp okk), Option.bind_some]
      have hal := algn_len vs[k] vs[k + 1]
      have hold' : old.length = vs[k].length := hlen (by omega) (by omega)
      have hnt : vs.take (k + 1) ≠ [] := by intro h; have := congrArg List.length h; rw [List.length_take, List.length_nil] at this; omega
      have hlast : (vs.take (k + 1)).getLast hnt = vs[k] := by
        rw [List.getLast_eq_getElem]
        have e : (vs.take (k + 1)).length - 1 = k := by rw [List.length_take]; omega
        simp only [e, List.getElem_take]
      rw [step_eq (by omega) (by rw [algn_used]; omega), Option.bind_some]
      unfold blame_Annotate.j4
      refine nxt _ ?_ ?_
      · rw [List.take_succ_eq_append_getElem hlt, annot_snoc _ hnt, hlast, ← hold]
        congr 1
        rw [List.length_take]; omega
      · have hall := annot_stays _ _ hnt rfl
        rw [hlast, ← hold] at hall
        exact (app1_all (R' := fun _ _ => True) (i := ((k + 1 : Nat) : Int)) vs[k] vs[k + 1] old hall (fun _ _ _ _ => trivial) (fun _ _ => trivial)).length
  · right
    rw [if_neg (by omega), hold, List.take_of_length_le (by omega)]

theorem annotate_eq (vs : List (List ByteArray)) : ∃ os f, blame_Annotate vs = some (os, f) ∧ ((f = ⟨0, 0⟩ ∧ os = annot vs ∧ OkFiles vs) ∨ (f.Code ≠ 0 ∧ ¬ OkFiles vs)) := by
  unfold blame_Annotate
  rw [ite_dec]
  by_cases h16 : (vs.length : Int) > 16
  · rw [if_pos h16]
    exact ⟨_, _, rfl, .inr ⟨by simp, fun h => by have := h.1; omega⟩⟩
  · rw [if_neg h16]
    obtain ⟨r, h1, h2⟩ := iter_rule (m := fun s => blame_Annotate.l3 vs s) (fun s => ∃ k : Nat, s = (k : Int) ∧ k ≤ vs.length ∧ ∀ q (hq : q < vs.length), q < k → OkText vs[q]) (fun s => vs.length - s.toNat)
      (fun r => (r = .inr () ∧ OkFiles vs) ∨ ∃ f, r = .inl ([], f) ∧ f.Code ≠ 0 ∧ ¬ OkFiles vs) (by
        rintro s ⟨k, rfl, hk, hall⟩
        unfold blame_Annotate.l3
        rw [ite_dec]
        by_cases hlt : k < vs.length
        · rw [if_pos (by omega), at_nat hlt, Option.bind_some]
          obtain ⟨f, h1, h2⟩ := second_eq vs[k] k
          rw [h1, Option.bind_some]
          rcases h2 with ⟨rfl, h2⟩ | ⟨h2, h3⟩
          · rw [if_neg (by simp), ck_eq (by omega) (by omega), Option.bind_some]
            refine .inl ⟨_, rfl, ⟨k + 1, by omega, hlt, fun q hq hqk => ?_⟩, by omega⟩
            by_cases he : q = k
            · subst he; exact h2
            · exact hall q hq (by omega)
          · rw [if_pos (faultless.2 (fun h => h2 h.1))]
            exact .inr ⟨_, rfl, .inr ⟨f, rfl, h2, fun h => h3 (h.2 _ (List.getElem_mem hlt))⟩⟩
        · rw [if_neg (by omega)]
          refine .inr ⟨_, rfl, .inl ⟨rfl, by omega, fun s hs => ?_⟩⟩
          obtain ⟨q, hq, rfl⟩ := List.getElem_of_mem hs
          exact hall q hq (by omega)) 0 ⟨0, rfl, Nat.zero_le _, fun q hq h => absurd h (by omega)⟩
    rw [h1, Option.bind_some]
    rcases h2 with ⟨rfl, h⟩ | ⟨f, rfl, h, h'⟩
    · simp only
      unfold blame_Annotate.j1 blame_Annotate.j2
      rw [annotate_loop h, Option.bind_some]
      exact ⟨_, _, rfl, .inl ⟨rfl, rfl, h⟩⟩
    · exact ⟨_, _, rfl, .inr ⟨h, h'⟩⟩

theorem annotate_ok {vs : List (List ByteArray)} (h : OkFiles vs) : blame_Annotate vs = some (annot vs, ⟨0, 0⟩) := by
  obtain ⟨os, f, h1, h2⟩ := annotate_eq vs
  rcases h2 with ⟨rfl, rfl, _⟩ | ⟨_, h3⟩
  · exact h1
  · exact absurd h h3

theorem ints_eq (a b : List Int) (hb : a.length ≤ 1000000) : changeforgeequal_Ints a b = some (decide (a = b)) := by
  unfold changeforgeequal_Ints
  rw [ite_ndec]
  by_cases hl : (a.length : Int) = (b.length : Int)
  · rw [if_pos hl]
    have hl' : a.length = b.length := by omega
    obtain ⟨r, h1, h2⟩ := iter_rule (m := fun s => changeforgeequal_Ints.l1 a b s) (fun s => ∃ k : Nat, s = (k : Int) ∧ k ≤ a.length ∧ a.take k = b.take k) (fun s => a.length - s.toNat)
      (fun r => (r = .inr () ∧ a = b) ∨ (r = .inl false ∧ a ≠ b)) (by
        rintro s ⟨k, rfl, hk, hall⟩
        unfold changeforgeequal_Ints.l1
        rw [ite_dec]
        by_cases hlt : k < a.length
        · rw [if_pos (by omega), at_nat hlt, Option.bind_some, at_nat (by omega), Option.bind_some, ite_ndec]
          by_cases he : a[k] = b[k]
          · rw [if_pos he, ck_eq (by omega) (by omega), Option.bind_some]
            exact .inl ⟨_, rfl, ⟨k + 1, by omega, hlt, by rw [List.take_succ_eq_append_getElem hlt, List.take_succ_eq_append_getElem (by omega), hall, he]⟩, by omega⟩
          · rw [if_neg he]
            exact .inr ⟨_, rfl, .inr ⟨rfl, fun h => he (by subst h; rfl)⟩⟩
        · rw [if_neg (by omega)]
          refine .inr ⟨_, rfl, .inl ⟨rfl, ?_⟩⟩
          rw [List.take_of_length_le (by omega), List.take_of_length_le (by omega)] at hall
          exact hall) 0 ⟨0, rfl, Nat.zero_le _, by simp⟩
    rw [h1, Option.bind_some]
    rcases h2 with ⟨rfl, h⟩ | ⟨rfl, h⟩
    · rw [decide_eq_true h]; rfl
    · rw [decide_eq_false h]
  · rw [if_neg hl, decide_eq_false (fun h => hl (by rw [h]))]

theorem strings_eq (a b : List ByteArray) (hb : a.length ≤ 1000000) : changeforgeequal_Strings a b = some (decide (a = b)) := by
  unfold changeforgeequal_Strings
  rw [ite_ndec]
  by_cases hl : (a.length : Int) = (b.length : Int)
  · rw [if_pos hl]
    have hl' : a.length = b.length := by omega
    obtain ⟨r, h1, h2⟩ := iter_rule (m := fun s => changeforgeequal_Strings.l1 a b s) (fun s => ∃ k : Nat, s = (k : Int) ∧ k ≤ a.length ∧ a.take k = b.take k) (fun s => a.length - s.toNat)
      (fun r => (r = .inr () ∧ a = b) ∨ (r = .inl false ∧ a ≠ b)) (by
        rintro s ⟨k, rfl, hk, hall⟩
        unfold changeforgeequal_Strings.l1
        rw [ite_dec]
        by_cases hlt : k < a.length
        · rw [if_pos (by omega), at_nat hlt, Option.bind_some, at_nat (by omega), Option.bind_some, ite_ndec]
          by_cases he : a[k] = b[k]
          · rw [if_pos he, ck_eq (by omega) (by omega), Option.bind_some]
            exact .inl ⟨_, rfl, ⟨k + 1, by omega, hlt, by rw [List.take_succ_eq_append_getElem hlt, List.take_succ_eq_append_getElem (by omega), hall, he]⟩, by omega⟩
          · rw [if_neg he]
            exact .inr ⟨_, rfl, .inr ⟨rfl, fun h => he (by subst h; rfl)⟩⟩
        · rw [if_neg (by omega)]
          refine .inr ⟨_, rfl, .inl ⟨rfl, ?_⟩⟩
          rw [List.take_of_length_le (by omega), List.take_of_length_le (by omega)] at hall
          exact hall) 0 ⟨0, rfl, Nat.zero_le _, by simp⟩
    rw [h1, Option.bind_some]
    rcases h2 with ⟨rfl, h⟩ | ⟨rfl, h⟩
    · rw [decide_eq_true h]; rfl
    · rw [decide_eq_false h]
  · rw [if_neg hl, decide_eq_false (fun h => hl (by rw [h]))]

theorem added_eq : changeforgelaw2_added = some true := by
  have hok : OkFiles [[(⟨#[97]⟩ : ByteArray)], [(⟨#[98]⟩ : ByteArray), (⟨#[97]⟩ : ByteArray)]] := by
    have hx : OkLine (⟨#[97]⟩ : ByteArray) := ⟨by decide, by decide⟩
    have hy : OkLine (⟨#[98]⟩ : ByteArray) := ⟨by decide, by decide⟩
    refine ⟨by simp, ?_⟩
    intro v hv
    simp only [List.mem_cons, List.not_mem_nil, or_false] at hv
    rcases hv with rfl | rfl
    · exact ⟨by simp, by intro s hs; simp only [List.mem_cons, List.not_mem_nil, or_false] at hs; subst hs; exact hx⟩
    · refine ⟨by simp, ?_⟩
      intro s hs
      simp only [List.mem_cons, List.not_mem_nil, or_false] at hs
      rcases hs with rfl | rfl
      · exact hy
      · exact hx
  have hne : (⟨#[97]⟩ : ByteArray) ≠ (⟨#[98]⟩ : ByteArray) := by decide
  unfold changeforgelaw2_added
  rw [annotate_ok hok, Option.bind_some]
  simp only [decide_true, if_true]
  have : annot [[(⟨#[97]⟩ : ByteArray)], [(⟨#[98]⟩ : ByteArray), (⟨#[97]⟩ : ByteArray)]] = [1, 0] := by
    simp [annot, anng, algn, lcs, hne, app1]
  rw [this, ints_eq _ _ (by simp)]
  simp

/-- BlameUnchanged: the law's function answers yes -/
theorem unchanged_eq (vs : List (List ByteArray)) : changeforgelaw2_BlameUnchanged vs = some true := by
  obtain ⟨os, f, h1, h2⟩ := annotate_eq vs
  unfold changeforgelaw2_BlameUnchanged
  rw [h1, Option.bind_some]
  simp only [ite_ndec, ite_dec]
  rcases h2 with ⟨rfl, rfl, hok⟩ | ⟨h2, h3⟩
  · have h16 := hok.1
    simp only [if_true]
    by_cases h0 : vs.length = 0
    · simp [h0, added_eq]
    · by_cases h15 : (vs.length : Int) ≥ 16
      · simp [h15, added_eq]
      · have hlast : vs.length - 1 < vs.length := by omega
        have hne : vs ≠ [] := by intro h; simp [h] at h0
        have hc : OkFiles (vs ++ [vs[vs.length - 1]]) := ⟨by simp; omega, fun v hv => by
          rcases List.mem_append.1 hv with h | h
          · exact hok.2 _ h
          · rw [List.mem_singleton.1 h]; exact hok.2 _ (List.getElem_mem _)⟩
        rw [decide_eq_false (by omega), decide_eq_false h15]
        simp only [Option.bind_some, Bool.false_eq_true, if_false]
        rw [app_eq (by simp only [List.length_nil]; omega), Option.bind_some, ck_eq (by omega) (by omega), Option.bind_some, show (vs.length : Int) - 1 = ((vs.length - 1 : Nat) : Int) from by omega, at_nat hlast, Option.bind_some, List.nil_append, app_eq (by simp only [List.length_singleton]; omega), Option.bind_some, annotate_ok hc]
        simp only [Option.bind_some, if_true]
        have hgl : vs.getLast hne = vs[vs.length - 1] := List.getLast_eq_getElem hne
        have hlen : (annot vs).length = vs[vs.length - 1].length := by rw [annot_len vs hne, hgl]
        have he : annot (vs ++ [vs[vs.length - 1]]) = annot vs := by
          rw [annot_snoc vs hne, hgl, algn_self, app1_self _ _ _ hlen]
        have hsm : (annot vs).length ≤ 1000000 := by
          rw [hlen]; have := (hok.2 _ (List.getElem_mem hlast)).1; omega
        rw [he, ints_eq _ _ hsm]
        simp [added_eq]
  · rw [if_neg h2]
    simp [added_eq]

end Go.Dc
