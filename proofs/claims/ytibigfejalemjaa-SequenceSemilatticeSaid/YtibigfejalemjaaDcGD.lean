/- Replicated sequences: the document's Sorted and Visible. -/
import Derived.Test.YtibigfejalemjaaDcGC
set_option linter.unusedSimpArgs false
set_option linter.unusedVariables false
namespace Go.Dc
open Go

/-! ## the order of operations -/
def oLt (a b : SeqOp) : Bool := kLt (own a) (own b) || (decide (own a = own b) && (!a.Delete && b.Delete))
def okey (o : SeqOp) : K2 × Bool := (own o, o.Delete)

theorem oLt_irr (a : SeqOp) : oLt a a = false := by unfold oLt; rw [kLt_irr]; cases a.Delete <;> simp
theorem oLt_tri (a b : SeqOp) : oLt a b = true ∨ okey a = okey b ∨ oLt b a = true := by
  unfold oLt okey
  rcases kLt_tri (own a) (own b) with h | h | h
  · left; rw [h]; rfl
  · rw [h]; cases a.Delete <;> cases b.Delete <;> simp [kLt_irr]
  · right; right; rw [h]; rfl
theorem oLt_trans {a b c : SeqOp} (h1 : oLt a b = true) (h2 : oLt b c = true) : oLt a c = true := by
  unfold oLt at *
  simp only [Bool.or_eq_true, Bool.and_eq_true, decide_eq_true_eq, Bool.not_eq_true'] at *
  rcases h1 with h1 | ⟨h1, h3, h4⟩
  · rcases h2 with h2 | ⟨h2, _⟩
    · exact .inl (kLt_trans h1 h2)
    · rw [← h2]; exact .inl h1
  · rcases h2 with h2 | ⟨h2, h5, _⟩
    · rw [h1]; exact .inl h2
    · rw [h4] at h5; cases h5
theorem oLt_asymm {a b : SeqOp} (h : oLt a b = true) : oLt b a = false := by
  cases h2 : oLt b a with
  | false => rfl
  | true => have := oLt_trans h h2; rw [oLt_irr] at this; cases this
theorem oLt_nt {a b c : SeqOp} (h1 : oLt a b = false) (h2 : oLt b c = false) : oLt a c = false := by
  cases h : oLt a c with
  | false => rfl
  | true =>
    rcases oLt_tri a b with h3 | h3 | h3
    · rw [h3] at h1; cases h1
    · have : oLt b c = oLt a c := by unfold oLt; unfold okey at h3; simp only [Prod.mk.injEq] at h3; rw [h3.1, h3.2]
      rw [this, h] at h2; cases h2
    · rw [oLt_trans h3 h] at h2; cases h2

def Srt (l : List SeqOp) : Prop := l.Pairwise fun a b => oLt a b = true

theorem srt_nodup {l : List SeqOp} (h : Srt l) : (l.map okey).Nodup := by
  rw [List.nodup_iff_pairwise_ne, List.pairwise_map]
  refine h.imp fun {a b} hab e => ?_
  have : oLt a b = oLt b b := by unfold oLt; unfold okey at e; simp only [Prod.mk.injEq] at e; rw [e.1, e.2]
  rw [oLt_irr, hab] at this; cases this

/-- rising lists with the same members are the same -/
theorem srt_uniq : ∀ {l m : List SeqOp}, Srt l → Srt m → (∀ o, o ∈ l ↔ o ∈ m) → l = m
  | [], [], _, _, _ => rfl
  | [], y :: m, _, _, h => by have := (h y).2 (by simp); cases this
  | x :: l, [], _, _, h => by have := (h x).1 (by simp); cases this
  | x :: l, y :: m, hl, hm, h => by
    have hl2 := List.pairwise_cons.1 hl
    have hm2 := List.pairwise_cons.1 hm
    have hxy : x = y := by
      have h1 := (h x).1 (by simp)
      have h2 := (h y).2 (by simp)
      rcases List.mem_cons.1 h1 with h1 | h1
      · exact h1
      · rcases List.mem_cons.1 h2 with h2 | h2
        · exact h2.symm
        · have a := hm2.1 x h1
          have b := hl2.1 y h2
          rw [oLt_asymm a] at b; cases b
    subst hxy
    rw [srt_uniq hl2.2 hm2.2 fun o => ?_]
    constructor
    · intro ho
      rcases List.mem_cons.1 ((h o).1 (by simp [ho])) with rfl | h1
      · have := hl2.1 o ho; rw [oLt_irr] at this; cases this
      · exact h1
    · intro ho
      rcases List.mem_cons.1 ((h o).2 (by simp [ho])) with rfl | h1
      · have := hm2.1 o ho; rw [oLt_irr] at this; cases this
      · exact h1

/-! ## loops that make room -/
theorem shift_loop {α : Type} {f : Int × List α → Option (Step (Int × List α) (List α))} {out : List α} {z : α} {p : Nat} (hp : p ≤ out.length)
    (hs : ∀ (j : Nat) (L : List α), p ≤ j → L.length = out.length + 1 → (h : j + 1 < L.length) → f (((j + 1 : Nat) : Int), L) = some (.next ((j : Int), L.set (j + 1) (L[j]'(by omega)))))
    (he : ∀ L : List α, f ((p : Int), L) = some (.done L)) : ∃ L, iter f ((out.length : Int), out ++ [z]) = some L ∧ L.length = out.length + 1 ∧ ∀ x, L.set p x = out.take p ++ x :: out.drop p := by
  have key : ∀ (d j : Nat) (L : List α), j = p + d → j ≤ out.length → L.length = out.length + 1 → L.take j = out.take j → L.drop (j + 1) = out.drop j →
      ∃ L', iter f ((j : Int), L) = some L' ∧ L'.length = out.length + 1 ∧ ∀ x, L'.set p x = out.take p ++ x :: out.drop p := by
    intro d
    induction d with
    | zero =>
      intro j L hj hjl hl h1 h2
      have : j = p := by omega
      subst this
      refine ⟨L, iter_done (he L), hl, fun x => ?_⟩
      rw [List.set_eq_take_append_cons_drop, if_pos (by omega), h1, h2]
    | succ d ih =>
      intro j L hj hjl hl h1 h2
      obtain ⟨i, rfl⟩ : ∃ i, j = i + 1 := ⟨j - 1, by omega⟩
      rw [iter_next (hs i L (by omega) hl (by omega))]
      have hLi : L[i]'(by omega) = out[i]'(by omega) := by
        have := congrArg (fun l => l[i]?) h1
        simp only [List.getElem?_take] at this
        rw [if_pos (by omega), if_pos (by omega), List.getElem?_eq_getElem (by omega), List.getElem?_eq_getElem (by omega)] at this
        exact Option.some.inj this
      refine ih i _ (by omega) (by omega) (by rw [List.length_set]; exact hl) ?_ ?_
      · rw [List.take_set_of_le (by omega)]
        have := congrArg (List.take i) h1
        rwa [List.take_take, List.take_take, Nat.min_eq_left (by omega)] at this
      · have e1 : (L.set (i + 1) (L[i]'(by omega))).drop (i + 1) = L[i]'(by omega) :: L.drop (i + 1 + 1) := by
          rw [List.drop_eq_getElem_cons (by rw [List.length_set]; omega), List.getElem_set_self, List.drop_set_of_lt (by omega)]
        rw [e1, h2, hLi, ← List.drop_eq_getElem_cons (by omega)]
  exact key (out.length - p) out.length _ (by omega) (Nat.le_refl _) (by simp) (by simp) (by simp)

/-! ## Sorted -/
def cnd (x y : SeqOp) : Bool := kLt (own x) (own y) || (decide (own x = own y) && !x.Delete)

theorem pos_f {l out : List SeqOp} {k : Nat} (hk : k < l.length) (hl : l.length ≤ 1000) (ho : out.length ≤ 1000) : ∃ p : Nat, iter (fun s => changeforgeref2_Sorted.l3 l (k : Int) out s) (out.length : Int) = some (p : Int) ∧ p ≤ out.length ∧
    (∀ i (h : i < out.length), p ≤ i → cnd l[k] out[i] = true) ∧ (∀ h : 0 < p, ∀ h2 : p - 1 < out.length, cnd l[k] (out[p - 1]'h2) = false) := by
  obtain ⟨r, h1, p, rfl, h2⟩ := iter_rule (m := fun s => changeforgeref2_Sorted.l3 l (k : Int) out s) (fun s => ∃ p : Nat, s = (p : Int) ∧ p ≤ out.length ∧ ∀ i (h : i < out.length), p ≤ i → cnd l[k] out[i] = true) (fun s => s.toNat)
    (fun r => ∃ p : Nat, r = (p : Int) ∧ p ≤ out.length ∧ (∀ i (h : i < out.length), p ≤ i → cnd l[k] out[i] = true) ∧ (∀ h : 0 < p, ∀ h2 : p - 1 < out.length, cnd l[k] (out[p - 1]'h2) = false)) (by
      rintro s ⟨p, rfl, hp, hall⟩
      unfold changeforgeref2_Sorted.l3
      cases p with
      | zero =>
        refine .inr ⟨_, ?_, 0, rfl, hp, hall, fun h => absurd h (by omega)⟩
        simp
      | succ p =>
        have hpl : p < out.length := by omega
        have e1 : (((p + 1 : Nat) : Int) - 1) = (p : Int) := by omega
        simp (disch := omega) only [decide_eq_true_eq, if_pos, at_nat hk, e1, ck_eq, at_nat hpl, Option.bind_some, Before_f, Same_f]
        have e2 : (if kLt (l[k].Counter, l[k].Replica) (out[p].Counter, out[p].Replica) = true then some true else
            (if decide (own l[k] = own out[p]) = true then some (!l[k].Delete) else some false).bind fun x15 => some x15) = some (cnd l[k] out[p]) := by
          rw [show ((l[k].Counter, l[k].Replica) : K2) = own l[k] from rfl, show ((out[p].Counter, out[p].Replica) : K2) = own out[p] from rfl]
          unfold cnd
          cases kLt (own l[k]) (own out[p]) with
          | true => rfl
          | false => by_cases h : own l[k] = own out[p] <;> simp [h]
        simp only [decide_eq_true_eq] at e2
        simp only [e2, Option.bind_some]
        cases hc : cnd l[k] out[p] with
        | true =>
          simp only [if_true]
          refine .inl ⟨_, rfl, ⟨p, rfl, by omega, fun i hi hpi => ?_⟩, by omega⟩
          by_cases he : i = p
          · subst he; exact hc
          · exact hall i hi (by omega)
        | false =>
          simp only [Bool.false_eq_true, if_false]
          exact .inr ⟨_, rfl, p + 1, rfl, hp, hall, fun _ h2 => hc⟩) _ ⟨out.length, rfl, Nat.le_refl _, fun i hi h => absurd h (by omega)⟩
  exact ⟨p, h1, h2⟩

theorem cnd_lt {x y : SeqOp} (hk : okey x ≠ okey y) : cnd x y = oLt x y := by
  unfold cnd oLt
  cases kLt (own x) (own y) with
  | true => rfl
  | false =>
    by_cases h : own x = own y
    · cases hx : x.Delete with
      | true => simp
      | false =>
        cases hy : y.Delete with
        | true => simp
        | false => exact absurd (by unfold okey; rw [h, hx, hy]) hk
    · simp [h]

theorem put_srt {out : List SeqOp} {x : SeqOp} {p : Nat} (hs : Srt out) (hp : p ≤ out.length) (hk : ∀ y ∈ out, okey x ≠ okey y) (h1 : ∀ i (h : i < out.length), p ≤ i → cnd x out[i] = true)
    (h2 : ∀ h : 0 < p, ∀ h2 : p - 1 < out.length, cnd x (out[p - 1]'h2) = false) : Srt (out.take p ++ x :: out.drop p) := by
  have ha : ∀ a ∈ out.take p, oLt a x = true := by
    intro a ha
    obtain ⟨i, hi, rfl⟩ := List.mem_take_iff_getElem.1 ha
    have hi2 : i < p := by omega
    have hlast : oLt (out[p - 1]'(by omega)) x = true := by
      have h3 := h2 (by omega) (by omega)
      rw [cnd_lt (hk _ (List.getElem_mem _))] at h3
      rcases oLt_tri x (out[p - 1]'(by omega)) with h4 | h4 | h4
      · rw [h4] at h3; cases h3
      · exact absurd h4 (hk _ (List.getElem_mem _))
      · exact h4
    by_cases he : i = p - 1
    · subst he; exact hlast
    · exact oLt_trans (List.pairwise_iff_getElem.1 hs i (p - 1) (by omega) (by omega) (by omega)) hlast
  have hb : ∀ b ∈ out.drop p, oLt x b = true := by
    intro b hb
    obtain ⟨i, hi, rfl⟩ := List.mem_drop_iff_getElem.1 hb
    have := h1 (p + i) (by omega) (by omega)
    rwa [cnd_lt (hk _ (List.getElem_mem _))] at this
  unfold Srt
  rw [List.pairwise_append, List.pairwise_cons]
  refine ⟨hs.sublist (List.take_sublist _ _), ⟨hb, hs.sublist (List.drop_sublist _ _)⟩, fun a h3 b h4 => ?_⟩
  rcases List.mem_cons.1 h4 with rfl | h4
  · exact ha a h3
  · exact oLt_trans (ha a h3) (hb b h4)

theorem put_perm {out : List SeqOp} {x : SeqOp} (p : Nat) : (out.take p ++ x :: out.drop p).Perm (out ++ [x]) := by
  refine List.perm_middle.trans ?_
  rw [List.take_append_drop]
  exact (List.perm_append_singleton x out).symm

theorem Sorted_f (l : List SeqOp) (hl : l.length ≤ 1000) : ∃ s, changeforgeref2_Sorted l = some s ∧ s.Perm l ∧ ((l.map okey).Nodup → Srt s) := by
  unfold changeforgeref2_Sorted
  obtain ⟨r, hr, s, rfl, h1, h2⟩ := inv_loop (f := fun s : Int × List SeqOp => changeforgeref2_Sorted.l1 l s.1 s.2) l.length
    (fun k out => out.Perm (l.take k) ∧ ((l.map okey).Nodup → Srt out))
    (fun r => ∃ s, r = s ∧ s.Perm l ∧ ((l.map okey).Nodup → Srt s))
    (by
      rintro k out hk ⟨hp, hs⟩
      have hol : out.length = k := by rw [hp.length_eq, List.length_take]; omega
      obtain ⟨p, e1, hpl, hc1, hc2⟩ := pos_f (out := out) hk hl (by omega)
      unfold changeforgeref2_Sorted.l1
      simp only
      rw [ite_dec, if_pos (by omega), e1, Option.bind_some]
      unfold changeforgeref2_Sorted.j3
      rw [app_eq (by simp only [List.length_cons, List.length_nil]; omega), Option.bind_some]
      have e2 : ((out ++ [({ Delete := false, Replica := 0, Counter := 0, AfterReplica := 0, AfterCounter := 0, Line := ByteArray.empty } : SeqOp)]).length : Int) - 1 = (out.length : Int) := by simp
      rw [e2, ck_eq (by omega) (by omega), Option.bind_some]
      obtain ⟨L, e3, hL, hset⟩ := shift_loop (f := fun s : Int × List SeqOp => changeforgeref2_Sorted.l2 (p : Int) s.1 s.2) (out := out) (z := ({ Delete := false, Replica := 0, Counter := 0, AfterReplica := 0, AfterCounter := 0, Line := ByteArray.empty } : SeqOp)) hpl
        (fun j L hj hLl h => by
          unfold changeforgeref2_Sorted.l2
          have e4 : ((j + 1 : Nat) : Int) - 1 = (j : Int) := by omega
          have hj0 : j < L.length := by omega
          simp (disch := omega) only [decide_eq_true_eq, if_pos, e4, ck_eq, Option.bind_some, at_nat h, at_nat hj0]
          rfl)
        (fun L => by unfold changeforgeref2_Sorted.l2; simp)
      rw [e3, Option.bind_some]
      unfold changeforgeref2_Sorted.j4 changeforgeref2_Sorted.j2
      have hpL : p < L.length := by omega
      simp (disch := omega) only [at_nat hk, at_nat hpL, Option.bind_some, Int.toNat_natCast, hset, ck_eq]
      refine ⟨_, rfl, ?_, fun hn => ?_⟩
      · rw [List.take_succ_eq_append_getElem hk]
        exact (put_perm p).trans (hp.append_right _)
      · refine put_srt (hs hn) hpl (fun y hy e => ?_) hc1 hc2
        obtain ⟨i, hi, rfl⟩ := List.mem_take_iff_getElem.1 (hp.mem_iff.1 hy)
        rw [List.nodup_iff_pairwise_ne, List.pairwise_iff_getElem] at hn
        have := hn i k (by simp; omega) (by simpa using hk) (by omega)
        simp only [List.getElem_map] at this
        exact this e.symm)
    (by
      rintro out ⟨hp, hs⟩
      rw [List.take_length] at hp
      unfold changeforgeref2_Sorted.l1
      rw [ite_dec, if_neg (by omega)]
      exact ⟨_, rfl, out, rfl, hp, hs⟩)
    [] ⟨by simp, fun _ => List.Pairwise.nil⟩
  rw [hr, Option.bind_some]
  exact ⟨r, rfl, h1, h2⟩
end Go.Dc
