/- The document's Compose: its loops. -/
import Derived.Test.YtgcjgmfdnhimmaaDcQP
set_option linter.unusedSimpArgs false
set_option linter.unusedVariables false
namespace Go.Dc
open Go

theorem wt_kept {X : List ByteArray} {b : Nat} {l : List ByteArray} {M : List Mid} (h1 : Mt X b l) (h2 : b + l.length < X.length) (h3 : WT X (b + l.length + 1) M) : WT X b (kept l :: M) := ⟨h1, fun _ => h2, h3⟩
theorem itm_kept (b : Nat) (l : List ByteArray) (M : List Mid) : itm b (kept l :: M) = kit (b + l.length) :: itm (b + l.length + 1) M := rfl

def Small (l : List Hunk) : Prop := ∀ h ∈ l, 0 ≤ h.At ∧ h.At + h.Old.length ≤ 120 ∧ h.Old.length ≤ 120 ∧ h.New.length ≤ 120
theorem small_of {p : Patch} (hp : (patchFault p).Code = 0) : Small p.Hunks := fun h hh => by
  obtain ⟨a, b, c, d, _⟩ := good_at ((patchFault_good p).1 hp).2 (by omega) h hh
  exact ⟨a, b, textFault_len c, textFault_len d⟩

theorem rc5_done (p : Patch) (x k : Nat) (items : List Item) (X : List ByteArray) (hx : x = 400) (rest : List Hunk) (hs : Srt ((x : Int) - 1) rest) (hsm : Small rest) (hX : X.length = 400) :
    ∃ X', iter (fun s => changeforgeref1_Compose.l5 p s.1 s.2.1 s.2.2.1 s.2.2.2) ((x : Int), (k : Int), items, X) = some (items ++ itm x (mids4 x rest []), X') ∧ X'.length = 400 ∧ X'.take x = X.take x ∧ WT X' x (mids4 x rest []) := by
  subst hx
  cases rest with
  | cons h r => have := hs.1; have := hsm h (by simp); omega
  | nil =>
    refine ⟨X, iter_done ?_, hX, rfl, trivial⟩
    simp only
    unfold changeforgeref1_Compose.l5
    rw [ite_dec, if_neg (by omega)]
    show _ = some (Step.done (items ++ [], X))
    rw [List.append_nil]

theorem rc5 (p : Patch) (hn : p.Hunks.length ≤ 130) : ∀ (N x k : Nat) (rest : List Hunk) (items : List Item) (X : List ByteArray), 400 - x ≤ N → x ≤ 400 → p.Hunks.drop k = rest → Srt ((x : Int) - 1) rest → Small rest → X.length = 400 → items.length ≤ x * 200 → k ≤ 130 →
    ∃ X', iter (fun s => changeforgeref1_Compose.l5 p s.1 s.2.1 s.2.2.1 s.2.2.2) ((x : Int), (k : Int), items, X) = some (items ++ itm x (mids4 x rest []), X') ∧ X'.length = 400 ∧ X'.take x = X.take x ∧ WT X' x (mids4 x rest []) := by
  intro N
  induction N with
  | zero =>
    intro x k rest items X hN hx hk hs hsm hX hi hk130
    exact rc5_done p x k items X (by omega) rest hs hsm hX
  | succ N ih =>
    intro x k rest items X hN hx hk hs hsm hX hi hk130
    by_cases hx4 : x = 400
    · exact rc5_done p x k items X hx4 rest hs hsm hX
    have plain : (∀ h ∈ rest, (x : Int) < h.At) → (if decide ((k : Int) < (p.Hunks.length : Int)) = true then (at? p.Hunks (k : Int)).bind fun y27 => some (decide (y27.At = (x : Int))) else some false) = some false →
        ∃ X', iter (fun s => changeforgeref1_Compose.l5 p s.1 s.2.1 s.2.2.1 s.2.2.2) ((x : Int), (k : Int), items, X) = some (items ++ itm x (mids4 x rest []), X') ∧ X'.length = 400 ∧ X'.take x = X.take x ∧ WT X' x (mids4 x rest []) := by
      intro hab hc
      have e0 : changeforgeref1_Compose.l5 p (x : Int) (k : Int) items X = some (.next (((x + 1 : Nat) : Int), (k : Int), items ++ [kit x], X)) := by
        unfold changeforgeref1_Compose.l5
        rw [ite_dec, if_pos (by omega), hc, Option.bind_some, if_neg (by decide)]
        unfold changeforgeref1_Compose.j11
        rw [app_eq (by simp only [List.length_singleton]; omega), Option.bind_some]
        unfold changeforgeref1_Compose.j10
        rw [ck_eq (by omega) (by omega)]; rfl
      have hs' : Srt (((x + 1 : Nat) : Int) - 1) rest := by
        cases rest with
        | nil => trivial
        | cons h r => exact ⟨by have := hab h (by simp); omega, hs.2⟩
      obtain ⟨X', a1, a2, a3, a4⟩ := ih (x + 1) k rest (items ++ [kit x]) X (by omega) (by omega) hk hs' hsm hX (by simp; omega) hk130
      refine ⟨X', ?_, a2, take_less a3 (by omega), ?_⟩
      · rw [iter_next (m := fun s : Int × Int × List Item × List ByteArray => changeforgeref1_Compose.l5 p s.1 s.2.1 s.2.2.1 s.2.2.2) (s := ((x : Int), (k : Int), items, X)) e0]
        refine a1.trans ?_
        rw [mids4_one x rest [] (by omega) hab, itm_kept, List.append_assoc]; rfl
      · rw [mids4_one x rest [] (by omega) hab]
        exact wt_kept (mt_nil (by omega)) (by simp; omega) a4
    cases rest with
    | nil =>
      have := drop_end hk
      exact plain (fun _ hh => nomatch hh) (by rw [ite_dec, if_neg (by omega)])
    | cons h r =>
      obtain ⟨hlt, hh, hr⟩ := drop_at hk
      obtain ⟨s1, s2, s3, s4⟩ := hsm h (by simp)
      by_cases hA : h.At = x
      · have h7 := rc7 h s4 h.New 0 items rfl (by omega)
        have hnl : (h.New.map nit).length = h.New.length := List.length_map ..
        obtain ⟨X1, b1, b2, b3, b4⟩ := rc6 h x (by omega) h.Old 0 X rfl (by omega) hX
        rw [Nat.add_zero] at b3 b4
        have e0 : changeforgeref1_Compose.l5 p (x : Int) (k : Int) items X = some (.next (((x + h.Old.length + 1 : Nat) : Int), ((k + 1 : Nat) : Int), items ++ h.New.map nit ++ [kit (x + h.Old.length)], X1)) := by
          unfold changeforgeref1_Compose.l5
          have hc : (if decide ((k : Int) < (p.Hunks.length : Int)) = true then (at? p.Hunks (k : Int)).bind fun y27 => some (decide (y27.At = (x : Int))) else some false) = some true := by
            rw [ite_dec, if_pos (by omega), at_nat hlt, Option.bind_some, hh, decide_eq_true hA]
          rw [ite_dec, if_pos (by omega), hc, Option.bind_some, if_pos rfl, at_nat hlt, Option.bind_some, hh, ck_eq (by omega) (by omega), Option.bind_some, show (0 : Int) = ((0 : Nat) : Int) from rfl, h7, Option.bind_some]
          unfold changeforgeref1_Compose.j12
          rw [show (0 : Int) = ((0 : Nat) : Int) from rfl, b1, Option.bind_some]
          unfold changeforgeref1_Compose.j13
          rw [ck_eq (by omega) (by omega), Option.bind_some]
          unfold changeforgeref1_Compose.j11
          rw [app_eq (by rw [List.length_append, hnl, List.length_singleton]; omega), Option.bind_some]
          unfold changeforgeref1_Compose.j10
          rw [ck_eq (by omega) (by omega)]; rfl
        have hs2 := hs.2
        obtain ⟨X', a1, a2, a3, a4⟩ := ih (x + h.Old.length + 1) (k + 1) r (items ++ h.New.map nit ++ [kit (x + h.Old.length)]) X1 (by omega) (by omega) hr
          (by rw [show ((x + h.Old.length + 1 : Nat) : Int) - 1 = h.At + h.Old.length by omega]; exact hs2) (fun y hy => hsm y (List.mem_cons_of_mem _ hy)) b2
          (by rw [List.length_append, List.length_append, hnl, List.length_singleton]; omega) (by omega)
        have hm : mids4 x (h :: r) [] = irun h.New h.Old ++ kept (ipend h.New h.Old) :: mids4 (x + h.Old.length + 1) r [] := by
          rw [mids4, show h.At.toNat - x = 0 by omega, krun, List.nil_append, show kpend 0 [] ++ h.Old = h.Old from rfl, show h.At.toNat + h.Old.length = x + h.Old.length by omega,
            mids4_one (x + h.Old.length) r _ (by omega) (fun y hy => by have := srt_all r _ hs2 y hy; omega)]
        refine ⟨X', ?_, a2, ?_, ?_⟩
        · rw [iter_next (m := fun s : Int × Int × List Item × List ByteArray => changeforgeref1_Compose.l5 p s.1 s.2.1 s.2.2.1 s.2.2.2) (s := ((x : Int), (k : Int), items, X)) e0]
          refine a1.trans ?_
          rw [hm, itm_irun, List.append_assoc, List.append_assoc]; rfl
        · rw [take_less a3 (by omega), b3]
        · rw [hm]
          exact wt_irun X' _ _ x _ (mt_take (by omega) a3 (by omega) b4) (by omega) a4
      · have hs1 := hs.1
        have := srt_all (h :: r) _ hs
        refine plain (fun y hy => ?_) ?_
        · rcases List.mem_cons.1 hy with rfl | hy
          · omega
          · have := srt_all r _ hs.2 y hy; omega
        · rw [ite_dec, if_pos (by omega), at_nat hlt, Option.bind_some, hh, decide_eq_false hA]

/-! ## the second patch -/
def Eaten (X : List ByteArray) : Nat → List Mid → List ByteArray → Prop
  | b, m :: ms, x :: xs => Mt X b m.before ∧ (m.inserted = false → X[b + m.before.length]? = some x) ∧ Eaten X (b + m.before.length + (if m.inserted = true then 0 else 1)) ms xs
  | _, _, _ => True

theorem nit_neg (x : ByteArray) : (nit x).Old < 0 := by show (-1 : Int) < 0; decide
theorem rc4 (I : List Item) (hI : I.length ≤ 900000) (h : Hunk) (hA : 0 ≤ h.At) (hE : h.At + h.Old.length ≤ 120) (q : Nat) (hq : q ≤ 130) : ∀ (rest : List ByteArray) (i : Nat) (M : List Mid) (b : Nat) (X : List ByteArray), h.Old.drop i = rest → I.drop (h.At.toNat + i) = itm b M → rest.length ≤ M.length → WT X b M → X.length = 400 →
    (badL M rest = true → iter (fun s => changeforgeref1_Compose.l4 (q : Int) I h s.1 s.2) ((i : Int), X) = some (.inl (⟨[]⟩, ⟨19, -3 - (q : Int)⟩))) ∧
    (badL M rest = false → ∃ X', iter (fun s => changeforgeref1_Compose.l4 (q : Int) I h s.1 s.2) ((i : Int), X) = some (.inr X') ∧ X'.length = 400 ∧ X'.take b = X.take b ∧ Eaten X' b M rest ∧ WT X' (bse b (M.take rest.length)) (M.drop rest.length)) := by
  intro rest
  induction rest with
  | nil =>
    intro i M b X hk hd hl hw hX
    have := drop_end hk
    refine ⟨fun hb => (by cases M <;> cases hb), fun _ => ⟨X, iter_done ?_, hX, rfl, (by cases M <;> trivial), hw⟩⟩
    simp only
    unfold changeforgeref1_Compose.l4
    rw [ite_dec, if_neg (by omega)]
  | cons x r ih =>
    intro i M b X hk hd hl hw hX
    obtain ⟨hlt, hh, hr⟩ := drop_at hk
    cases M with
    | nil => simp at hl
    | cons m ms =>
      rw [itm_cons] at hd
      obtain ⟨d1, d2, d3⟩ := drop_at hd
      obtain ⟨w1, w2, w3⟩ := hw
      have hat : at? I (h.At + (i : Int)) = some (if m.inserted = true then nit m.line else kit (b + m.before.length)) := by
        rw [show h.At + (i : Int) = ((h.At.toNat + i : Nat) : Int) by omega, at_nat d1, d2]
      have hl : r.length ≤ ms.length := by simpa using hl
      simp only [List.length_cons, List.take_succ_cons, List.drop_succ_cons, bse, Eaten]
      rw [badL]
      by_cases hi : m.inserted = true
      · rw [if_pos hi] at d3 w3 hat
        rw [hi]
        simp only [Bool.true_and, if_true]
        by_cases hx : m.line = x
        · have e0 : changeforgeref1_Compose.l4 (q : Int) I h (i : Int) X = some (.next (((i + 1 : Nat) : Int), X)) := by
            unfold changeforgeref1_Compose.l4
            rw [ite_dec, if_pos (by omega), ck_eq (by omega) (by omega), Option.bind_some, hat, Option.bind_some]
            have : (if decide ((nit m.line).Old < 0) = true then (at? h.Old (i : Int)).bind fun y21 => some (!decide ((nit m.line).Text = y21)) else some false) = some false := by
              rw [ite_dec, if_pos (nit_neg m.line), at_nat hlt, Option.bind_some, hh]
              show some (!decide (m.line = x)) = _
              rw [decide_eq_true hx]; rfl
            rw [this, Option.bind_some, if_neg (by decide), ite_dec, if_neg (fun h => absurd (nit_neg m.line) (by omega))]
            unfold changeforgeref1_Compose.j9
            rw [ck_eq (by omega) (by omega)]; rfl
          obtain ⟨i1, i2⟩ := ih (i + 1) ms (b + m.before.length + 0) X hr d3 hl w3 hX
          rw [iter_next (m := fun s : Int × List ByteArray => changeforgeref1_Compose.l4 (q : Int) I h s.1 s.2) (s := ((i : Int), X)) e0, decide_eq_true hx, Bool.not_true, Bool.false_or]
          refine ⟨i1, fun hb => ?_⟩
          obtain ⟨X', a1, a2, a3, a4, a5⟩ := i2 hb
          exact ⟨X', a1, a2, take_less a3 (by omega), ⟨mt_take (by omega) a3 (by omega) w1, fun h => (by cases h), a4⟩, a5⟩
        · rw [decide_eq_false hx, Bool.not_false, Bool.true_or]
          refine ⟨fun _ => iter_done ?_, fun h => by cases h⟩
          simp only
          unfold changeforgeref1_Compose.l4
          rw [ite_dec, if_pos (by omega), ck_eq (by omega) (by omega), Option.bind_some, hat, Option.bind_some]
          have : (if decide ((nit m.line).Old < 0) = true then (at? h.Old (i : Int)).bind fun y21 => some (!decide ((nit m.line).Text = y21)) else some false) = some true := by
            rw [ite_dec, if_pos (nit_neg m.line), at_nat hlt, Option.bind_some, hh]
            show some (!decide (m.line = x)) = _
            rw [decide_eq_false hx]; rfl
          rw [this, Option.bind_some, if_pos rfl, ck_eq (by omega) (by omega), Option.bind_some]; rfl
      · rw [if_neg hi] at d3 w3 hat
        have hi' : m.inserted = false := by simpa using hi
        rw [hi']
        simp only [Bool.false_and, Bool.false_or, Bool.false_eq_true, if_false]
        have ho := w2 hi'
        have e0 : changeforgeref1_Compose.l4 (q : Int) I h (i : Int) X = some (.next (((i + 1 : Nat) : Int), X.set (b + m.before.length) x)) := by
          unfold changeforgeref1_Compose.l4
          rw [ite_dec, if_pos (by omega), ck_eq (by omega) (by omega), Option.bind_some, hat, Option.bind_some]
          have hneg : ¬ ((kit (b + m.before.length)).Old < 0) := by show ¬ (((b + m.before.length : Nat) : Int) < 0); omega
          rw [ite_dec, if_neg hneg, Option.bind_some, if_neg (by decide), ite_dec, if_pos (by omega), at_nat hlt, Option.bind_some, hh, show (kit (b + m.before.length)).Old = ((b + m.before.length : Nat) : Int) from rfl, at_nat ho, Option.bind_some, Option.bind_some, Int.toNat_natCast]
          unfold changeforgeref1_Compose.j9
          rw [ck_eq (by omega) (by omega)]; rfl
        obtain ⟨i1, i2⟩ := ih (i + 1) ms (b + m.before.length + 1) (X.set (b + m.before.length) x) hr d3 hl (wt_set ms _ (by omega) w3) (by simpa using hX)
        rw [iter_next (m := fun s : Int × List ByteArray => changeforgeref1_Compose.l4 (q : Int) I h s.1 s.2) (s := ((i : Int), X)) e0]
        refine ⟨i1, fun hb => ?_⟩
        obtain ⟨X', a1, a2, a3, a4, a5⟩ := i2 hb
        have t1 : X'.take (b + m.before.length) = X.take (b + m.before.length) := by
          rw [take_less a3 (by omega), List.take_set_of_le (Nat.le_refl _)]
        refine ⟨X', a1, a2, take_less t1 (by omega), ⟨mt_take (by omega) t1 (Nat.le_refl _) w1, fun _ => ?_, a4⟩, a5⟩
        rw [getElem?_take_eq a3 (by omega), List.getElem?_set_self ho]

theorem rc3 (h : Hunk) (hn : h.New.length ≤ 120) : ∀ (rest : List ByteArray) (k : Nat) (out : List Item), h.New.drop k = rest → out.length ≤ 1000000 + k → iter (fun s => changeforgeref1_Compose.l3 h s.1 s.2) ((k : Int), out) = some (out ++ rest.map nit) := by
  intro rest
  induction rest with
  | nil =>
    intro k out hk _
    have := drop_end hk
    refine iter_done ?_
    simp only
    unfold changeforgeref1_Compose.l3
    rw [ite_dec, if_neg (by omega), List.map_nil, List.append_nil]
  | cons x r ih =>
    intro k out hk ho
    obtain ⟨hlt, hh, hr⟩ := drop_at hk
    have e0 : changeforgeref1_Compose.l3 h (k : Int) out = some (.next (((k + 1 : Nat) : Int), out ++ [nit x])) := by
      unfold changeforgeref1_Compose.l3
      rw [ite_dec, if_pos (by omega), at_nat hlt, Option.bind_some, hh, app_eq (by simp only [List.length_singleton]; omega), Option.bind_some, ck_eq (by omega) (by omega)]; rfl
    rw [iter_next e0, ih (k + 1) _ hr (by simp; omega), List.map_cons, List.append_assoc]; rfl

def Jq : Nat → List Hunk → List Item → List Item
  | _, [], I => I
  | e, h :: r, I => I.take (h.At.toNat - e) ++ (h.New.map nit ++ Jq (h.At.toNat + h.Old.length) r (I.drop (h.At.toNat - e + h.Old.length)))
def CX (X : List ByteArray) : Nat → Nat → List Hunk → List Mid → Prop
  | b, _, [], M => WT X b M
  | b, e, h :: r, M => WT X b (M.take (h.At.toNat - e)) ∧ Eaten X (bse b (M.take (h.At.toNat - e))) (M.drop (h.At.toNat - e)) h.Old ∧ CX X (bse (bse b (M.take (h.At.toNat - e))) ((M.drop (h.At.toNat - e)).take h.Old.length)) (h.At.toNat + h.Old.length) r (M.drop (h.At.toNat - e + h.Old.length))

theorem rc2 (q : Patch) (hn : q.Hunks.length ≤ 130) (M0 : List Mid) (I : List Item) (hI : I = itm 0 M0) (h240 : 240 ≤ M0.length) (hI9 : I.length ≤ 200000) : ∀ (rest : List Hunk) (k e : Nat) (J : List Item) (X : List ByteArray), q.Hunks.drop k = rest → Srt ((e : Int) - 1) rest → Small rest → e ≤ 120 → WT X (bse 0 (M0.take e)) (M0.drop e) → X.length = 400 → J.length ≤ k * 300 → k ≤ 130 →
    (∀ f, cscan M0 k rest = some f → iter (fun s => changeforgeref1_Compose.l2 q s.1 s.2.1 s.2.2.1 s.2.2.2.1 s.2.2.2.2) ((k : Int), (e : Int), J, I, X) = some (.inl (⟨[]⟩, f))) ∧
    (cscan M0 k rest = Option.none → ∃ (e2 : Nat) (J2 : List Item) (X' : List ByteArray), iter (fun s => changeforgeref1_Compose.l2 q s.1 s.2.1 s.2.2.1 s.2.2.2.1 s.2.2.2.2) ((k : Int), (e : Int), J, I, X) = some (.inr ((e2 : Int), J2, I, X')) ∧ e2 ≤ 120 ∧ J2.length ≤ 39000 ∧
      J2 ++ I.drop e2 = J ++ Jq e rest (I.drop e) ∧ X'.length = 400 ∧ X'.take (bse 0 (M0.take e)) = X.take (bse 0 (M0.take e)) ∧ CX X' (bse 0 (M0.take e)) e rest (M0.drop e)) := by
  intro rest
  induction rest with
  | nil =>
    intro k e J X hk hs hsm he hw hX hJ hk130
    have := drop_end hk
    refine ⟨(fun f hf => by cases hf), fun _ => ⟨e, J, X, iter_done ?_, he, by omega, rfl, hX, rfl, hw⟩⟩
    simp only
    unfold changeforgeref1_Compose.l2
    rw [ite_dec, if_neg (by omega)]
  | cons h r ih =>
    intro k e J X hk hs hsm he hw hX hJ hk130
    obtain ⟨hlt, hh, hr⟩ := drop_at hk
    obtain ⟨s1, s2, s3, s4⟩ := hsm h (by simp)
    have hs1 := hs.1
    have hs2 := hs.2
    have hAe : e + (h.At.toNat - e) = h.At.toNat := by omega
    -- the part before the hunk
    have hM : (M0.drop e) = (M0.drop e).take (h.At.toNat - e) ++ M0.drop h.At.toNat := by
      have := (List.take_append_drop (h.At.toNat - e) (M0.drop e)).symm
      rw [List.drop_drop, hAe] at this; exact this
    have hbA : bse 0 (M0.take h.At.toNat) = bse (bse 0 (M0.take e)) ((M0.drop e).take (h.At.toNat - e)) := by
      rw [← bse_append, ← List.take_add, hAe]
    have hw2 := hw
    rw [hM, wt_append, ← hbA] at hw2
    obtain ⟨w1, w2⟩ := hw2
    have hbE : bse 0 (M0.take (h.At.toNat + h.Old.length)) = bse (bse 0 (M0.take h.At.toNat)) ((M0.drop h.At.toNat).take h.Old.length) := by
      rw [← bse_append, ← List.take_add]
    have hIl : I.length = M0.length := by rw [hI, itm_len]
    obtain ⟨f1, f2⟩ := rc4 I (by omega) h s1 s2 k (by omega) h.Old 0 (M0.drop h.At.toNat) (bse 0 (M0.take h.At.toNat)) X rfl (by rw [Nat.add_zero, hI, itm_drop]) (by rw [List.length_drop]; omega) w2 hX
    have hcut : cut? I (e : Int) h.At = some ((I.drop e).take (h.At.toNat - e)) := by
      rw [cut_eq (by omega) (by omega) (by omega), Int.toNat_natCast, List.drop_take]
    have htl : ((I.drop e).take (h.At.toNat - e)).length ≤ 120 := by rw [List.length_take]; omega
    rw [cscan]
    have head : ∀ G, iter (fun s => changeforgeref1_Compose.l4 (k : Int) I h s.1 s.2) (((0 : Nat) : Int), X) = some G →
        changeforgeref1_Compose.l2 q (k : Int) (e : Int) J I X = (match G with | .inl p => some (Step.done (Sum.inl p)) | .inr p => changeforgeref1_Compose.j7 (k : Int) I h (J ++ (I.drop e).take (h.At.toNat - e)) p) := by
      intro G hG
      unfold changeforgeref1_Compose.l2
      rw [ite_dec, if_pos (by omega), at_nat hlt, Option.bind_some, hh, hcut, Option.bind_some, app_eq (by omega), Option.bind_some, show (0 : Int) = ((0 : Nat) : Int) from rfl, hG, Option.bind_some]
      rfl
    cases hb : badL (M0.drop h.At.toNat) h.Old with
    | true =>
      rw [if_pos rfl]
      refine ⟨fun f hf => ?_, fun hf => by cases hf⟩
      cases hf
      refine iter_done ?_
      simp only
      rw [head _ (f1 hb)]
    | false =>
      rw [if_neg (by decide)]
      obtain ⟨X1, x1, x2, x3, x4, x5⟩ := f2 hb
      have e0 : changeforgeref1_Compose.l2 q (k : Int) (e : Int) J I X = some (.next (((k + 1 : Nat) : Int), ((h.At.toNat + h.Old.length : Nat) : Int), J ++ (I.drop e).take (h.At.toNat - e) ++ h.New.map nit, I, X1)) := by
        rw [head _ x1]
        show changeforgeref1_Compose.j7 (k : Int) I h (J ++ (I.drop e).take (h.At.toNat - e)) X1 = _
        unfold changeforgeref1_Compose.j7
        rw [show (0 : Int) = ((0 : Nat) : Int) from rfl, rc3 h s4 h.New 0 _ rfl (by rw [List.length_append]; omega), Option.bind_some]
        unfold changeforgeref1_Compose.j8
        rw [rend_f h (by omega) (by omega) (by omega), Option.bind_some]
        unfold changeforgeref1_Compose.j6
        rw [ck_eq (by omega) (by omega), Option.bind_some, show h.At + (h.Old.length : Int) = ((h.At.toNat + h.Old.length : Nat) : Int) by omega]; rfl
      rw [← hbE, List.drop_drop] at x5
      obtain ⟨i1, i2⟩ := ih (k + 1) (h.At.toNat + h.Old.length) (J ++ (I.drop e).take (h.At.toNat - e) ++ h.New.map nit) X1 hr (by
        cases r with
        | nil => trivial
        | cons y r => exact ⟨by have := hs2.1; omega, hs2.2⟩) (fun y hy => hsm y (List.mem_cons_of_mem _ hy)) (by omega) x5 x2 (by rw [List.length_append, List.length_append, List.length_map]; omega) (by omega)
      rw [iter_next (m := fun s : Int × Int × List Item × List Item × List ByteArray => changeforgeref1_Compose.l2 q s.1 s.2.1 s.2.2.1 s.2.2.2.1 s.2.2.2.2) (s := ((k : Int), (e : Int), J, I, X)) e0]
      refine ⟨i1, fun hf => ?_⟩
      obtain ⟨e2, J2, X', a1, a2, a3, a4, a5, a6, a7⟩ := i2 hf
      have t1 : X'.take (bse 0 (M0.take h.At.toNat)) = X.take (bse 0 (M0.take h.At.toNat)) := by
        rw [take_less a6 (by rw [hbE]; exact bse_le _ _), x3]
      refine ⟨e2, J2, X', a1, a2, a3, ?_, a5, take_less t1 (by rw [hbA]; exact bse_le _ _), ?_⟩
      · rw [a4, Jq, List.drop_drop, List.append_assoc, List.append_assoc, show e + (h.At.toNat - e + h.Old.length) = h.At.toNat + h.Old.length by omega]
      · rw [CX, ← hbA, List.drop_drop, hAe, List.drop_drop, show e + (h.At.toNat - e + h.Old.length) = h.At.toNat + h.Old.length by omega, ← hbE]
        refine ⟨wt_take (by omega) _ _ (by rw [← hbA]; exact t1) w1, ?_, a7⟩
        -- what was eaten stays
        have keepE : ∀ (xs : List ByteArray) (M : List Mid) (b : Nat), xs.length ≤ M.length → X'.take (bse b (M.take xs.length)) = X1.take (bse b (M.take xs.length)) → Eaten X1 b M xs → Eaten X' b M xs := by
          intro xs
          induction xs with
          | nil => intro M b _ _ _; cases M <;> trivial
          | cons y xs ih =>
            intro M b hl ht he
            cases M with
            | nil => trivial
            | cons m ms =>
              rw [List.length_cons, List.take_succ_cons, bse] at ht
              obtain ⟨h1, h2, h3⟩ := he
              have hle := bse_le (ms.take xs.length) (b + m.before.length + (if m.inserted = true then 0 else 1))
              refine ⟨mt_take (by omega) ht (by omega) h1, fun hi => ?_, ih ms _ (by simpa using hl) ht h3⟩
              rw [getElem?_take_eq ht (by rw [hi] at hle ⊢; simp at hle ⊢; omega)]
              exact h2 hi
        exact keepE h.Old _ _ (by rw [List.length_drop]; omega) (by rw [← hbE]; exact a6) x4
end Go.Dc
