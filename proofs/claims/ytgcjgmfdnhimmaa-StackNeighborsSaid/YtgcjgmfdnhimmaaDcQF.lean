/- Stacks: the check, the move, the drop, applying; the law that the program's moves are the document's. -/
import Derived.Test.YtgcjgmfdnhimmaaDcQE
set_option linter.unusedSimpArgs false
namespace Go.Dc
open Go

def sscan : Int → List Patch → Option Fault
  | _, [] => Option.none
  | i, p :: r => if (patchFault p).Code ≠ 0 then some ⟨(patchFault p).Code, i⟩ else sscan (i + 1) r
def stackFault (l : List Patch) : Fault := if l.length > 12 then ⟨2, -1⟩ else (sscan 0 l).getD ⟨0, 0⟩
def GoodS (l : List Patch) : Prop := l.length ≤ 12 ∧ ∀ p ∈ l, (patchFault p).Code = 0

theorem sscan_code : ∀ (l : List Patch) (i : Int) (f : Fault), sscan i l = some f → f.Code ≠ 0
  | [], _, _, h => by cases h
  | x :: r, i, f, h => by
    rw [sscan] at h
    split at h
    · cases h; assumption
    · exact sscan_code r _ f h
theorem sscan_none : ∀ (l : List Patch) (i : Int), sscan i l = Option.none ↔ ∀ p ∈ l, (patchFault p).Code = 0
  | [], _ => by simp [sscan]
  | x :: r, i => by
    rw [sscan]
    by_cases h : (patchFault x).Code = 0
    · rw [if_neg (by simpa using h), sscan_none r]; simp [h]
    · rw [if_pos h]; simp [h]
theorem stackFault_ok (l : List Patch) : stackFault l = ⟨0, 0⟩ ∨ (stackFault l).Code ≠ 0 := by
  unfold stackFault
  split
  · right; show (2 : Int) ≠ 0; decide
  · cases h : sscan 0 l with
    | none => left; rfl
    | some f => right; exact sscan_code _ _ f h
theorem stackFault_zero (l : List Patch) : (stackFault l).Code = 0 ↔ GoodS l := by
  unfold stackFault GoodS
  by_cases h : l.length > 12
  · rw [if_pos h]
    exact ⟨fun h2 => absurd h2 (by show (2 : Int) ≠ 0; decide), fun h2 => absurd h2.1 (by omega)⟩
  · rw [if_neg h]
    constructor
    · intro h2
      refine ⟨by omega, (sscan_none l 0).1 ?_⟩
      cases hs : sscan 0 l with
      | none => rfl
      | some f => rw [hs] at h2; exact absurd h2 (sscan_code _ _ f hs)
    · intro h2
      rw [(sscan_none l 0).2 h2.2]; rfl

theorem check_f (l : List Patch) : stack_check l = some (stackFault l) := by
  unfold stack_check stackFault
  rw [ite_dec]
  by_cases h12 : l.length > 12
  · rw [if_pos (by omega), if_pos h12]
  · rw [if_neg (by omega), if_neg h12]
    have key : ∀ (rest : List Patch) (k : Nat), l.drop k = rest → iter (fun s => stack_check.l1 l s) (k : Int) = some (orL (sscan k rest)) := by
      intro rest
      induction rest with
      | nil =>
        intro k hk
        have := drop_end hk
        refine iter_done ?_
        unfold stack_check.l1
        rw [ite_dec, if_neg (by omega)]; rfl
      | cons p r ih =>
        intro k hk
        obtain ⟨hlt, hh, hr⟩ := drop_at hk
        rw [sscan]
        by_cases hc : (patchFault p).Code ≠ 0
        · rw [if_pos hc]
          refine iter_done ?_
          unfold stack_check.l1
          rw [ite_dec, if_pos (by omega), at_nat hlt, Option.bind_some, hh, psecond_f, Option.bind_some, if_pos hc, if_pos (by simp [hc])]; rfl
        · rw [if_neg hc]
          have e0 : stack_check.l1 l (k : Int) = some (.next ((k + 1 : Nat) : Int)) := by
            unfold stack_check.l1
            rw [ite_dec, if_pos (by omega), at_nat hlt, Option.bind_some, hh, psecond_f, Option.bind_some, if_neg hc, if_neg (by simp), ck_eq (by omega) (by omega)]; rfl
          rw [iter_next e0, ih (k + 1) hr]; rfl
    rw [show (0 : Int) = ((0 : Nat) : Int) from rfl, key l 0 rfl, Option.bind_some]
    cases sscan ((0 : Nat) : Int) l <;> rfl

theorem rstack_f (l : List Patch) : changeforgeref2_StackFault l = some (stackFault l) := by
  unfold changeforgeref2_StackFault stackFault
  rw [ite_dec]
  by_cases h12 : l.length > 12
  · rw [if_pos (by omega), if_pos h12]; rfl
  · rw [if_neg (by omega), if_neg h12]
    have key : ∀ (rest : List Patch) (k : Nat), l.drop k = rest → iter (fun s => changeforgeref2_StackFault.l1 l s) (k : Int) = some (orL (sscan k rest)) := by
      intro rest
      induction rest with
      | nil =>
        intro k hk
        have := drop_end hk
        refine iter_done ?_
        unfold changeforgeref2_StackFault.l1
        rw [ite_dec, if_neg (by omega)]; rfl
      | cons p r ih =>
        intro k hk
        obtain ⟨hlt, hh, hr⟩ := drop_at hk
        rw [sscan]
        by_cases hc : (patchFault p).Code ≠ 0
        · rw [if_pos hc]
          refine iter_done ?_
          unfold changeforgeref2_StackFault.l1
          rw [ite_dec, if_pos (by omega), at_nat hlt, Option.bind_some, hh, rpatchFault_f, Option.bind_some, ite_ndec, if_neg hc]; rfl
        · rw [if_neg hc]
          have e0 : changeforgeref2_StackFault.l1 l (k : Int) = some (.next ((k + 1 : Nat) : Int)) := by
            unfold changeforgeref2_StackFault.l1
            rw [ite_dec, if_pos (by omega), at_nat hlt, Option.bind_some, hh, rpatchFault_f, Option.bind_some, ite_ndec, if_pos (by omega), ck_eq (by omega) (by omega)]; rfl
          rw [iter_next e0, ih (k + 1) hr]; rfl
    rw [show (0 : Int) = ((0 : Nat) : Int) from rfl, key l 0 rfl, Option.bind_some]
    cases sscan ((0 : Nat) : Int) l <;> rfl

/-! ## moving -/
abbrev Mres := List Patch × Bool × Fault
def stepAt (l : List Patch) (a : Nat) : Mres ⊕ List Patch :=
  match l[a]?, l[a + 1]? with
  | some p, some q => if (commF p q).2.2.2.Code ≠ 0 then .inl ([], false, ⟨(commF p q).2.2.2.Code, -1⟩) else if (commF p q).2.2.1 = false then .inl ([], false, ⟨0, 0⟩) else .inr ((l.set a (commF p q).1).set (a + 1) (commF p q).2.1)
  | _, _ => .inr l
theorem stepAt_eq {l : List Patch} {a : Nat} (h : a + 1 < l.length) : stepAt l a =
    if (commF l[a] l[a + 1]).2.2.2.Code ≠ 0 then .inl ([], false, ⟨(commF l[a] l[a + 1]).2.2.2.Code, -1⟩) else if (commF l[a] l[a + 1]).2.2.1 = false then .inl ([], false, ⟨0, 0⟩) else .inr ((l.set a (commF l[a] l[a + 1]).1).set (a + 1) (commF l[a] l[a + 1]).2.1) := by
  unfold stepAt
  rw [List.getElem?_eq_getElem (by omega), List.getElem?_eq_getElem h]

theorem commF_made {p q : Patch} (h1 : (commF p q).2.2.2.Code = 0) (h2 : (commF p q).2.2.1 = true) : (patchFault p).Code = 0 ∧ (patchFault q).Code = 0 ∧ meetB (newR 0 p.Hunks) (q.Hunks.map rng) = false ∧ (patchFault (qOf p q)).Code = 0 ∧ (patchFault (pOf p q)).Code = 0 ∧ commF p q = (qOf p q, pOf p q, true, ⟨0, 0⟩) := by
  unfold commF at h1 h2 ⊢
  split at h1
  · exact absurd h1 ‹_›
  · rename_i c0
    rw [if_neg c0] at h2 ⊢
    obtain ⟨a, b⟩ := pairF_zero (p := p) (q := q) (by omega)
    split at h1
    · rename_i c1; rw [if_pos c1] at h2; cases h2
    · rename_i c1
      rw [if_neg c1] at h2 ⊢
      split at h1
      · cases h1
      · rename_i c2
        rw [if_neg c2] at h2 ⊢
        exact ⟨a, b, by simpa using c1, by omega, by omega, rfl⟩

theorem stepAt_good {l l' : List Patch} {a : Nat} (hg : GoodS l) (h : a + 1 < l.length) (hs : stepAt l a = .inr l') : GoodS l' ∧ l'.length = l.length := by
  rw [stepAt_eq h] at hs
  split at hs
  · cases hs
  · rename_i c1
    split at hs
    · cases hs
    · rename_i c2
      injection hs with hs
      obtain ⟨_, _, _, a4, a5, a6⟩ := commF_made (p := l[a]) (q := l[a + 1]) (by omega) (by simpa using c2)
      subst hs
      refine ⟨⟨by simp; exact hg.1, fun p hp => ?_⟩, by simp⟩
      rcases List.mem_or_eq_of_mem_set hp with hp | rfl
      · rcases List.mem_or_eq_of_mem_set hp with hp | rfl
        · exact hg.2 p hp
        · rw [a6]; exact a4
      · rw [a6]; exact a5

theorem j2_f {l : List Patch} {a : Nat} (h : a + 1 < l.length) (h12 : l.length ≤ 12) (x5 : Int) : stack_move.j2 l x5 (a : Int) = some (match stepAt l a with | .inl r => .done (.inl r) | .inr l' => .next (x5, l')) := by
  unfold stack_move.j2 stack_move.j3
  rw [stepAt_eq h, at_nat (show a < l.length by omega), Option.bind_some, ck_eq (by omega) (by omega), Option.bind_some, show (a : Int) + 1 = ((a + 1 : Nat) : Int) from rfl, at_nat h, Option.bind_some, comm_f, Option.bind_some, fless (commF_ok _ _), ite_dec]
  by_cases c1 : (commF l[a] l[a + 1]).2.2.2.Code ≠ 0
  · rw [if_pos c1, if_pos c1]
  · rw [if_neg c1, if_neg c1]
    by_cases c2 : (commF l[a] l[a + 1]).2.2.1 = false
    · rw [c2, if_pos (by decide), if_pos rfl]
    · rw [if_neg (by simpa using c2), if_neg c2, Option.bind_some, Option.bind_some, Option.bind_some, at_nat (by simpa using h), Option.bind_some, Option.bind_some, Int.toNat_natCast, Int.toNat_natCast]

def upF : Nat → List Patch → Nat → Mres ⊕ List Patch
  | 0, l, _ => .inr l
  | n + 1, l, a => match stepAt l a with | .inl r => .inl r | .inr l' => upF n l' (a + 1)
def downF : Nat → List Patch → Nat → Mres ⊕ List Patch
  | 0, l, _ => .inr l
  | n + 1, l, a => match stepAt l (a - 1) with | .inl r => .inl r | .inr l' => downF n l' (a - 1)
def asM : Mres ⊕ List Patch → Mres
  | .inl r => r
  | .inr l => (l, true, ⟨0, 0⟩)
def moveS (l : List Patch) (a b : Nat) : Mres ⊕ List Patch := if a ≤ b then upF (b - a) l a else downF (a - b) l a
def moveF (l : List Patch) (a b : Nat) : Mres := asM (moveS l a b)

theorem up_main : ∀ (n : Nat) (l : List Patch) (a : Nat), GoodS l → a + n < l.length → iter (fun s => stack_move.l1 ((a + n : Nat) : Int) s.1 s.2) ((a : Int), l) = some (upF n l a) := by
  intro n
  induction n with
  | zero =>
    intro l a _ _
    refine iter_done ?_
    simp only
    unfold stack_move.l1
    rw [ite_ndec, if_pos (by omega)]; rfl
  | succ n ih =>
    intro l a hg hn
    have h12 := hg.1
    have e0 : stack_move.l1 ((a + (n + 1) : Nat) : Int) (a : Int) l = some (match stepAt l a with | .inl r => .done (.inl r) | .inr l' => .next (((a + 1 : Nat) : Int), l')) := by
      unfold stack_move.l1
      rw [ite_ndec, if_neg (by omega), ck_eq (by omega) (by omega), Option.bind_some, ite_dec, if_neg (by omega), j2_f (by omega) h12]; rfl
    rw [upF]
    cases hs : stepAt l a with
    | inl r => rw [hs] at e0; exact iter_done e0
    | inr l' =>
      rw [hs] at e0
      obtain ⟨g1, g2⟩ := stepAt_good hg (by omega) hs
      rw [iter_next e0]
      have := ih l' (a + 1) g1 (by omega)
      rw [show a + 1 + n = a + (n + 1) by omega] at this
      exact this

theorem down_main : ∀ (n : Nat) (l : List Patch) (b : Nat), GoodS l → b + n < l.length → iter (fun s => stack_move.l1 (b : Int) s.1 s.2) (((b + n : Nat) : Int), l) = some (downF n l (b + n)) := by
  intro n
  induction n with
  | zero =>
    intro l b _ _
    refine iter_done ?_
    simp only
    unfold stack_move.l1
    rw [ite_ndec, if_pos (by omega)]; rfl
  | succ n ih =>
    intro l b hg hn
    have h12 := hg.1
    have e0 : stack_move.l1 (b : Int) ((b + (n + 1) : Nat) : Int) l = some (match stepAt l (b + n) with | .inl r => .done (.inl r) | .inr l' => .next (((b + n : Nat) : Int), l')) := by
      unfold stack_move.l1
      rw [ite_ndec, if_neg (by omega), ck_eq (by omega) (by omega), Option.bind_some, ite_dec, if_pos (by omega), ck_eq (by omega) (by omega), Option.bind_some, Option.bind_some, show ((b + (n + 1) : Nat) : Int) - 1 = ((b + n : Nat) : Int) by omega, j2_f (by omega) h12]
    rw [downF, show b + (n + 1) - 1 = b + n by omega]
    cases hs : stepAt l (b + n) with
    | inl r => rw [hs] at e0; exact iter_done e0
    | inr l' =>
      rw [hs] at e0
      obtain ⟨g1, g2⟩ := stepAt_good hg (by omega) hs
      rw [iter_next e0]
      exact ih l' b g1 (by omega)

theorem sclone_f {l : List Patch} (hg : GoodS l) : stack_clone l = some l := by
  have key : ∀ (rest : List Patch) (k : Nat) (out : List Patch), l.drop k = rest → out.length = k → iter (fun s => stack_clone.l1 l s.1 s.2) ((k : Int), out) = some (out ++ rest) := by
    intro rest
    induction rest with
    | nil =>
      intro k out hk _
      have := drop_end hk
      refine iter_done ?_
      simp only
      unfold stack_clone.l1
      rw [ite_dec, if_neg (by omega), List.append_nil]
    | cons p r ih =>
      intro k out hk h3
      obtain ⟨hlt, hh, hr⟩ := drop_at hk
      have h12 := hg.1
      have e0 : stack_clone.l1 l (k : Int) out = some (.next (((k + 1 : Nat) : Int), out ++ [p])) := by
        unfold stack_clone.l1
        rw [ite_dec, if_pos (by omega), at_nat hlt, Option.bind_some, hh, copy_f p (sm_of (hg.2 p (hh ▸ List.getElem_mem hlt))), Option.bind_some,
          app_eq (by simp only [List.length_singleton]; omega), Option.bind_some, ck_eq (by omega) (by omega), Option.bind_some]
        rfl
      rw [iter_next e0, ih (k + 1) _ hr (by simp; omega), List.append_assoc]
      rfl
  unfold stack_clone
  rw [show (0 : Int) = ((0 : Nat) : Int) from rfl, key l 0 [] rfl rfl, Option.bind_some]
  rfl

theorem move_f {l : List Patch} (hg : GoodS l) {a b : Nat} (ha : a < l.length) (hb : b < l.length) : stack_move l (a : Int) (b : Int) = some (moveF l a b) := by
  unfold stack_move moveF moveS
  rw [sclone_f hg, Option.bind_some]
  have : iter (fun s => stack_move.l1 (b : Int) s.1 s.2) ((a : Int), l) = some (if a ≤ b then upF (b - a) l a else downF (a - b) l a) := by
    by_cases h : a ≤ b
    · have := up_main (b - a) l a hg (by omega)
      rw [show a + (b - a) = b by omega] at this
      rw [if_pos h, this]
    · have := down_main (a - b) l b hg (by omega)
      rw [show b + (a - b) = a by omega] at this
      rw [if_neg h, this]
  rw [this, Option.bind_some]
  cases (if a ≤ b then upF (b - a) l a else downF (a - b) l a) <;> rfl

def moveTop (l : List Patch) (a b : Int) : Mres :=
  if (stackFault l).Code ≠ 0 then ([], false, stackFault l) else if a < 0 ∨ a ≥ l.length then ([], false, ⟨3, -2⟩) else if b < 0 ∨ b ≥ l.length then ([], false, ⟨3, -3⟩) else moveF l a.toNat b.toNat

theorem dec_or {p q : Prop} [Decidable p] [Decidable q] : ((decide p || decide q) = true) = (p ∨ q) := by simp

theorem Move_f (l : List Patch) (a b : Int) : stack_Move l a b = some (moveTop l a b) := by
  unfold stack_Move moveTop
  rw [check_f, Option.bind_some, fless (stackFault_ok l), ite_dec]
  by_cases h0 : (stackFault l).Code ≠ 0
  · rw [if_pos h0, if_pos h0]
  · rw [if_neg h0, if_neg h0, bool_or, Option.bind_some]
    have hg := (stackFault_zero l).1 (by omega)
    simp only [dec_or]
    by_cases h1 : a < 0 ∨ a ≥ l.length
    · rw [if_pos h1, if_pos h1]
    · rw [if_neg h1, if_neg h1, bool_or, Option.bind_some]
      simp only [dec_or]
      by_cases h2 : b < 0 ∨ b ≥ l.length
      · rw [if_pos h2, if_pos h2]
      · rw [if_neg h2, if_neg h2]
        have := move_f hg (a := a.toNat) (b := b.toNat) (by omega) (by omega)
        rw [show ((a.toNat : Nat) : Int) = a by omega, show ((b.toNat : Nat) : Int) = b by omega] at this
        rw [this, Option.bind_some]

/-! ## the document's move -/
theorem cj1_f {l : List Patch} {a : Nat} (h : a + 1 < l.length) (h12 : l.length ≤ 12) (n x1 x2 : Int) (rec_ : List Patch → Int → Int → Option Mres) (hn : -100 ≤ n - x1) (hn2 : n - x1 ≤ 100) :
    changeforgeref2_carried.j1 l n rec_ x1 x2 (a : Int) = match stepAt l a with | .inl r => some r | .inr l' => rec_ l' x2 (n - x1) := by
  unfold changeforgeref2_carried.j1 changeforgeref2_carried.j2
  rw [stepAt_eq h, at_nat (show a < l.length by omega), Option.bind_some, ck_eq (by omega) (by omega), Option.bind_some, show (a : Int) + 1 = ((a + 1 : Nat) : Int) from rfl, at_nat h, Option.bind_some, rcomm_f, Option.bind_some, ite_ndec]
  by_cases c1 : (commF l[a] l[a + 1]).2.2.2.Code ≠ 0
  · rw [if_neg c1, if_pos c1]; rfl
  · rw [if_pos (by omega), if_neg c1]
    by_cases c2 : (commF l[a] l[a + 1]).2.2.1 = false
    · rw [c2, if_pos (by decide), if_pos rfl]
    · rw [if_neg (by simpa using c2), if_neg c2, app_eq (by simp only [List.length_nil]; omega), Option.bind_some, List.nil_append, at_nat (show a < l.length by omega), Option.bind_some, Option.bind_some, Option.bind_some, at_nat (by simpa using h), Option.bind_some, Option.bind_some, ck_eq (by omega) (by omega), Option.bind_some, Int.toNat_natCast, Int.toNat_natCast]
      show ((rec_ ((l.set a (commF l[a] l[a + 1]).1).set (a + 1) (commF l[a] l[a + 1]).2.1) x2 (n - x1)).bind fun y10 => some (y10.1, y10.2.1, y10.2.2)) = rec_ ((l.set a (commF l[a] l[a + 1]).1).set (a + 1) (commF l[a] l[a + 1]).2.1) x2 (n - x1)
      generalize rec_ ((l.set a (commF l[a] l[a + 1]).1).set (a + 1) (commF l[a] l[a + 1]).2.1) x2 (n - x1) = z
      cases z <;> rfl

theorem up_doc : ∀ (n : Nat) (l : List Patch) (a : Nat), GoodS l → a + n < l.length → changeforgeref2_carried.m (n + 1) l (a : Int) (n : Int) = some (asM (upF n l a)) := by
  intro n
  induction n with
  | zero =>
    intro l a _ _
    show changeforgeref2_carried.body _ l (a : Int) ((0 : Nat) : Int) = _
    unfold changeforgeref2_carried.body
    rw [ite_dec, if_pos (by omega)]; rfl
  | succ n ih =>
    intro l a hg hn
    have h12 := hg.1
    show changeforgeref2_carried.body (changeforgeref2_carried.m (n + 1)) l (a : Int) ((n + 1 : Nat) : Int) = _
    unfold changeforgeref2_carried.body
    rw [ite_dec, if_neg (by omega), ck_eq (by omega) (by omega), Option.bind_some, ite_dec, if_neg (by omega), cj1_f (by omega) h12 _ _ _ _ (by omega) (by omega), upF]
    cases hs : stepAt l a with
    | inl r => rfl
    | inr l' =>
      obtain ⟨g1, g2⟩ := stepAt_good hg (by omega) hs
      simp only
      rw [show ((n + 1 : Nat) : Int) - 1 = (n : Int) by omega]
      exact ih l' (a + 1) g1 (by omega)

theorem down_doc : ∀ (n : Nat) (l : List Patch) (b : Nat), GoodS l → b + n < l.length → changeforgeref2_carried.m (n + 1) l ((b + n : Nat) : Int) (-(n : Int)) = some (asM (downF n l (b + n))) := by
  intro n
  induction n with
  | zero =>
    intro l a _ _
    show changeforgeref2_carried.body _ l _ (-((0 : Nat) : Int)) = _
    unfold changeforgeref2_carried.body
    rw [ite_dec, if_pos (by omega)]; rfl
  | succ n ih =>
    intro l b hg hn
    have h12 := hg.1
    show changeforgeref2_carried.body (changeforgeref2_carried.m (n + 1)) l ((b + (n + 1) : Nat) : Int) (-((n + 1 : Nat) : Int)) = _
    unfold changeforgeref2_carried.body
    rw [ite_dec, if_neg (by omega), ck_eq (by omega) (by omega), Option.bind_some, ite_dec, if_pos (by omega), ck_eq (by omega) (by omega), Option.bind_some, Option.bind_some, show ((b + (n + 1) : Nat) : Int) - 1 = ((b + n : Nat) : Int) by omega, cj1_f (by omega) h12 _ _ _ _ (by omega) (by omega), downF, show b + (n + 1) - 1 = b + n by omega]
    cases hs : stepAt l (b + n) with
    | inl r => rfl
    | inr l' =>
      obtain ⟨g1, g2⟩ := stepAt_good hg (by omega) hs
      simp only
      rw [show -((n + 1 : Nat) : Int) - -1 = -(n : Int) by omega]
      exact ih l' b g1 (by omega)

theorem carried_f {l : List Patch} (hg : GoodS l) {a b : Nat} (ha : a < l.length) (hb : b < l.length) : changeforgeref2_carried l (a : Int) ((b : Int) - (a : Int)) = some (moveF l a b) := by
  unfold changeforgeref2_carried moveF moveS
  by_cases h : a ≤ b
  · have := up_doc (b - a) l a hg (by omega)
    rw [show ((b - a : Nat) : Int) = (b : Int) - (a : Int) by omega] at this
    rw [if_pos h, show ((b : Int) - (a : Int)).natAbs = b - a by omega, this]
  · have := down_doc (a - b) l b hg (by omega)
    rw [show b + (a - b) = a by omega, show -((a - b : Nat) : Int) = (b : Int) - (a : Int) by omega] at this
    rw [if_neg h, show ((b : Int) - (a : Int)).natAbs = a - b by omega, this]

theorem MoveStack_f (l : List Patch) (a b : Int) : changeforgeref2_MoveStack l a b = some (moveTop l a b) := by
  unfold changeforgeref2_MoveStack moveTop
  rw [rstack_f, Option.bind_some, ite_ndec]
  by_cases h0 : (stackFault l).Code ≠ 0
  · rw [if_neg h0, if_pos h0]
  · rw [if_pos (by omega), if_neg h0, bool_or, Option.bind_some]
    have hg := (stackFault_zero l).1 (by omega)
    have h12 := hg.1
    simp only [dec_or, rat_f, Option.bind_some]
    by_cases h1 : a < 0 ∨ a ≥ l.length
    · rw [if_pos h1, if_pos h1]
    · rw [if_neg h1, if_neg h1, bool_or, Option.bind_some]
      simp only [dec_or]
      by_cases h2 : b < 0 ∨ b ≥ l.length
      · rw [if_pos h2, if_pos h2]
      · rw [if_neg h2, if_neg h2]
        have := carried_f hg (a := a.toNat) (b := b.toNat) (by omega) (by omega)
        rw [show ((a.toNat : Nat) : Int) = a by omega, show ((b.toNat : Nat) : Int) = b by omega] at this
        rw [ck_eq (by omega) (by omega), Option.bind_some, this, Option.bind_some]

/-! ## dropping -/
def dropTop (l : List Patch) (i : Int) : Mres :=
  if (stackFault l).Code ≠ 0 then ([], false, stackFault l) else if i < 0 ∨ i ≥ l.length then ([], false, ⟨3, -2⟩) else
  if (moveF l i.toNat (l.length - 1)).2.1 = false then ([], false, (moveF l i.toNat (l.length - 1)).2.2) else ((moveF l i.toNat (l.length - 1)).1.take (l.length - 1), true, ⟨0, 0⟩)

theorem upF_good : ∀ (n : Nat) (l : List Patch) (a : Nat) (l' : List Patch), GoodS l → a + n < l.length → upF n l a = .inr l' → GoodS l' ∧ l'.length = l.length
  | 0, l, a, l', hg, _, h => by cases h; exact ⟨hg, rfl⟩
  | n + 1, l, a, l', hg, hn, h => by
    rw [upF] at h
    cases hs : stepAt l a with
    | inl r => rw [hs] at h; cases h
    | inr l1 =>
      rw [hs] at h
      obtain ⟨g1, g2⟩ := stepAt_good hg (by omega) hs
      obtain ⟨g3, g4⟩ := upF_good n l1 (a + 1) l' g1 (by omega) h
      exact ⟨g3, by omega⟩
theorem downF_good : ∀ (n : Nat) (l : List Patch) (b : Nat) (l' : List Patch), GoodS l → b + n < l.length → downF n l (b + n) = .inr l' → GoodS l' ∧ l'.length = l.length
  | 0, l, a, l', hg, _, h => by cases h; exact ⟨hg, rfl⟩
  | n + 1, l, b, l', hg, hn, h => by
    rw [downF, show b + (n + 1) - 1 = b + n by omega] at h
    cases hs : stepAt l (b + n) with
    | inl r => rw [hs] at h; cases h
    | inr l1 =>
      rw [hs] at h
      obtain ⟨g1, g2⟩ := stepAt_good hg (by omega) hs
      obtain ⟨g3, g4⟩ := downF_good n l1 b l' g1 (by omega) h
      exact ⟨g3, by omega⟩

theorem stepAt_inl {l : List Patch} {a : Nat} {r : Mres} (h : stepAt l a = .inl r) : r.1 = [] ∧ r.2.1 = false := by
  unfold stepAt at h
  split at h
  · split at h
    · cases h; exact ⟨rfl, rfl⟩
    · split at h
      · cases h; exact ⟨rfl, rfl⟩
      · cases h
  · cases h
theorem upF_inl : ∀ (n : Nat) (l : List Patch) (a : Nat) (r : Mres), upF n l a = .inl r → r.1 = [] ∧ r.2.1 = false
  | 0, l, a, r, h => by cases h
  | n + 1, l, a, r, h => by
    rw [upF] at h
    cases hs : stepAt l a with
    | inl r' => rw [hs] at h; cases h; exact stepAt_inl hs
    | inr l1 => rw [hs] at h; exact upF_inl n l1 (a + 1) r h
theorem downF_inl : ∀ (n : Nat) (l : List Patch) (a : Nat) (r : Mres), downF n l a = .inl r → r.1 = [] ∧ r.2.1 = false
  | 0, l, a, r, h => by cases h
  | n + 1, l, a, r, h => by
    rw [downF] at h
    cases hs : stepAt l (a - 1) with
    | inl r' => rw [hs] at h; cases h; exact stepAt_inl hs
    | inr l1 => rw [hs] at h; exact downF_inl n l1 (a - 1) r h

theorem moveS_good {l l' : List Patch} (hg : GoodS l) {a b : Nat} (ha : a < l.length) (hb : b < l.length) (h : moveS l a b = .inr l') : GoodS l' ∧ l'.length = l.length := by
  unfold moveS at h
  split at h
  · exact upF_good _ l a l' hg (by omega) h
  · have := downF_good (a - b) l b l' hg (by omega)
    rw [show b + (a - b) = a by omega] at this
    exact this h
/-- a move either fails, and hands nothing back, or hands a good stack back -/
theorem moveF_cases {l : List Patch} (hg : GoodS l) {a b : Nat} (ha : a < l.length) (hb : b < l.length) : ((moveF l a b).1 = [] ∧ (moveF l a b).2.1 = false) ∨ ∃ l', moveS l a b = .inr l' ∧ moveF l a b = (l', true, ⟨0, 0⟩) ∧ GoodS l' ∧ l'.length = l.length := by
  unfold moveF
  cases h : moveS l a b with
  | inl r =>
    left
    unfold moveS at h
    split at h
    · exact upF_inl _ _ _ _ h
    · exact downF_inl _ _ _ _ h
  | inr l' => right; exact ⟨l', rfl, rfl, moveS_good hg ha hb h⟩

theorem Drop_f (l : List Patch) (i : Int) : stack_Drop l i = some (dropTop l i) := by
  unfold stack_Drop dropTop
  rw [check_f, Option.bind_some, fless (stackFault_ok l), ite_dec]
  by_cases h0 : (stackFault l).Code ≠ 0
  · rw [if_pos h0, if_pos h0]
  · rw [if_neg h0, if_neg h0, bool_or, Option.bind_some]
    have hg := (stackFault_zero l).1 (by omega)
    have h12 := hg.1
    simp only [dec_or]
    by_cases h1 : i < 0 ∨ i ≥ l.length
    · rw [if_pos h1, if_pos h1]
    · rw [if_neg h1, if_neg h1, ck_eq (by omega) (by omega), Option.bind_some]
      have := move_f hg (a := i.toNat) (b := l.length - 1) (by omega) (by omega)
      rw [show ((i.toNat : Nat) : Int) = i by omega, show ((l.length - 1 : Nat) : Int) = (l.length : Int) - 1 by omega] at this
      rw [this, Option.bind_some]
      rcases moveF_cases hg (a := i.toNat) (b := l.length - 1) (by omega) (by omega) with ⟨m1, m2⟩ | ⟨l', m0, m1, m2, m3⟩
      · rw [m2, if_pos (by decide), if_pos rfl]
      · rw [m1]
        simp only
        rw [if_neg (by decide), if_neg (by decide), ck_eq (by omega) (by omega), Option.bind_some, cut_eq (by omega) (by omega) (by omega), Option.bind_some, show ((l'.length : Int) - 1).toNat = l.length - 1 by omega]; rfl

theorem DropStack_f (l : List Patch) (i : Int) : changeforgeref2_DropStack l i = some (dropTop l i) := by
  unfold changeforgeref2_DropStack dropTop
  rw [rstack_f, Option.bind_some, ite_ndec]
  by_cases h0 : (stackFault l).Code ≠ 0
  · rw [if_neg h0, if_pos h0]
  · rw [if_pos (by omega), if_neg h0, bool_or, Option.bind_some]
    have hg := (stackFault_zero l).1 (by omega)
    have h12 := hg.1
    simp only [dec_or, rat_f, Option.bind_some]
    by_cases h1 : i < 0 ∨ i ≥ l.length
    · rw [if_pos h1, if_pos h1]
    · rw [if_neg h1, if_neg h1, ck_eq (by omega) (by omega), Option.bind_some, ck_eq (by omega) (by omega), Option.bind_some]
      have := carried_f hg (a := i.toNat) (b := l.length - 1) (by omega) (by omega)
      rw [show ((i.toNat : Nat) : Int) = i by omega, show ((l.length - 1 : Nat) : Int) = (l.length : Int) - 1 by omega] at this
      rw [this, Option.bind_some]
      rcases moveF_cases hg (a := i.toNat) (b := l.length - 1) (by omega) (by omega) with ⟨m1, m2⟩ | ⟨l', m0, m1, m2, m3⟩
      · rw [m2, if_pos (by decide), if_pos rfl]
      · rw [m1]
        simp only
        rw [if_neg (by decide), if_neg (by decide), ck_eq (by omega) (by omega), Option.bind_some, cut_eq (by omega) (by omega) (by omega), Option.bind_some, show ((l'.length : Int) - 1).toNat = l.length - 1 by omega]; rfl
end Go.Dc
