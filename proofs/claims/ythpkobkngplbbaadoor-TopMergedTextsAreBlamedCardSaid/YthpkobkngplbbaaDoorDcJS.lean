/- Joined by sub.py from texts of mine: XDcPG:lcs_step,lcs_step_l XDcPB XDcPC:drop_consI,step_eq,OkFiles,okText_small,annotate_loop,annotate_eq,annotate_ok XDcPL:lcs_sub,cut1 XDcNE:hP,hP_apply,h11_f -/
import Derived.Test.YthpkobkngplbbaaDoorDcJC
set_option linter.unusedSimpArgs false
set_option linter.unusedVariables false
set_option maxRecDepth 4000
namespace Go.Dc
open Go

theorem lcs_step : ∀ (a b : List ByteArray) (y : ByteArray), lcs a (y :: b) ≤ lcs a b + 1 ∧ lcs a b ≤ lcs a (y :: b)
  | [], b, y => by simp [lcs]
  | x :: a, [], y => by
    rw [lcs_cons, lcs_nil_r, lcs_nil_r]
    have := lcs_step a [] y
    rw [lcs_nil_r] at this
    split <;> omega
  | x :: a, z :: b, y => by
    have h1 := lcs_step a (z :: b) y
    have h5 := lcs_step (z :: b) a x
    rw [lcs_comm (z :: b) (x :: a), lcs_comm (z :: b) a] at h5
    rw [lcs_cons x y]
    split <;> omega
 termination_by a b => a.length + b.length

theorem lcs_step_l (a b : List ByteArray) (x : ByteArray) : lcs (x :: a) b ≤ lcs a b + 1 ∧ lcs a b ≤ lcs (x :: a) b := by
  rw [lcs_comm (x :: a) b, lcs_comm a b]; exact lcs_step b a x

/-- the origins behind one step of the file's life -/
def app1 (i : Int) : List Int → List Int → List Int
  | [], _ => []
  | s :: ss, old => if s = 2 then i :: app1 i ss old else match old with
    | [] => []
    | o :: old' => if s = 0 then o :: app1 i ss old' else app1 i ss old'

/-- how many lines of the older text the steps use up -/
def used : List Int → Nat
  | [] => 0
  | s :: ss => if s = 2 then used ss else used ss + 1

theorem algn_used : ∀ (a b : List ByteArray), used (algn a b) = a.length
  | [], [] => by simp [algn, used]
  | [], _ :: b => by simp [algn, used, algn_used [] b]
  | _ :: a, [] => by simp [algn, used, algn_used a []]
  | x :: a, y :: b => by
    rw [algn]
    split
    · simp [used, algn_used a b]
    · split
      · simp [used, algn_used a (y :: b)]
      · simp [used, algn_used (x :: a) b]
 termination_by a b => a.length + b.length

/-- the lines side by side -/
def All2 (R : Int → ByteArray → Prop) : List Int → List ByteArray → Prop
  | [], [] => True
  | o :: os, l :: ls => R o l ∧ All2 R os ls
  | _, _ => False

theorem All2.length {R : Int → ByteArray → Prop} : ∀ {os : List Int} {ls : List ByteArray}, All2 R os ls → os.length = ls.length
  | [], [], _ => rfl
  | _ :: _, _ :: _, h => by simp [All2.length h.2]
  | [], _ :: _, h => h.elim
  | _ :: _, [], h => h.elim

theorem All2.get {R : Int → ByteArray → Prop} : ∀ {os : List Int} {ls : List ByteArray}, All2 R os ls → ∀ k (h : k < os.length) (h' : k < ls.length), R os[k] ls[k]
  | _ :: _, _ :: _, h, 0, _, _ => h.1
  | _ :: _, _ :: _, h, k + 1, h1, h2 => All2.get h.2 k (by simpa using h1) (by simpa using h2)
  | [], [], _, _, h1, _ => absurd h1 (by simp)
  | [], _ :: _, h, _, _, _ => h.elim
  | _ :: _, [], h, _, _, _ => h.elim

theorem All2.rep {R : Int → ByteArray → Prop} : ∀ (ls : List ByteArray), (∀ l ∈ ls, R 0 l) → All2 R (List.replicate ls.length 0) ls
  | [], _ => trivial
  | l :: ls, h => ⟨h l (by simp), All2.rep ls (fun x hx => h x (List.mem_cons_of_mem _ hx))⟩

theorem app1_cons (i s : Int) (ss old : List Int) : app1 i (s :: ss) old = if s = 2 then i :: app1 i ss old else match old with
    | [] => []
    | o :: old' => if s = 0 then o :: app1 i ss old' else app1 i ss old' := by cases old <;> rfl

theorem app1_all {R R' : Int → ByteArray → Prop} {i : Int} : ∀ (a b : List ByteArray) (old : List Int), All2 R old a → (∀ l ∈ b, ∀ o, R o l → R' o l) → (∀ l ∈ b, R' i l) → All2 R' (app1 i (algn a b) old) b
  | [], [], old, _, _, _ => by simp [algn, app1, All2]
  | [], y :: b, old, h, h1, h2 => by
    simp only [algn, app1, if_true]
    exact ⟨h2 y (by simp), app1_all [] b old h (fun l hl => h1 l (List.mem_cons_of_mem _ hl)) (fun l hl => h2 l (List.mem_cons_of_mem _ hl))⟩
  | x :: a, [], [], h, _, _ => h.elim
  | x :: a, [], o :: old, h, h1, h2 => by
    simp only [algn, app1]
    exact app1_all a [] old h.2 h1 h2
  | x :: a, y :: b, [], h, _, _ => h.elim
  | x :: a, y :: b, o :: old, h, h1, h2 => by
    have ih : ∀ a' old', a'.length + b.length < (x :: a).length + (y :: b).length → All2 R old' a' → All2 R' (app1 i (algn a' b) old') b := fun a' old' hlt h' => app1_all a' b old' h' (fun l hl => h1 l (List.mem_cons_of_mem _ hl)) (fun l hl => h2 l (List.mem_cons_of_mem _ hl))
    rw [algn]
    split
    · rename_i he
      subst he
      exact ⟨h1 x (by simp) o h.1, ih a old (by simp only [List.length_cons]; omega) h.2⟩
    · split
      · exact app1_all a (y :: b) old h.2 h1 h2
      · exact ⟨h2 y (by simp), ih (x :: a) (o :: old) (by simp only [List.length_cons]; omega) h⟩
 termination_by a b => a.length + b.length

/-- the origins of the last text's lines: the older text, its number's follower, the texts behind it, its lines' origins -/
def anng : List ByteArray → Int → List (List ByteArray) → List Int → List Int
  | _, _, [], old => old
  | a, i, b :: bs, old => anng b (i + 1) bs (app1 i (algn a b) old)

def annot : List (List ByteArray) → List Int
  | [] => []
  | a :: vs => anng a 1 vs (List.replicate a.length 0)

theorem anng_snoc : ∀ (vs : List (List ByteArray)) (a : List ByteArray) (i : Int) (old : List Int) (c : List ByteArray),
    anng a i (vs ++ [c]) old = app1 (i + vs.length) (algn ((a :: vs).getLast (by simp)) c) (anng a i vs old)
  | [], a, i, old, c => by simp [anng]
  | b :: vs, a, i, old, c => by
    simp only [List.cons_append, anng]
    rw [anng_snoc vs b (i + 1)]
    simp only [List.getLast_cons_cons, List.length_cons]
    congr 1
    omega

theorem annot_snoc (vs : List (List ByteArray)) (hne : vs ≠ []) (c : List ByteArray) : annot (vs ++ [c]) = app1 vs.length (algn (vs.getLast hne) c) (annot vs) := by
  cases vs with
  | nil => exact absurd rfl hne
  | cons a vs =>
    simp only [List.cons_append, annot, List.length_cons]
    rw [anng_snoc]
    congr 1
    omega

/-- where a line comes from, it has stayed since -/
def Stays (vs : List (List ByteArray)) (o : Int) (l : ByteArray) : Prop := 0 ≤ o ∧ o < vs.length ∧ ∀ x : Nat, o ≤ x → ∀ v, vs[x]? = some v → l ∈ v

theorem annot_stays : ∀ (n : Nat) (vs : List (List ByteArray)) (hne : vs ≠ []), vs.length = n → All2 (Stays vs) (annot vs) (vs.getLast hne) := by
  intro n
  induction n with
  | zero => intro vs hne h; exact absurd (List.length_eq_zero_iff.1 h) hne
  | succ n ih =>
    intro vs hne h
    obtain ⟨init, c, rfl⟩ : ∃ init c, vs = init ++ [c] := ⟨vs.dropLast, vs.getLast hne, (List.dropLast_concat_getLast hne).symm⟩
    have hlen : init.length = n := by simpa using h
    have hc : ∀ x : Nat, ((init.length : Nat) : Int) ≤ x → ∀ v, (init ++ [c])[x]? = some v → v = c := by
      intro x hx v hv
      rw [List.getElem?_append_right (by omega)] at hv
      have := List.mem_of_getElem? hv
      simpa using this
    rw [show (init ++ [c]).getLast hne = c from by simp]
    by_cases hi : init = []
    · subst hi
      simp only [List.nil_append, annot, anng]
      refine All2.rep c (fun l hl => ⟨by omega, by simp, fun x hx v hv => ?_⟩)
      have := hc x (by simp) v hv
      rw [this]; exact hl
    · rw [annot_snoc init hi]
      refine app1_all _ _ _ (ih init hi hlen) (fun l hl o ho => ⟨ho.1, ?_, fun x hx v hv => ?_⟩) (fun l hl => ⟨by omega, ?_, fun x hx v hv => ?_⟩)
      · have := ho.2.1; simp; omega
      · by_cases hxi : x < init.length
        · rw [List.getElem?_append_left hxi] at hv
          exact ho.2.2 x hx v hv
        · rw [hc x (by omega) v hv]; exact hl
      · simp; omega
      · rw [hc x hx v hv]; exact hl

theorem step_eq {i : Int} {ss old : List Int} (hs : ss.length * 8 ≤ 140737488355328) (hu : used ss ≤ old.length) :
    iter (fun s => blame_Annotate.l2 i ss s.1 s.2.1 s.2.2) (0, [], old) = some (app1 i ss old) := by
  refine iter_eq_of (σ := Int × List Int × List Int) (fun s => ∃ k : Nat, k ≤ ss.length ∧ s.1 = (k : Int) ∧ s.2.1.length ≤ k ∧ used (ss.drop k) ≤ s.2.2.length ∧ s.2.1 ++ app1 i (ss.drop k) s.2.2 = app1 i ss old) (fun s => ss.length - s.1.toNat) _ ?_ _ ⟨0, Nat.zero_le _, rfl, by simp, by simpa using hu, by simp⟩
  rintro ⟨x, out, od⟩ ⟨k, hk, hx, hl, hu, ho⟩
  simp only at hx hl hu ho ⊢
  subst hx
  unfold blame_Annotate.l2
  rw [ite_dec]
  by_cases hlt : k < ss.length
  · left
    have hd := drop_consI hlt
    rw [hd] at hu ho
    rw [if_pos (by omega), at_nat hlt, Option.bind_some, ite_dec]
    have nxt : ∀ out' od' : List Int, out'.length ≤ k + 1 → used (ss.drop (k + 1)) ≤ od'.length → out' ++ app1 i (ss.drop (k + 1)) od' = app1 i ss old →
        ∃ s', blame_Annotate.j5 (k : Int) out' od' = some (.next s') ∧ (∃ q : Nat, q ≤ ss.length ∧ s'.1 = (q : Int) ∧ s'.2.1.length ≤ q ∧ used (ss.drop q) ≤ s'.2.2.length ∧ s'.2.1 ++ app1 i (ss.drop q) s'.2.2 = app1 i ss old) ∧ ss.length - s'.1.toNat < ss.length - (k : Int).toNat := by
      intro out' od' h1 h2 h3
      unfold blame_Annotate.j5
      rw [ck_eq (by omega) (by omega), Option.bind_some]
      exact ⟨_, rfl, ⟨k + 1, hlt, by simp, h1, h2, h3⟩, by simp only; omega⟩
    by_cases h2 : ss[k] = 2
    · rw [if_pos h2, app_eq (by simp only [List.length_singleton]; omega), Option.bind_some]
      rw [used, if_pos h2] at hu
      rw [app1_cons, if_pos h2] at ho
      exact nxt _ _ (by simp; omega) hu (by rw [List.append_assoc]; exact ho)
    · rw [if_neg h2, ite_dec]
      rw [used, if_neg h2] at hu
      rw [app1_cons, if_neg h2] at ho
      match od, hu, ho with
      | [], hu, _ => exact absurd hu (by simp)
      | o :: od', hu, ho =>
        simp only [List.length_cons] at hu
        have j6 : ∀ out', blame_Annotate.j6 (k : Int) (o :: od') out' = blame_Annotate.j5 (k : Int) out' od' := by
          intro out'
          unfold blame_Annotate.j6
          rw [cut_eq (by omega) (by simp only [List.length_cons]; omega) (by omega), Option.bind_some]
          congr 1
          rw [show (((o :: od').length : Int)).toNat = (o :: od').length from by omega, List.take_length]
          rfl
        by_cases h0 : ss[k] = 0
        · rw [if_pos h0]
          simp only [if_pos h0] at ho
          rw [show at? (o :: od') 0 = some o from rfl, Option.bind_some, app_eq (by simp only [List.length_singleton]; omega), Option.bind_some, j6]
          exact nxt _ _ (by simp; omega) (by omega) (by rw [List.append_assoc]; exact ho)
        · rw [if_neg h0]
          simp only [if_neg h0] at ho
          rw [j6]
          exact nxt _ _ (by omega) (by omega) ho
  · right
    rw [if_neg (by omega)]
    have : ss.drop k = [] := List.drop_eq_nil_of_le (by omega)
    rw [this] at ho
    simp only [app1, List.append_nil] at ho
    rw [ho]

/-- what the program takes -/
def OkFiles (vs : List (List ByteArray)) : Prop := vs.length ≤ 16 ∧ ∀ v ∈ vs, OkText v

theorem annotate_loop {vs : List (List ByteArray)} (ho : OkFiles vs) : iter (fun s => blame_Annotate.l1 vs s.1 s.2) (0, []) = some (annot vs) := by
  refine iter_eq_of (σ := Int × List Int) (fun s => ∃ k : Nat, k ≤ vs.length ∧ s.1 = (k : Int) ∧ s.2 = annot (vs.take k) ∧ (∀ (h : k - 1 < vs.length), 0 < k → s.2.length = vs[k - 1].length)) (fun s => vs.length - s.1.toNat) _ ?_ _ ⟨0, Nat.zero_le _, rfl, by simp [annot], fun _ h => absurd h (by omega)⟩
  rintro ⟨x, old⟩ ⟨k, hk, hx, hold, hlen⟩
  simp only at hx hold hlen ⊢
  subst hx
  have h16 := ho.1
  unfold blame_Annotate.l1
  rw [ite_dec]
  by_cases hlt : k < vs.length
  · left
    rw [if_pos (by omega), at_nat hlt, Option.bind_some, ite_dec]
    have okk := ho.2 _ (List.getElem_mem hlt)
    have nxt : ∀ old' : List Int, old' = annot (vs.take (k + 1)) → old'.length = vs[k].length → ∃ s', blame_Annotate.j3 (k : Int) old' = some (.next s') ∧ (∃ q : Nat, q ≤ vs.length ∧ s'.1 = (q : Int) ∧ s'.2 = annot (vs.take q) ∧ (∀ (h : q - 1 < vs.length), 0 < q → s'.2.length = vs[q - 1].length)) ∧ vs.length - s'.1.toNat < vs.length - (k : Int).toNat := by
      intro old' h1 h2
      unfold blame_Annotate.j3
      rw [ck_eq (by omega) (by omega), Option.bind_some]
      exact ⟨_, rfl, ⟨k + 1, hlt, by simp, h1, fun h _ => h2⟩, by simp only; omega⟩
    cases k with
    | zero =>
      rw [if_pos (by rfl)]
      have := okk.1
      rw [mk_eq (by omega) (by omega), Option.bind_some]
      refine nxt _ ?_ (by simp)
      rw [List.take_succ_eq_append_getElem hlt]
      simp [annot, anng]
    | succ k =>
      have hk' : k < vs.length := by omega
      rw [if_neg (by omega), ck_eq (by omega) (by omega), Option.bind_some, show ((k + 1 : Nat) : Int) - 1 = (k : Int) from by omega, at_nat hk', Option.bind_some]
      have okp := ho.2 _ (List.getElem_mem hk')
      have h1 := okk.1
      have h2 := okp.1
      rw [align_eq (okText_small okp okk), Option.bind_some]
      have hal := algn_len vs[k] vs[k + 1]
      have hold' : old.length = vs[k].length := hlen (by omega) (by omega)
      have hnt : vs.take (k + 1) ≠ [] := by intro h; have := congrArg List.length h; rw [List.length_take, List.length_nil] at this; omega
      have hlast : (vs.take (k + 1)).getLast hnt = vs[k] := by
        rw [List.getLast_eq_getElem]
        have e : (vs.take (k + 1)).length - 1 = k := by rw [List.length_take]; omega
        simp only [e, List.getElem_take]
      rw [step_eq (by omega) (by rw [algn_used]; omega), Option.bind_some]
      unfold blame_Annotate.j4
      refine nxt _ ?_ ?_
      · rw [List.take_succ_eq_append_getElem hlt, annot_snoc _ hnt, hlast, ← hold]
        congr 1
        rw [List.length_take]; omega
      · have hall := annot_stays _ _ hnt rfl
        rw [hlast, ← hold] at hall
        exact (app1_all (R' := fun _ _ => True) (i := ((k + 1 : Nat) : Int)) vs[k] vs[k + 1] old hall (fun _ _ _ _ => trivial) (fun _ _ => trivial)).length
  · right
    rw [if_neg (by omega), hold, List.take_of_length_le (by omega)]

theorem annotate_eq (vs : List (List ByteArray)) : ∃ os f, blame_Annotate vs = some (os, f) ∧ ((f = ⟨0, 0⟩ ∧ os = annot vs ∧ OkFiles vs) ∨ (f.Code ≠ 0 ∧ ¬ OkFiles vs)) := by
  unfold blame_Annotate
  rw [ite_dec]
  by_cases h16 : (vs.length : Int) > 16
  · rw [if_pos h16]
    exact ⟨_, _, rfl, .inr ⟨by simp, fun h => by have := h.1; omega⟩⟩
  · rw [if_neg h16]
    obtain ⟨r, h1, h2⟩ := iter_rule (m := fun s => blame_Annotate.l3 vs s) (fun s => ∃ k : Nat, s = (k : Int) ∧ k ≤ vs.length ∧ ∀ q (hq : q < vs.length), q < k → OkText vs[q]) (fun s => vs.length - s.toNat)
      (fun r => (r = .inr () ∧ OkFiles vs) ∨ ∃ f, r = .inl ([], f) ∧ f.Code ≠ 0 ∧ ¬ OkFiles vs) (by
        rintro s ⟨k, rfl, hk, hall⟩
        unfold blame_Annotate.l3
        rw [ite_dec]
        by_cases hlt : k < vs.length
        · rw [if_pos (by omega), at_nat hlt, Option.bind_some]
          obtain ⟨f, h1, h2⟩ := second_eq vs[k] k
          rw [h1, Option.bind_some]
          rcases h2 with ⟨rfl, h2⟩ | ⟨h2, h3⟩
          · rw [if_neg (by simp), ck_eq (by omega) (by omega), Option.bind_some]
            refine .inl ⟨_, rfl, ⟨k + 1, by omega, hlt, fun q hq hqk => ?_⟩, by omega⟩
            by_cases he : q = k
            · subst he; exact h2
            · exact hall q hq (by omega)
          · rw [if_pos (faultless.2 (fun h => h2 h.1))]
            exact .inr ⟨_, rfl, .inr ⟨f, rfl, h2, fun h => h3 (h.2 _ (List.getElem_mem hlt))⟩⟩
        · rw [if_neg (by omega)]
          refine .inr ⟨_, rfl, .inl ⟨rfl, by omega, fun s hs => ?_⟩⟩
          obtain ⟨q, hq, rfl⟩ := List.getElem_of_mem hs
          exact hall q hq (by omega)) 0 ⟨0, rfl, Nat.zero_le _, fun q hq h => absurd h (by omega)⟩
    rw [h1, Option.bind_some]
    rcases h2 with ⟨rfl, h⟩ | ⟨f, rfl, h, h'⟩
    · simp only
      unfold blame_Annotate.j1 blame_Annotate.j2
      rw [annotate_loop h, Option.bind_some]
      exact ⟨_, _, rfl, .inl ⟨rfl, rfl, h⟩⟩
    · exact ⟨_, _, rfl, .inr ⟨h, h'⟩⟩

theorem annotate_ok {vs : List (List ByteArray)} (h : OkFiles vs) : blame_Annotate vs = some (annot vs, ⟨0, 0⟩) := by
  obtain ⟨os, f, h1, h2⟩ := annotate_eq vs
  rcases h2 with ⟨rfl, rfl, _⟩ | ⟨_, h3⟩
  · exact h1
  · exact absurd h h3

theorem cut1 {l : List ByteArray} {k : Nat} (h : k < l.length) : cut? l (k : Int) ((k : Int) + 1) = some [l[k]] := by
  rw [cut_eq (by omega) (by omega) (by omega), Int.toNat_natCast, show ((k : Int) + 1).toNat = k + 1 by omega, List.drop_take, show k + 1 - k = 1 by omega, List.drop_eq_getElem_cons h]
  rfl

theorem lcs_sub : ∀ (a b c : List ByteArray), c.Sublist a → c.Sublist b → c.length ≤ lcs a b
  | [], b, c, h, _ => by rw [List.sublist_nil.1 h]; exact Nat.zero_le _
  | x :: a, [], c, _, h => by rw [List.sublist_nil.1 h]; exact Nat.zero_le _
  | x :: a, y :: b, c, h, h' => by
    rw [lcs_cons]
    have s1 := lcs_step a b y
    cases h with
    | cons _ h1 =>
      have := lcs_sub a (y :: b) c h1 h'
      split <;> omega
    | cons_cons _ h1 =>
      rename_i c'
      cases h' with
      | cons _ h2 =>
        have := lcs_sub (x :: a) b (x :: c') (h1.cons_cons x) h2
        split
        · have s2 := lcs_step_l a b x; omega
        · omega
      | cons_cons _ h2 =>
        have := lcs_sub a b c' h1 h2
        rw [if_pos rfl]
        simp only [List.length_cons]; omega
 termination_by a b => a.length + b.length

abbrev hP : Patch := ⟨[⟨0, [⟨#[97]⟩], [⟨#[98]⟩]⟩]⟩
theorem hP_apply : applyF hP [⟨#[97]⟩] = ([⟨#[98]⟩], ⟨0, 0⟩) := by
  have h1 : (applyF hP [⟨#[97]⟩]).2.Code = 0 := by decide +kernel
  have h2 : (applyF hP [⟨#[97]⟩]).1 = [⟨#[98]⟩] := by decide +kernel
  obtain ⟨_, _, _, _, _, h3⟩ := applyF_ok h1
  rw [h3] at h2 ⊢
  simp only at h2
  rw [h2]

theorem h11_f : changeforgetop_h11Works = some true := by
  have ed : OkCh (edF ⟨#[120]⟩ hP) := chF_ok.1 (by decide +kernel)
  have ta : OkText [(⟨#[97]⟩ : ByteArray)] := (okText_iff _).2 ((textFault_zero _).2 (by decide +kernel))
  have tb : OkText [(⟨#[98]⟩ : ByteArray)] := (okText_iff _).2 ((textFault_zero _).2 (by decide +kernel))
  have e : applyT [edF ⟨#[120]⟩ hP] [⟨⟨#[120]⟩, [⟨#[97]⟩]⟩] = ([⟨⟨#[120]⟩, [⟨#[98]⟩]⟩], ⟨0, 0⟩) := by
    have hp : posF [(⟨⟨#[120]⟩, [⟨#[97]⟩]⟩ : File)] ⟨#[120]⟩ = 0 := by
      unfold posF; rw [List.takeWhile_cons, sLt_irr]; rfl
    have hh : hasF [(⟨⟨#[120]⟩, [⟨#[97]⟩]⟩ : File)] ⟨#[120]⟩ = true := by simp [hasF]
    have hm : makeF (edF ⟨#[120]⟩ hP) [⟨⟨#[120]⟩, [⟨#[97]⟩]⟩] = (0, [⟨⟨#[120]⟩, [⟨#[98]⟩]⟩]) := by
      unfold makeF edF
      simp only [hp, hh, if_true, List.getElem?_cons_zero, hP_apply]
      rfl
    rw [applyT_of (by simp) (by intro c hc; rw [List.mem_singleton] at hc; subst hc; exact ed) (one_ok (by decide +kernel) ta), runF, hm]; rfl
  unfold changeforgetop_h11Works changeforgetop_h11Edit
  rw [apply_f, Option.bind_some, Option.bind_some, Apply_f, Option.bind_some]
  simp only
  rw [show (⟨4, ⟨#[120]⟩, ByteArray.empty, [], ⟨[⟨0, [⟨#[97]⟩], [⟨#[98]⟩]⟩]⟩⟩ : TreeChange) = edF ⟨#[120]⟩ hP from rfl, e, hP_apply]
  simp only [decide_true, if_true, Option.bind_some]
  rw [strings_eq _ _ (by simp), Option.bind_some, tree_ok (one_ok (by decide +kernel) tb)]
  simp
end Go.Dc
