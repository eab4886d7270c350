/- The checks of lines and the origins of lines: what they come to. -/
import Derived.Test.YtnlleniemknjcaaDcPA
namespace Go.Dc
open Go

/-- a line the program takes -/
def OkLine (s : ByteArray) : Prop := s.size ≤ 80 ∧ idxB s 10 < 0
/-- a text the program takes -/
def OkText (l : List ByteArray) : Prop := l.length ≤ 120 ∧ ∀ s ∈ l, OkLine s

theorem not_okText {l : List ByteArray} {k : Nat} (h : k < l.length) (hs : ¬ OkLine l[k]) : ¬ OkText l := fun ⟨_, hl⟩ => hs (hl _ (List.getElem_mem h))

theorem validate_eq (l : List ByteArray) : ∃ f, lines_Validate l = some f ∧ ((f = ⟨0, 0⟩ ∧ OkText l) ∨ (f.Code ≠ 0 ∧ ¬ OkText l)) := by
  unfold lines_Validate
  rw [ite_dec]
  by_cases h120 : (l.length : Int) > 120
  · rw [if_pos h120]
    exact ⟨_, rfl, .inr ⟨by simp, fun h => by have := h.1; omega⟩⟩
  · rw [if_neg h120]
    obtain ⟨r, h1, h2⟩ := iter_rule (m := fun s => lines_Validate.l1 l s) (fun s => ∃ k : Nat, s = (k : Int) ∧ k ≤ l.length ∧ ∀ q (hq : q < l.length), q < k → OkLine l[q]) (fun s => l.length - s.toNat)
      (fun r => (r = .inr () ∧ OkText l) ∨ ∃ f, r = .inl f ∧ f.Code ≠ 0 ∧ ¬ OkText l) (by
        rintro s ⟨k, rfl, hk, hall⟩
        unfold lines_Validate.l1
        rw [ite_dec]
        by_cases hlt : k < l.length
        · rw [if_pos (by omega), at_nat hlt, Option.bind_some, ite_dec]
          by_cases h80 : (l[k].size : Int) > 80
          · rw [if_pos h80]
            exact .inr ⟨_, rfl, .inr ⟨_, rfl, by simp, not_okText hlt (fun h => by have := h.1; omega)⟩⟩
          · rw [if_neg h80]
            unfold strings_IndexByte stringslite_IndexByte
            simp only [Option.bind_some, ite_dec]
            by_cases h10 : idxB l[k] 10 ≥ 0
            · rw [if_pos h10]
              exact .inr ⟨_, rfl, .inr ⟨_, rfl, by simp, not_okText hlt (fun h => by have := h.2; omega)⟩⟩
            · rw [if_neg h10, ck_eq (by omega) (by omega), Option.bind_some]
              refine .inl ⟨_, rfl, ⟨k + 1, by omega, hlt, fun q hq hqk => ?_⟩, by omega⟩
              by_cases he : q = k
              · subst he; exact ⟨by omega, by omega⟩
              · exact hall q hq (by omega)
        · rw [if_neg (by omega)]
          refine .inr ⟨_, rfl, .inl ⟨rfl, by omega, fun s hs => ?_⟩⟩
          obtain ⟨q, hq, rfl⟩ := List.getElem_of_mem hs
          exact hall q hq (by omega)) 0 ⟨0, rfl, Nat.zero_le _, fun q hq h => absurd h (by omega)⟩
    rw [h1, Option.bind_some]
    rcases h2 with ⟨rfl, h⟩ | ⟨f, rfl, h, h'⟩
    · exact ⟨_, rfl, .inl ⟨rfl, h⟩⟩
    · exact ⟨_, rfl, .inr ⟨h, h'⟩⟩

theorem faultless {f : Fault} : (!(decide (f.Code = 0) && decide (f.Index = 0))) = true ↔ ¬ (f.Code = 0 ∧ f.Index = 0) := by
  by_cases h : f.Code = 0 <;> by_cases h' : f.Index = 0 <;> simp [h, h']

theorem second_eq (l : List ByteArray) (i : Int) : ∃ f, lines_Second l i = some f ∧ ((f = ⟨0, 0⟩ ∧ OkText l) ∨ (f.Code ≠ 0 ∧ ¬ OkText l)) := by
  obtain ⟨f, h1, h2⟩ := validate_eq l
  unfold lines_Second
  rw [h1, Option.bind_some]
  rcases h2 with ⟨rfl, h⟩ | ⟨h, h'⟩
  · rw [if_neg (by simp)]; exact ⟨_, rfl, .inl ⟨rfl, h⟩⟩
  · rw [if_pos (faultless.2 (fun h2 => h h2.1))]; exact ⟨_, rfl, .inr ⟨h, h'⟩⟩

theorem both_eq (a b : List ByteArray) : ∃ f, lines_Both a b = some f ∧ ((f = ⟨0, 0⟩ ∧ OkText a ∧ OkText b) ∨ (f.Code ≠ 0 ∧ ¬ (OkText a ∧ OkText b))) := by
  obtain ⟨f, h1, h2⟩ := validate_eq a
  unfold lines_Both
  rw [h1, Option.bind_some]
  rcases h2 with ⟨rfl, h⟩ | ⟨h, h'⟩
  · rw [if_neg (by simp)]
    obtain ⟨f2, h3, h4⟩ := second_eq b (-2)
    rw [h3]
    refine ⟨f2, rfl, ?_⟩
    rcases h4 with ⟨rfl, h4⟩ | ⟨h4, h5⟩
    · exact .inl ⟨rfl, h, h4⟩
    · exact .inr ⟨h4, fun hh => h5 hh.2⟩
  · rw [if_pos (faultless.2 (fun h2 => h h2.1))]; exact ⟨_, rfl, .inr ⟨h, fun hh => h' hh.1⟩⟩

/-- the origins behind one step of the file's life -/
def app1 (i : Int) : List Int → List Int → List Int
  | [], _ => []
  | s :: ss, old => if s = 2 then i :: app1 i ss old else match old with
    | [] => []
    | o :: old' => if s = 0 then o :: app1 i ss old' else app1 i ss old'

/-- how many lines of the older text the steps use up -/
def used : List Int → Nat
  | [] => 0
  | s :: ss => if s = 2 then used ss else used ss + 1

theorem used_le : ∀ l, used l ≤ l.length
  | [] => by simp [used]
  | s :: ss => by have := used_le ss; simp only [used, List.length_cons]; split <;> omega

theorem algn_used : ∀ (a b : List ByteArray), used (algn a b) = a.length
  | [], [] => by simp [algn, used]
  | [], _ :: b => by simp [algn, used, algn_used [] b]
  | _ :: a, [] => by simp [algn, used, algn_used a []]
  | x :: a, y :: b => by
    rw [algn]
    split
    · simp [used, algn_used a b]
    · split
      · simp [used, algn_used a (y :: b)]
      · simp [used, algn_used (x :: a) b]
 termination_by a b => a.length + b.length

theorem algn_len : ∀ (a b : List ByteArray), (algn a b).length ≤ a.length + b.length
  | [], [] => by simp [algn]
  | [], _ :: b => by have := algn_len [] b; simp [algn] at *; omega
  | _ :: a, [] => by have := algn_len a []; simp [algn] at *; omega
  | x :: a, y :: b => by
    have h1 := algn_len a b
    have h2 := algn_len a (y :: b)
    have h3 := algn_len (x :: a) b
    rw [algn]
    simp only [List.length_cons] at *
    split
    · simp only [List.length_cons]; omega
    · split <;> simp only [List.length_cons] <;> omega
 termination_by a b => a.length + b.length

/-- the lines side by side -/
def All2 (R : Int → ByteArray → Prop) : List Int → List ByteArray → Prop
  | [], [] => True
  | o :: os, l :: ls => R o l ∧ All2 R os ls
  | _, _ => False

theorem All2.length {R : Int → ByteArray → Prop} : ∀ {os : List Int} {ls : List ByteArray}, All2 R os ls → os.length = ls.length
  | [], [], _ => rfl
  | _ :: _, _ :: _, h => by simp [All2.length h.2]
  | [], _ :: _, h => h.elim
  | _ :: _, [], h => h.elim

theorem All2.get {R : Int → ByteArray → Prop} : ∀ {os : List Int} {ls : List ByteArray}, All2 R os ls → ∀ k (h : k < os.length) (h' : k < ls.length), R os[k] ls[k]
  | _ :: _, _ :: _, h, 0, _, _ => h.1
  | _ :: _, _ :: _, h, k + 1, h1, h2 => All2.get h.2 k (by simpa using h1) (by simpa using h2)
  | [], [], _, _, h1, _ => absurd h1 (by simp)
  | [], _ :: _, h, _, _, _ => h.elim
  | _ :: _, [], h, _, _, _ => h.elim

theorem All2.rep {R : Int → ByteArray → Prop} : ∀ (ls : List ByteArray), (∀ l ∈ ls, R 0 l) → All2 R (List.replicate ls.length 0) ls
  | [], _ => trivial
  | l :: ls, h => ⟨h l (by simp), All2.rep ls (fun x hx => h x (List.mem_cons_of_mem _ hx))⟩

theorem app1_cons (i s : Int) (ss old : List Int) : app1 i (s :: ss) old = if s = 2 then i :: app1 i ss old else match old with
    | [] => []
    | o :: old' => if s = 0 then o :: app1 i ss old' else app1 i ss old' := by cases old <;> rfl

theorem app1_all {R R' : Int → ByteArray → Prop} {i : Int} : ∀ (a b : List ByteArray) (old : List Int), All2 R old a → (∀ l ∈ b, ∀ o, R o l → R' o l) → (∀ l ∈ b, R' i l) → All2 R' (app1 i (algn a b) old) b
  | [], [], old, _, _, _ => by simp [algn, app1, All2]
  | [], y :: b, old, h, h1, h2 => by
    simp only [algn, app1, if_true]
    exact ⟨h2 y (by simp), app1_all [] b old h (fun l hl => h1 l (List.mem_cons_of_mem _ hl)) (fun l hl => h2 l (List.mem_cons_of_mem _ hl))⟩
  | x :: a, [], [], h, _, _ => h.elim
  | x :: a, [], o :: old, h, h1, h2 => by
    simp only [algn, app1]
    exact app1_all a [] old h.2 h1 h2
  | x :: a, y :: b, [], h, _, _ => h.elim
  | x :: a, y :: b, o :: old, h, h1, h2 => by
    have ih : ∀ a' old', a'.length + b.length < (x :: a).length + (y :: b).length → All2 R old' a' → All2 R' (app1 i (algn a' b) old') b := fun a' old' hlt h' => app1_all a' b old' h' (fun l hl => h1 l (List.mem_cons_of_mem _ hl)) (fun l hl => h2 l (List.mem_cons_of_mem _ hl))
    rw [algn]
    split
    · rename_i he
      subst he
      exact ⟨h1 x (by simp) o h.1, ih a old (by simp only [List.length_cons]; omega) h.2⟩
    · split
      · exact app1_all a (y :: b) old h.2 h1 h2
      · exact ⟨h2 y (by simp), ih (x :: a) (o :: old) (by simp only [List.length_cons]; omega) h⟩
 termination_by a b => a.length + b.length

theorem algn_self : ∀ a : List ByteArray, algn a a = List.replicate a.length 0
  | [] => by simp [algn]
  | x :: a => by rw [algn, if_pos rfl, algn_self a]; rfl

theorem app1_self (i : Int) : ∀ (n : Nat) (old : List Int), old.length = n → app1 i (List.replicate n 0) old = old
  | 0, [], _ => rfl
  | n + 1, o :: old, h => by
    simp only [List.replicate_succ, app1]
    rw [if_neg (by omega), if_pos trivial, app1_self i n old (by simpa using h)]

/-- the origins of the last text's lines: the older text, its number's follower, the texts behind it, its lines' origins -/
def anng : List ByteArray → Int → List (List ByteArray) → List Int → List Int
  | _, _, [], old => old
  | a, i, b :: bs, old => anng b (i + 1) bs (app1 i (algn a b) old)

def annot : List (List ByteArray) → List Int
  | [] => []
  | a :: vs => anng a 1 vs (List.replicate a.length 0)

theorem anng_snoc : ∀ (vs : List (List ByteArray)) (a : List ByteArray) (i : Int) (old : List Int) (c : List ByteArray),
    anng a i (vs ++ [c]) old = app1 (i + vs.length) (algn ((a :: vs).getLast (by simp)) c) (anng a i vs old)
  | [], a, i, old, c => by simp [anng]
  | b :: vs, a, i, old, c => by
    simp only [List.cons_append, anng]
    rw [anng_snoc vs b (i + 1)]
    simp only [List.getLast_cons_cons, List.length_cons]
    congr 1
    omega

theorem annot_snoc (vs : List (List ByteArray)) (hne : vs ≠ []) (c : List ByteArray) : annot (vs ++ [c]) = app1 vs.length (algn (vs.getLast hne) c) (annot vs) := by
  cases vs with
  | nil => exact absurd rfl hne
  | cons a vs =>
    simp only [List.cons_append, annot, List.length_cons]
    rw [anng_snoc]
    congr 1
    omega

/-- where a line comes from, it has stayed since -/
def Stays (vs : List (List ByteArray)) (o : Int) (l : ByteArray) : Prop := 0 ≤ o ∧ o < vs.length ∧ ∀ x : Nat, o ≤ x → ∀ v, vs[x]? = some v → l ∈ v

theorem annot_stays : ∀ (n : Nat) (vs : List (List ByteArray)) (hne : vs ≠ []), vs.length = n → All2 (Stays vs) (annot vs) (vs.getLast hne) := by
  intro n
  induction n with
  | zero => intro vs hne h; exact absurd (List.length_eq_zero_iff.1 h) hne
  | succ n ih =>
    intro vs hne h
    obtain ⟨init, c, rfl⟩ : ∃ init c, vs = init ++ [c] := ⟨vs.dropLast, vs.getLast hne, (List.dropLast_concat_getLast hne).symm⟩
    have hlen : init.length = n := by simpa using h
    have hc : ∀ x : Nat, ((init.length : Nat) : Int) ≤ x → ∀ v, (init ++ [c])[x]? = some v → v = c := by
      intro x hx v hv
      rw [List.getElem?_append_right (by omega)] at hv
      have := List.mem_of_getElem? hv
      simpa using this
    rw [show (init ++ [c]).getLast hne = c from by simp]
    by_cases hi : init = []
    · subst hi
      simp only [List.nil_append, annot, anng]
      refine All2.rep c (fun l hl => ⟨by omega, by simp, fun x hx v hv => ?_⟩)
      have := hc x (by simp) v hv
      rw [this]; exact hl
    · rw [annot_snoc init hi]
      refine app1_all _ _ _ (ih init hi hlen) (fun l hl o ho => ⟨ho.1, ?_, fun x hx v hv => ?_⟩) (fun l hl => ⟨by omega, ?_, fun x hx v hv => ?_⟩)
      · have := ho.2.1; simp; omega
      · by_cases hxi : x < init.length
        · rw [List.getElem?_append_left hxi] at hv
          exact ho.2.2 x hx v hv
        · rw [hc x (by omega) v hv]; exact hl
      · simp; omega
      · rw [hc x hx v hv]; exact hl

theorem annot_len (vs : List (List ByteArray)) (hne : vs ≠ []) : (annot vs).length = (vs.getLast hne).length := (annot_stays vs.length vs hne rfl).length

end Go.Dc
