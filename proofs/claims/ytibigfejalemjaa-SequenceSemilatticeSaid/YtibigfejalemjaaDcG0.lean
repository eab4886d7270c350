/- Joined by sub.py from texts of mine: XDcQA^second_f -/
import Derived.Test.YtibigfejalemjaaDcP
import Derived.Test.YtibigfejalemjaaDcPS
import Derived.Test.YtibigfejalemjaaDcM
import Derived.Lib.IndexAny
set_option linter.unusedSimpArgs false
set_option linter.unusedVariables false
set_option maxRecDepth 4000
namespace Go.Dc
open Go

/-- a line the program takes -/
def OkLine (s : ByteArray) : Prop := s.size ≤ 80 ∧ idxB s 10 < 0
/-- a text the program takes -/
def OkText (l : List ByteArray) : Prop := l.length ≤ 120 ∧ ∀ s ∈ l, OkLine s

theorem not_okText {l : List ByteArray} {k : Nat} (h : k < l.length) (hs : ¬ OkLine l[k]) : ¬ OkText l := fun ⟨_, hl⟩ => hs (hl _ (List.getElem_mem h))

theorem validate_eq (l : List ByteArray) : ∃ f, lines_Validate l = some f ∧ ((f = ⟨0, 0⟩ ∧ OkText l) ∨ (f.Code ≠ 0 ∧ ¬ OkText l)) := by
  unfold lines_Validate
  rw [ite_dec]
  by_cases h120 : (l.length : Int) > 120
  · rw [if_pos h120]
    exact ⟨_, rfl, .inr ⟨by simp, fun h => by have := h.1; omega⟩⟩
  · rw [if_neg h120]
    obtain ⟨r, h1, h2⟩ := iter_rule (m := fun s => lines_Validate.l1 l s) (fun s => ∃ k : Nat, s = (k : Int) ∧ k ≤ l.length ∧ ∀ q (hq : q < l.length), q < k → OkLine l[q]) (fun s => l.length - s.toNat)
      (fun r => (r = .inr () ∧ OkText l) ∨ ∃ f, r = .inl f ∧ f.Code ≠ 0 ∧ ¬ OkText l) (by
        rintro s ⟨k, rfl, hk, hall⟩
        unfold lines_Validate.l1
        rw [ite_dec]
        by_cases hlt : k < l.length
        · rw [if_pos (by omega), at_nat hlt, Option.bind_some, ite_dec]
          by_cases h80 : (l[k].size : Int) > 80
          · rw [if_pos h80]
            exact .inr ⟨_, rfl, .inr ⟨_, rfl, by simp, not_okText hlt (fun h => by have := h.1; omega)⟩⟩
          · rw [if_neg h80]
            unfold strings_IndexByte stringslite_IndexByte
            simp only [Option.bind_some, ite_dec]
            by_cases h10 : idxB l[k] 10 ≥ 0
            · rw [if_pos h10]
              exact .inr ⟨_, rfl, .inr ⟨_, rfl, by simp, not_okText hlt (fun h => by have := h.2; omega)⟩⟩
            · rw [if_neg h10, ck_eq (by omega) (by omega), Option.bind_some]
              refine .inl ⟨_, rfl, ⟨k + 1, by omega, hlt, fun q hq hqk => ?_⟩, by omega⟩
              by_cases he : q = k
              · subst he; exact ⟨by omega, by omega⟩
              · exact hall q hq (by omega)
        · rw [if_neg (by omega)]
          refine .inr ⟨_, rfl, .inl ⟨rfl, by omega, fun s hs => ?_⟩⟩
          obtain ⟨q, hq, rfl⟩ := List.getElem_of_mem hs
          exact hall q hq (by omega)) 0 ⟨0, rfl, Nat.zero_le _, fun q hq h => absurd h (by omega)⟩
    rw [h1, Option.bind_some]
    rcases h2 with ⟨rfl, h⟩ | ⟨f, rfl, h, h'⟩
    · exact ⟨_, rfl, .inl ⟨rfl, h⟩⟩
    · exact ⟨_, rfl, .inr ⟨h, h'⟩⟩

theorem faultless {f : Fault} : (!(decide (f.Code = 0) && decide (f.Index = 0))) = true ↔ ¬ (f.Code = 0 ∧ f.Index = 0) := by
  by_cases h : f.Code = 0 <;> by_cases h' : f.Index = 0 <;> simp [h, h']

theorem drop_consI {α : Type} {l : List α} {i : Nat} (h : i < l.length) : l.drop i = l[i] :: l.drop (i + 1) := List.drop_eq_getElem_cons h

theorem strings_eq (a b : List ByteArray) (hb : a.length ≤ 1000000) : changeforgeequal_Strings a b = some (decide (a = b)) := by
  unfold changeforgeequal_Strings
  rw [ite_ndec]
  by_cases hl : (a.length : Int) = (b.length : Int)
  · rw [if_pos hl]
    have hl' : a.length = b.length := by omega
    obtain ⟨r, h1, h2⟩ := iter_rule (m := fun s => changeforgeequal_Strings.l1 a b s) (fun s => ∃ k : Nat, s = (k : Int) ∧ k ≤ a.length ∧ a.take k = b.take k) (fun s => a.length - s.toNat)
      (fun r => (r = .inr () ∧ a = b) ∨ (r = .inl false ∧ a ≠ b)) (by
        rintro s ⟨k, rfl, hk, hall⟩
        unfold changeforgeequal_Strings.l1
        rw [ite_dec]
        by_cases hlt : k < a.length
        · rw [if_pos (by omega), at_nat hlt, Option.bind_some, at_nat (by omega), Option.bind_some, ite_ndec]
          by_cases he : a[k] = b[k]
          · rw [if_pos he, ck_eq (by omega) (by omega), Option.bind_some]
            exact .inl ⟨_, rfl, ⟨k + 1, by omega, hlt, by rw [List.take_succ_eq_append_getElem hlt, List.take_succ_eq_append_getElem (by omega), hall, he]⟩, by omega⟩
          · rw [if_neg he]
            exact .inr ⟨_, rfl, .inr ⟨rfl, fun h => he (by subst h; rfl)⟩⟩
        · rw [if_neg (by omega)]
          refine .inr ⟨_, rfl, .inl ⟨rfl, ?_⟩⟩
          rw [List.take_of_length_le (by omega), List.take_of_length_le (by omega)] at hall
          exact hall) 0 ⟨0, rfl, Nat.zero_le _, by simp⟩
    rw [h1, Option.bind_some]
    rcases h2 with ⟨rfl, h⟩ | ⟨rfl, h⟩
    · rw [decide_eq_true h]; rfl
    · rw [decide_eq_false h]
  · rw [if_neg hl, decide_eq_false (fun h => hl (by rw [h]))]

/-- a datum of either side -/
def orL {α : Type} : Option α → α ⊕ Unit
  | some x => .inl x
  | Option.none => .inr ()

theorem drop_at {α : Type} {l r : List α} {x : α} {k : Nat} (h : l.drop k = x :: r) : ∃ hk : k < l.length, l[k] = x ∧ l.drop (k + 1) = r := by
  have hk : k < l.length := by
    rcases Nat.lt_or_ge k l.length with h' | h'
    · exact h'
    · rw [List.drop_eq_nil_of_le h'] at h; cases h
  rw [List.drop_eq_getElem_cons hk] at h
  exact ⟨hk, (List.cons.inj h).1, (List.cons.inj h).2⟩

theorem drop_end {α : Type} {l : List α} {k : Nat} (h : l.drop k = []) : l.length ≤ k := by simpa using h

def hasNL (s : ByteArray) : Bool := s.data.toList.contains 10

theorem idxB_nl (s : ByteArray) : decide (idxB s 10 ≥ 0) = hasNL s := by
  unfold hasNL idxB
  rw [Lib.contains_iff_indexByte]
  rfl

def tscan : Int → List ByteArray → Option Fault
  | _, [] => Option.none
  | i, s :: r => if s.size > 80 then some ⟨2, i⟩ else if hasNL s then some ⟨5, i⟩ else tscan (i + 1) r

/-- the fault of a text -/
def textFault (l : List ByteArray) : Fault := if l.length > 120 then ⟨2, -1⟩ else (tscan 0 l).getD ⟨0, 0⟩

theorem validate_f (l : List ByteArray) : lines_Validate l = some (textFault l) := by
  unfold lines_Validate textFault
  rw [ite_dec]
  by_cases h120 : l.length > 120
  · rw [if_pos (by omega), if_pos h120]
  · rw [if_neg (by omega), if_neg h120]
    have key : ∀ (rest : List ByteArray) (k : Nat), l.drop k = rest → iter (fun s => lines_Validate.l1 l s) (k : Int) = some (orL (tscan k rest)) := by
      intro rest
      induction rest with
      | nil =>
        intro k hk
        have := drop_end hk
        refine iter_done ?_
        unfold lines_Validate.l1
        rw [ite_dec, if_neg (by omega)]; rfl
      | cons s r ih =>
        intro k hk
        obtain ⟨hlt, hs, hr⟩ := drop_at hk
        have e1 : lines_Validate.l1 l (k : Int) = if s.size > 80 then some (Step.done (.inl ⟨2, (k : Int)⟩)) else if hasNL s then some (Step.done (.inl ⟨5, (k : Int)⟩)) else some (Step.next ((k : Int) + 1)) := by
          unfold lines_Validate.l1 strings_IndexByte stringslite_IndexByte
          simp (disch := omega) only [at_nat hlt, hs, Option.bind_some, ck_eq, if_pos, ← idxB_nl, decide_eq_true_eq]
          by_cases h : s.size > 80
          · rw [if_pos (by omega), if_pos h]
          · rw [if_neg (by omega), if_neg h]
        rw [tscan]
        by_cases h80 : s.size > 80
        · rw [if_pos h80] at e1 ⊢; exact iter_done e1
        · rw [if_neg h80] at e1 ⊢
          cases hn : hasNL s with
          | true => rw [hn, if_pos rfl] at e1; exact iter_done e1
          | false =>
            rw [hn, if_neg (by decide)] at e1
            have := ih (k + 1) hr
            rw [iter_next e1]
            exact this
    have := key l 0 rfl
    simp only [Int.natCast_zero] at this
    rw [show (0 : Int) = ((0 : Nat) : Int) from rfl] at *
    rw [key l 0 rfl, Option.bind_some]
    cases tscan ((0 : Nat) : Int) l <;> rfl

theorem sAt_nat {s : ByteArray} {k : Nat} (h : k < s.size) : sAt? s (k : Int) = some ((s[k].toNat : Nat) : Int) := by
  unfold sAt?
  rw [if_pos (by omega)]
  simp [h]

theorem linesFault_f (l : List ByteArray) : changeforgeref1_LinesFault l = some (textFault l) := by
  unfold changeforgeref1_LinesFault textFault changeforgeref1_At
  rw [ite_dec]
  by_cases h120 : l.length > 120
  · rw [if_pos (by omega), if_pos h120]; rfl
  · rw [if_neg (by omega), if_neg h120]
    have key : ∀ (rest : List ByteArray) (k : Nat), l.drop k = rest → iter (fun s => changeforgeref1_LinesFault.l1 l s) (k : Int) = some (orL (tscan k rest)) := by
      intro rest
      induction rest with
      | nil =>
        intro k hk
        have := drop_end hk
        refine iter_done ?_
        unfold changeforgeref1_LinesFault.l1
        rw [ite_dec, if_neg (by omega)]; rfl
      | cons s r ih =>
        intro k hk
        obtain ⟨hlt, hs, hr⟩ := drop_at hk
        rw [tscan]
        by_cases h80 : s.size > 80
        · rw [if_pos h80]
          refine iter_done ?_
          unfold changeforgeref1_LinesFault.l1 changeforgeref1_At
          simp (disch := omega) only [ite_dec, at_nat hlt, hs, Option.bind_some, if_pos]
          rfl
        · rw [if_neg h80]
          have inner : ∀ (tail : List UInt8) (j : Nat), s.data.toList.drop j = tail → iter (fun q => changeforgeref1_LinesFault.l2 l (k : Int) q) (j : Int) = some (orL (if tail.contains 10 then some ⟨5, (k : Int)⟩ else Option.none)) := by
            intro tail
            induction tail with
            | nil =>
              intro j hj
              have : s.data.toList.length ≤ j := drop_end hj
              have hsz : s.data.toList.length = s.size := by rw [Array.length_toList]; rfl
              refine iter_done ?_
              unfold changeforgeref1_LinesFault.l2
              simp (disch := omega) only [ite_dec, at_nat hlt, hs, Option.bind_some, if_neg]
              rfl
            | cons c tl ih2 =>
              intro j hj
              obtain ⟨hj1, hc, htl⟩ := drop_at hj
              have hsz : s.data.toList.length = s.size := by rw [Array.length_toList]; rfl
              have hcc : s[j]'(by omega) = c := by rw [← hc]; rfl
              have e2 : changeforgeref1_LinesFault.l2 l (k : Int) (j : Int) = if c = 10 then some (Step.done (.inl ⟨5, (k : Int)⟩)) else some (Step.next ((j : Int) + 1)) := by
                unfold changeforgeref1_LinesFault.l2 changeforgeref1_At
                simp (disch := omega) only [ite_dec, at_nat hlt, hs, Option.bind_some, if_pos, sAt_nat, hcc, ck_eq]
                by_cases h10 : c = 10
                · rw [if_pos h10, if_pos (by rw [h10]; rfl)]
                · rw [if_neg h10, if_neg (fun h => h10 (by
                    have : c.toNat = 10 := by omega
                    exact UInt8.toNat_inj.1 this))]
              by_cases h10 : c = 10
              · rw [if_pos h10] at e2
                rw [iter_done e2, h10]; simp [orL]
              · rw [if_neg h10] at e2
                rw [iter_next e2]
                have hcn : (c :: tl).contains 10 = tl.contains 10 := by
                  simp
                  exact fun h => absurd h.symm h10
                rw [hcn]
                exact ih2 (j + 1) htl
          have e0 := inner s.data.toList 0 rfl
          have e1 : changeforgeref1_LinesFault.l1 l (k : Int) = if hasNL s then some (Step.done (.inl ⟨5, (k : Int)⟩)) else some (Step.next ((k : Int) + 1)) := by
            unfold changeforgeref1_LinesFault.l1 changeforgeref1_LinesFault.j3 changeforgeref1_LinesFault.j2
            rw [show (0 : Int) = ((0 : Nat) : Int) from rfl, e0]
            simp (disch := omega) only [ite_dec, at_nat hlt, hs, Option.bind_some, if_pos, if_neg, ck_eq]
            unfold hasNL
            cases s.data.toList.contains 10 <;> rfl
          cases hn : hasNL s with
          | true => rw [hn, if_pos rfl] at e1; exact iter_done e1
          | false =>
            rw [hn, if_neg (by decide)] at e1
            rw [iter_next e1]
            exact ih (k + 1) hr
    rw [show (0 : Int) = ((0 : Nat) : Int) from rfl, key l 0 rfl, Option.bind_some]
    cases tscan ((0 : Nat) : Int) l <;> rfl

theorem linesCode_f (l : List ByteArray) : changeforgeref1_LinesCode l = some (textFault l).Code := by
  unfold changeforgeref1_LinesCode
  rw [linesFault_f]; rfl

theorem tscan_code : ∀ (l : List ByteArray) (i : Int) (f : Fault), tscan i l = some f → f.Code ≠ 0
  | [], _, _, h => by cases h
  | s :: r, i, f, h => by
    rw [tscan] at h
    split at h
    · cases h; show (2 : Int) ≠ 0; decide
    · split at h
      · cases h; show (5 : Int) ≠ 0; decide
      · exact tscan_code r _ f h

theorem textFault_ok (l : List ByteArray) : textFault l = ⟨0, 0⟩ ∨ (textFault l).Code ≠ 0 := by
  unfold textFault
  split
  · right; decide
  · cases h : tscan 0 l with
    | none => left; rfl
    | some f => right; exact tscan_code l 0 f h

theorem textFault_zero (l : List ByteArray) : textFault l = ⟨0, 0⟩ ↔ (textFault l).Code = 0 := by
  rcases textFault_ok l with h | h
  · rw [h]; exact ⟨fun _ => rfl, fun _ => rfl⟩
  · constructor
    · intro h2; rw [h2]
    · intro h2; exact absurd h2 h

theorem okText_iff (l : List ByteArray) : OkText l ↔ textFault l = ⟨0, 0⟩ := by
  obtain ⟨f, h1, h2⟩ := validate_eq l
  rw [validate_f] at h1
  cases h1
  rcases h2 with ⟨h3, h4⟩ | ⟨h3, h4⟩
  · exact ⟨fun _ => h3, fun _ => h4⟩
  · exact ⟨fun h => absurd h h4, fun h => absurd (by rw [h]) h3⟩
end Go.Dc
