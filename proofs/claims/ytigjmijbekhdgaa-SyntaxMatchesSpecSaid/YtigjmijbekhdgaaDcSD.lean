/- The reader of syntax trees, as a function of the bytes that are left. -/
import Derived.Test.YtigjmijbekhdgaaDcSA
import Derived.Lib.IndexAny
set_option linter.unusedSimpArgs false
namespace Go.Dc
open Go

def blk (c : UInt8) : Bool := [32, 9, 10].contains c
def skp (s : List UInt8) : List UInt8 := s.dropWhile blk
def okA (a : List UInt8) : Bool := !a.isEmpty && decide (a.length ≤ 20)
def lbl (a : List UInt8) : ByteArray := ⟨a.toArray⟩
abbrev PS := Int × List UInt8 × List Node

def leafS (s : List UInt8) (ns : List Node) : PS :=
  if okA (s.takeWhile okB) then (0, s.dropWhile okB, ns ++ [⟨lbl (s.takeWhile okB), []⟩]) else (1, s, ns)

def loopS (rec : List UInt8 → List Node → PS) : Nat → List Int → List UInt8 → List Node → PS ⊕ (List Int × List UInt8 × List Node)
  | 0, _, s, ns => .inl (0, s, ns)
  | m + 1, cs, s, ns => if (skp s).head? == some 41 then .inr (cs, skp s, ns) else
    if (rec (skp s) ns).1 = 0 then loopS rec m (cs ++ [((rec (skp s) ns).2.2.length : Int) - 1]) (rec (skp s) ns).2.1 (rec (skp s) ns).2.2 else .inl (rec (skp s) ns)

def isStart : List UInt8 → Bool | [] => false | c :: _ => c == 40 || okB c

def closeS (a : List UInt8) : PS ⊕ (List Int × List UInt8 × List Node) → PS
  | .inl p => p
  | .inr p => (0, p.2.1.drop 1, p.2.2 ++ [⟨lbl a, p.1⟩])

def openS (rec : List UInt8 → List Node → PS) (s : List UInt8) (ns : List Node) : PS :=
  if okA (s.takeWhile okB) then closeS (s.takeWhile okB) (loopS rec (s.length + 1) [] (s.dropWhile okB) ns) else (1, s, ns)

def nodeS : Nat → List UInt8 → List Node → PS
  | 0, s, ns => if isStart (skp s) then (10, skp s, ns) else leafS (skp s) ns
  | d + 1, s, ns => if (skp s).head? == some 40 then openS (nodeS d) (skp ((skp s).drop 1)) ns else leafS (skp s) ns

/-! ## what is left gets less -/
def Les (rec : List UInt8 → List Node → PS) : Prop := ∀ s ns, (rec s ns).2.1 <:+ s ∧ ((rec s ns).1 = 0 → (rec s ns).2.1.length < s.length ∧ ns.length < (rec s ns).2.2.length) ∧ (rec s ns).2.2.length + (rec s ns).2.1.length ≤ ns.length + s.length ∧ ns.length ≤ (rec s ns).2.2.length

theorem skp_suf (s : List UInt8) : skp s <:+ s := List.dropWhile_suffix _
theorem skp_le (s : List UInt8) : (skp s).length ≤ s.length := (skp_suf s).length_le
theorem tk_dr (s : List UInt8) : (s.takeWhile okB).length + (s.dropWhile okB).length = s.length := by
  rw [← List.length_append, List.takeWhile_append_dropWhile]
theorem okA_pos {a : List UInt8} (h : okA a = true) : 1 ≤ a.length ∧ a.length ≤ 20 := by
  unfold okA at h
  cases a with
  | nil => simp at h
  | cons c r => simp at h ⊢; omega

theorem leaf_les (s : List UInt8) (ns : List Node) : (leafS s ns).2.1 <:+ s ∧ ((leafS s ns).1 = 0 → (leafS s ns).2.1.length < s.length ∧ ns.length < (leafS s ns).2.2.length) ∧ (leafS s ns).2.2.length + (leafS s ns).2.1.length ≤ ns.length + s.length ∧ ns.length ≤ (leafS s ns).2.2.length := by
  unfold leafS
  split
  · rename_i h
    have := okA_pos h
    have := tk_dr s
    refine ⟨List.dropWhile_suffix _, fun _ => ⟨?_, ?_⟩, ?_, ?_⟩ <;> simp <;> omega
  · exact ⟨List.suffix_refl _, fun h => by simp at h, Nat.le_refl _, Nat.le_refl _⟩

theorem loop_les {rec : List UInt8 → List Node → PS} (hr : Les rec) : ∀ (m : Nat) (cs : List Int) (s : List UInt8) (ns : List Node), s.length < m →
    match loopS rec m cs s ns with
    | .inl p => p.1 ≠ 0 ∧ p.2.1 <:+ s ∧ p.2.2.length + p.2.1.length ≤ ns.length + s.length ∧ ns.length ≤ p.2.2.length
    | .inr p => p.2.1 <:+ s ∧ p.2.2.length + p.2.1.length ≤ ns.length + s.length ∧ ns.length ≤ p.2.2.length ∧ p.2.1.head? = some 41 ∧ p.1.length + p.2.1.length ≤ cs.length + s.length
  | 0, cs, s, ns, h => absurd h (by omega)
  | m + 1, cs, s, ns, h => by
    have h1 := skp_suf s
    have h1' := skp_le s
    have h2 := hr (skp s) ns
    rw [loopS]
    by_cases c : ((skp s).head? == some 41) = true
    · rw [if_pos c]
      exact ⟨h1, by simp only []; omega, Nat.le_refl _, by simpa using c, by simp only []; omega⟩
    · rw [if_neg c]
      by_cases c2 : (rec (skp s) ns).1 = 0
      · rw [if_pos c2]
        have h3 := h2.2.1 c2
        have ih := loop_les hr m (cs ++ [((rec (skp s) ns).2.2.length : Int) - 1]) (rec (skp s) ns).2.1 (rec (skp s) ns).2.2 (by omega)
        split at ih
        · rename_i p hp
          exact ⟨ih.1, ih.2.1.trans (h2.1.trans h1), by omega, by omega⟩
        · rename_i p hp
          have := ih.2.2.2.2
          rw [List.length_append] at this
          simp only [List.length_singleton] at this
          exact ⟨ih.1.trans (h2.1.trans h1), by omega, by omega, ih.2.2.2.1, by omega⟩
      · rw [if_neg c2]
        exact ⟨c2, h2.1.trans h1, by omega, by omega⟩

theorem open_les {rec : List UInt8 → List Node → PS} (hr : Les rec) (s : List UInt8) (ns : List Node) :
    (openS rec s ns).2.1 <:+ s ∧ ((openS rec s ns).1 = 0 → (openS rec s ns).2.1.length < s.length ∧ ns.length < (openS rec s ns).2.2.length) ∧ (openS rec s ns).2.2.length + (openS rec s ns).2.1.length ≤ ns.length + s.length ∧ ns.length ≤ (openS rec s ns).2.2.length := by
  unfold openS
  split
  · rename_i h
    have h1 := okA_pos h
    have h2 := tk_dr s
    have h3 : s.dropWhile okB <:+ s := List.dropWhile_suffix _
    have := loop_les hr (s.length + 1) [] (s.dropWhile okB) ns (by omega)
    split at this
    · rename_i p hp
      rw [hp]
      simp only [closeS]
      exact ⟨this.2.1.trans h3, fun h => absurd h this.1, by omega, this.2.2.2⟩
    · rename_i p hp
      rw [hp]
      simp only [closeS]
      have h4 : p.2.1.length ≥ 1 := by
        have := this.2.2.2.1
        cases hq : p.2.1 with
        | nil => rw [hq] at this; cases this
        | cons a b => simp
      refine ⟨(List.drop_suffix _ _).trans (this.1.trans h3), fun _ => ⟨?_, ?_⟩, ?_, ?_⟩ <;> simp only [List.length_drop, List.length_append, List.length_singleton] <;> omega
  · exact ⟨List.suffix_refl _, fun h => by simp at h, Nat.le_refl _, Nat.le_refl _⟩

theorem node_les : ∀ d, Les (nodeS d)
  | 0, s, ns => by
    have h1 := skp_suf s
    have h1' := skp_le s
    rw [nodeS]
    split
    · exact ⟨h1, fun h => by simp at h, by simp only []; omega, Nat.le_refl _⟩
    · have := leaf_les (skp s) ns
      exact ⟨this.1.trans h1, fun h => by have := this.2.1 h; omega, by omega, this.2.2.2⟩
  | d + 1, s, ns => by
    have h1 := skp_suf s
    have h1' := skp_le s
    rw [nodeS]
    split
    · have h2 : skp ((skp s).drop 1) <:+ s := (skp_suf _).trans ((List.drop_suffix _ _).trans h1)
      have h2' := h2.length_le
      have := open_les (node_les d) (skp ((skp s).drop 1)) ns
      exact ⟨this.1.trans h2, fun h => by have := this.2.1 h; omega, by omega, this.2.2.2⟩
    · have := leaf_les (skp s) ns
      exact ⟨this.1.trans h1, fun h => by have := this.2.1 h; omega, by omega, this.2.2.2⟩

theorem skp_skp (s : List UInt8) : skp (skp s) = skp s := by
  unfold skp
  cases h : s.dropWhile blk with
  | nil => rfl
  | cons c r =>
    have : ¬ blk c = true := by
      have := List.head?_dropWhile_not blk s
      rw [h] at this
      simpa using this
    rw [List.dropWhile_cons, if_neg this]

/-! ## the program's reader -/
def Suf (t : ByteArray) (s : List UInt8) : Prop := s <:+ bts t
def ps (t : ByteArray) (s : List UInt8) : Int := (t.size : Int) - s.length
abbrev rd (t : ByteArray) (s : List UInt8) (ns : List Node) : Reader_syntax := ⟨t, ps t s, ns⟩

theorem Suf.le {t : ByteArray} {s : List UInt8} (h : Suf t s) : s.length ≤ t.size := h.length_le
theorem Suf.trans {t : ByteArray} {s s' : List UInt8} (h : Suf t s) (h' : s' <:+ s) : Suf t s' := h'.trans h
theorem Suf.tail {t : ByteArray} {c : UInt8} {r : List UInt8} (h : Suf t (c :: r)) : Suf t r := h.trans (List.suffix_cons c r)
theorem Suf.drop {t : ByteArray} {s : List UInt8} (h : Suf t s) : (bts t).drop (t.size - s.length) = s := by
  obtain ⟨p, hp⟩ := h
  have : t.size = p.length + s.length := by rw [← bts_len, ← hp]; simp
  rw [← hp, this, Nat.add_sub_cancel]; simp
theorem Suf.at {t : ByteArray} {c : UInt8} {r : List UInt8} (h : Suf t (c :: r)) : sAt? t (ps t (c :: r)) = some ((c.toNat : Nat) : Int) ∧ ps t (c :: r) < t.size ∧ ps t (c :: r) + 1 = ps t r ∧ 0 ≤ ps t (c :: r) := by
  have hl := h.le
  obtain ⟨h1, h2, _⟩ := sAt_bts h.drop
  simp only [List.length_cons] at hl h2 ⊢
  have e : ps t (c :: r) = ((t.size - (r.length + 1) : Nat) : Int) := by unfold ps; simp only [List.length_cons]; omega
  rw [e]
  exact ⟨h2, by omega, by unfold ps; omega, by omega⟩
theorem ps_nil (t : ByteArray) : ps t [] = t.size := by unfold ps; simp

theorem blk_f (c : UInt8) : strings_IndexByte (⟨#[32, 9, 10]⟩ : ByteArray) ((c.toNat : Nat) : Int) = some (idxB (⟨#[32, 9, 10]⟩ : ByteArray) ((c.toNat : Nat) : Int)) ∧ decide (idxB (⟨#[32, 9, 10]⟩ : ByteArray) ((c.toNat : Nat) : Int) ≥ 0) = blk c := by
  refine ⟨rfl, ?_⟩
  unfold idxB blk
  rw [show ((((c.toNat : Nat) : Int)).toNat).toUInt8 = c from by simp]
  rw [Lib.contains_iff_indexByte]

theorem blanks_f {t : ByteArray} (ht : t.size ≤ 4096) (ns : List Node) : ∀ (s : List UInt8), Suf t s → syntax_reader__blanks (rd t s ns) = some (rd t (skp s) ns) := by
  intro s hs
  have key : ∀ s, Suf t s → iter (fun x => syntax_reader__blanks.l1 ⟨t, ps t s, ns⟩ x) (ps t s) = some (ps t (skp s)) := by
    intro s0 hs0
    have k2 : ∀ s, Suf t s → iter (fun x => syntax_reader__blanks.l1 ⟨t, ps t s0, ns⟩ x) (ps t s) = some (ps t (skp s)) := by
      intro s
      induction s with
      | nil =>
        intro _
        refine iter_done ?_
        simp only [syntax_reader__blanks.l1]
        rw [ite_dec, if_neg (by rw [ps_nil]; omega)]; rfl
      | cons c r ih =>
        intro h
        obtain ⟨h1, h2, h3, h4⟩ := h.at
        obtain ⟨h5, h6⟩ := blk_f c
        have e : syntax_reader__blanks.l1 ⟨t, ps t s0, ns⟩ (ps t (c :: r)) = if blk c = true then some (Step.next (ps t r)) else some (Step.done (ps t (c :: r))) := by
          simp only [syntax_reader__blanks.l1]
          rw [ite_dec, if_pos h2, h1, Option.bind_some, h5, Option.bind_some, h6, Option.bind_some]
          cases blk c
          · rfl
          · rw [if_pos rfl, if_pos rfl, ck_eq (by omega) (by omega), Option.bind_some, h3]
        unfold skp
        rw [List.dropWhile_cons]
        cases hb : blk c with
        | false => rw [hb, if_neg (by decide)] at e; rw [if_neg (by decide)]; exact iter_done e
        | true => rw [hb, if_pos rfl] at e; rw [if_pos rfl, iter_next e]; exact ih h.tail
    exact k2 s0 hs0
  unfold syntax_reader__blanks rd
  simp only
  rw [key s hs]; rfl

theorem is_f {t : ByteArray} (ht : t.size ≤ 4096) (ns : List Node) {s : List UInt8} (hs : Suf t s) (c : UInt8) : syntax_reader__is (rd t s ns) ((c.toNat : Nat) : Int) = some ((skp s).head? == some c, rd t (skp s) ns) := by
  unfold syntax_reader__is
  rw [blanks_f ht ns s hs, Option.bind_some]
  have h2 : Suf t (skp s) := hs.trans (skp_suf s)
  cases h : skp s with
  | nil =>
    unfold rd; simp only []
    rw [ite_dec, if_neg (by rw [ps_nil]; omega)]; rfl
  | cons a r =>
    rw [h] at h2
    obtain ⟨h3, h4, _, _⟩ := h2.at
    unfold rd; simp only []
    rw [ite_dec, if_pos h4, h3, Option.bind_some, Option.bind_some]
    congr 2
    rw [List.head?_cons]
    have : (some a == some c) = decide (a = c) := by rw [Option.some_beq_some]; rfl
    rw [this]
    refine decide_eq_decide.2 ⟨fun h => ?_, fun h => by rw [h]⟩
    exact UInt8.toNat_inj.1 (by omega)
end Go.Dc
