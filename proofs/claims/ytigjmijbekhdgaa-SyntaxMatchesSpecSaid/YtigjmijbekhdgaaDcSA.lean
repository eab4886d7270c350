/- Syntax trees: labels, and the check as a scan. -/
import Derived.Test.YtigjmijbekhdgaaDcP
import Derived.Test.YtigjmijbekhdgaaDcM
set_option linter.unusedSimpArgs false
namespace Go.Dc
open Go

theorem s_drop_at {α : Type} {l r : List α} {x : α} {k : Nat} (h : l.drop k = x :: r) : ∃ hk : k < l.length, l[k] = x ∧ l.drop (k + 1) = r := by
  have hk : k < l.length := by
    rcases Nat.lt_or_ge k l.length with h' | h'
    · exact h'
    · rw [List.drop_of_length_le h'] at h; cases h
  rw [List.drop_eq_getElem_cons hk] at h
  injection h with h1 h2
  exact ⟨hk, h1, h2⟩

theorem s_drop_end {α : Type} {l : List α} {k : Nat} (h : l.drop k = []) : l.length ≤ k := by simpa using h

/-- the bytes of a string -/
def bts (s : ByteArray) : List UInt8 := s.data.toList

theorem bts_len (s : ByteArray) : (bts s).length = s.size := rfl

theorem sAt_bts {s : ByteArray} {k : Nat} {c : UInt8} {r : List UInt8} (h : (bts s).drop k = c :: r) : k < s.size ∧ sAt? s (k : Int) = some ((c.toNat : Nat) : Int) ∧ (bts s).drop (k + 1) = r := by
  obtain ⟨hk, h1, h2⟩ := s_drop_at h
  have hk' : k < s.size := hk
  refine ⟨hk', ?_, h2⟩
  unfold sAt?
  rw [if_pos (by omega)]
  have : s[k] = c := by rw [← h1]; rfl
  simp [hk', this]

/-! ## labels -/
def okB (c : UInt8) : Bool := decide (33 ≤ c.toNat) && decide (c.toNat ≤ 126) && !decide (c.toNat = 40) && !decide (c.toNat = 41)
def labB (s : ByteArray) : Bool := (bts s).all okB && decide (1 ≤ s.size) && decide (s.size ≤ 20)

theorem labelByte_f (c : UInt8) : syntax_labelByte (c.toNat : Int) = some (okB c) := by
  unfold syntax_labelByte okB
  generalize c.toNat = n
  rw [show decide ((n : Int) ≥ 33) = decide (33 ≤ n) from decide_eq_decide.2 (by omega), show decide ((n : Int) ≤ 126) = decide (n ≤ 126) from decide_eq_decide.2 (by omega),
    show decide ((n : Int) = 40) = decide (n = 40) from decide_eq_decide.2 (by omega), show decide ((n : Int) = 41) = decide (n = 41) from decide_eq_decide.2 (by omega)]
  cases decide (33 ≤ n) <;> cases decide (n ≤ 126) <;> cases decide (n = 40) <;> cases decide (n = 41) <;> rfl

theorem isLabel_f (s : ByteArray) (hs : s.size ≤ 9223372036854775807) : syntax_isLabel s = some (labB s) := by
  have key : ∀ (rest : List UInt8) (k : Nat), (bts s).drop k = rest → iter (fun x => syntax_isLabel.l1 s x) (k : Int) = some (if rest.all okB = true then .inr () else .inl false) := by
    intro rest
    induction rest with
    | nil =>
      intro k hk
      have := s_drop_end hk
      rw [bts_len] at this
      refine iter_done ?_
      unfold syntax_isLabel.l1
      rw [ite_dec, if_neg (by omega)]; rfl
    | cons c r ih =>
      intro k hk
      obtain ⟨hlt, hc, hr⟩ := sAt_bts hk
      have e1 : syntax_isLabel.l1 s (k : Int) = if okB c = true then some (Step.next ((k : Int) + 1)) else some (Step.done (.inl false)) := by
        unfold syntax_isLabel.l1
        rw [ite_dec, if_pos (by omega), hc, Option.bind_some, labelByte_f, Option.bind_some]
        cases okB c
        · rfl
        · rw [ck_eq (by omega) (by omega)]; rfl
      cases ho : okB c with
      | false =>
        rw [ho, if_neg (by decide)] at e1
        rw [iter_done e1]
        simp [ho]
      | true =>
        rw [ho, if_pos rfl] at e1
        have e2 := ih (k + 1) hr
        rw [iter_next e1]
        rw [show ((k : Int) + 1) = ((k + 1 : Nat) : Int) from rfl, e2]
        simp [ho]
  unfold syntax_isLabel
  rw [show (0 : Int) = ((0 : Nat) : Int) from rfl, key (bts s) 0 rfl, Option.bind_some]
  unfold labB
  cases h : (bts s).all okB with
  | false => rfl
  | true =>
    simp only [if_true]
    unfold syntax_isLabel.j1
    rw [show decide ((s.size : Int) ≥ 1) = decide (1 ≤ s.size) from decide_eq_decide.2 (by omega), show decide ((s.size : Int) ≤ 20) = decide (s.size ≤ 20) from decide_eq_decide.2 (by omega)]
    cases decide (1 ≤ s.size) <;> rfl

theorem labelValid_f (s : ByteArray) (hs : s.size ≤ 9223372036854775807) : changeforgeref2_LabelValid s = some (labB s) := by
  have key : ∀ (rest : List UInt8) (k : Nat), (bts s).drop k = rest → iter (fun x => changeforgeref2_LabelValid.l1 s x) (k : Int) = some (if rest.all okB = true then .inr () else .inl false) := by
    intro rest
    induction rest with
    | nil =>
      intro k hk
      have := s_drop_end hk
      rw [bts_len] at this
      refine iter_done ?_
      unfold changeforgeref2_LabelValid.l1
      rw [ite_dec, if_neg (by omega)]; rfl
    | cons c r ih =>
      intro k hk
      obtain ⟨hlt, hc, hr⟩ := sAt_bts hk
      have e1 : changeforgeref2_LabelValid.l1 s (k : Int) = if okB c = true then some (Step.next ((k : Int) + 1)) else some (Step.done (.inl false)) := by
        unfold changeforgeref2_LabelValid.l1 okB
        rw [ite_dec, if_pos (by omega), hc, Option.bind_some, ck_eq (by omega) (by omega)]
        simp only [hc, Option.bind_some]
        generalize c.toNat = n
        rw [show decide ((n : Int) < 33) = !decide (33 ≤ n) from by rw [← decide_not]; exact decide_eq_decide.2 (by omega), show decide ((n : Int) > 126) = !decide (n ≤ 126) from by rw [← decide_not]; exact decide_eq_decide.2 (by omega),
          show decide ((n : Int) = 40) = decide (n = 40) from decide_eq_decide.2 (by omega), show decide ((n : Int) = 41) = decide (n = 41) from decide_eq_decide.2 (by omega)]
        cases decide (33 ≤ n) <;> cases decide (n ≤ 126) <;> cases decide (n = 40) <;> cases decide (n = 41) <;> rfl
      cases ho : okB c with
      | false =>
        rw [ho, if_neg (by decide)] at e1
        rw [iter_done e1]
        simp [ho]
      | true =>
        rw [ho, if_pos rfl] at e1
        have e2 := ih (k + 1) hr
        rw [iter_next e1]
        rw [show ((k : Int) + 1) = ((k + 1 : Nat) : Int) from rfl, e2]
        simp [ho]
  unfold changeforgeref2_LabelValid
  rw [show (0 : Int) = ((0 : Nat) : Int) from rfl, key (bts s) 0 rfl, Option.bind_some]
  unfold labB
  cases h : (bts s).all okB with
  | false => rfl
  | true =>
    simp only [if_true]
    unfold changeforgeref2_LabelValid.j1
    have e : (!decide (s = (⟨#[]⟩ : ByteArray))) = decide (1 ≤ s.size) := by
      rw [← decide_not]
      refine decide_eq_decide.2 ⟨fun h => ?_, fun h e => by subst e; simp [ByteArray.size] at h⟩
      rcases Nat.lt_or_ge 0 s.size with h1 | h1
      · exact h1
      · exact absurd (ByteArray.ext (Array.eq_empty_of_size_eq_zero (show s.data.size = 0 from Nat.le_zero.1 h1))) h
    rw [e, show decide ((s.size : Int) ≤ 20) = decide (s.size ≤ 20) from decide_eq_decide.2 (by omega)]
    cases decide (1 ≤ s.size) <;> rfl

/-! ## a node behind others -/
/-- children, the last first: where the node's subtree begins, and its depth -/
def wc (st dp : List Int) : List Int → Int → Int → Option (Int × Int)
  | [], s, d => some (s, d)
  | c :: r, s, d => if c = s - 1 ∧ 0 ≤ c then wc st dp r (st.getD c.toNat 0) (max d (dp.getD c.toNat 0 + 1)) else Option.none

/-- what is known of the nodes so far -/
structure GoodP (st dp : List Int) : Prop where
  len : dp.length = st.length
  small : st.length ≤ 80
  st : ∀ k, k < st.length → 0 ≤ st.getD k 0 ∧ st.getD k 0 ≤ k
  dp : ∀ k, k < dp.length → 1 ≤ dp.getD k 0 ∧ dp.getD k 0 ≤ 12

theorem at_getD {l : List Int} {c : Int} (h0 : 0 ≤ c) (h : c < l.length) : at? l c = some (l.getD c.toNat 0) := by
  rw [at_int h0 (by omega)]
  simp [List.getD_eq_getElem?_getD, show c.toNat < l.length by omega]

theorem wc_range {st dp : List Int} (hg : GoodP st dp) : ∀ (cs : List Int) (s d s' d' : Int), 0 ≤ s → s ≤ st.length → 1 ≤ d → d ≤ 13 → wc st dp cs s d = some (s', d') → 0 ≤ s' ∧ s' ≤ s ∧ 1 ≤ d' ∧ d' ≤ 13
  | [], s, d, s', d', h0, h1, h2, h3, h => by
    simp only [wc, Option.some.injEq, Prod.mk.injEq] at h
    omega
  | c :: r, s, d, s', d', h0, h1, h2, h3, h => by
    simp only [wc] at h
    split at h
    · rename_i hc
      have hk : c.toNat < st.length := by omega
      have e1 := hg.st c.toNat hk
      have e2 := hg.dp c.toNat (by rw [hg.len]; exact hk)
      have := wc_range hg r _ _ s' d' e1.1 (by omega) (by omega) (by omega) h
      omega
    · cases h

theorem add_f {st dp : List Int} (hg : GoodP st dp) (hs : st.length < 80) (n : Node) (hn : n.Children.length ≤ 9223372036854775807) :
    syntax_shape__add ⟨st, dp⟩ n = some (match wc st dp n.Children.reverse st.length 1 with | Option.none => (false, ⟨st, dp⟩) | some (s, d) => (true, ⟨st ++ [s], dp ++ [d]⟩)) := by
  have key : ∀ (m : Nat), m ≤ n.Children.length → ∀ (s d : Int), 0 ≤ s → s ≤ st.length → 1 ≤ d → d ≤ 13 →
      iter (fun x => syntax_shape__add.l1 ⟨st, dp⟩ n x.1 x.2.1 x.2.2) ((m : Int) - 1, d, s) = some (match wc st dp (n.Children.take m).reverse s d with | Option.none => .inl (false, ⟨st, dp⟩) | some (s', d') => .inr (d', s')) := by
    intro m
    induction m with
    | zero =>
      intro _ s d _ _ _ _
      refine iter_done ?_
      simp only [syntax_shape__add.l1]
      rw [ite_dec, if_neg (by omega)]; rfl
    | succ m ih =>
      intro hm s d h0 h1 h2 h3
      have hlt : m < n.Children.length := by omega
      rw [List.take_add_one, show n.Children[m]? = some n.Children[m] from List.getElem?_eq_getElem hlt, Option.toList_some, List.reverse_append, List.reverse_singleton, List.singleton_append, wc]
      have e1 : syntax_shape__add.l1 ⟨st, dp⟩ n (((m + 1 : Nat) : Int) - 1) d s = if n.Children[m] = s - 1 ∧ 0 ≤ n.Children[m] then some (Step.next ((m : Int) - 1, max d (dp.getD n.Children[m].toNat 0 + 1), st.getD n.Children[m].toNat 0)) else some (Step.done (.inl (false, ⟨st, dp⟩))) := by
        unfold syntax_shape__add.l1
        rw [show (((m + 1 : Nat) : Int) - 1) = (m : Int) by omega, ite_dec, if_pos (by omega), at_nat hlt, Option.bind_some, ck_eq (by omega) (by omega), Option.bind_some, ite_ndec]
        by_cases c1 : n.Children[m] = s - 1
        · rw [if_pos c1, Option.bind_some, ite_dec]
          by_cases c2 : 0 ≤ n.Children[m]
          · have hk : n.Children[m].toNat < st.length := by omega
            have e2 := hg.dp n.Children[m].toNat (by rw [hg.len]; exact hk)
            rw [if_neg (by omega), if_pos ⟨c1, c2⟩]
            dsimp only
            rw [at_getD c2 (by omega), Option.bind_some, at_getD c2 (by rw [hg.len]; omega), Option.bind_some, ck_eq (by omega) (by omega), Option.bind_some, ck_eq (by omega) (by omega)]
            rfl
          · rw [if_pos (by omega), if_neg (fun h => c2 h.2)]
        · rw [if_neg c1, Option.bind_some, if_pos rfl, if_neg (fun h => c1 h.1)]
      by_cases c : n.Children[m] = s - 1 ∧ 0 ≤ n.Children[m]
      · rw [if_pos c] at e1 ⊢
        have hk : n.Children[m].toNat < st.length := by omega
        have e2 := hg.dp n.Children[m].toNat (by rw [hg.len]; exact hk)
        have e3 := hg.st n.Children[m].toNat hk
        rw [iter_next e1]
        exact ih (by omega) _ _ e3.1 (by omega) (by omega) (by omega)
      · rw [if_neg c] at e1 ⊢
        exact iter_done e1
  unfold syntax_shape__add
  rw [ck_eq (by omega) (by omega), Option.bind_some]
  have := key n.Children.length (Nat.le_refl _) st.length 1 (by omega) (Int.le_refl _) (by omega) (by omega)
  rw [List.take_length] at this
  simp only at this ⊢
  rw [this, Option.bind_some]
  cases hw : wc st dp n.Children.reverse st.length 1 with
  | none => rfl
  | some p =>
    obtain ⟨s, d⟩ := p
    simp only
    unfold syntax_shape__add.j1 syntax_shape__add.j2
    simp only
    rw [app_eq (by simp; omega), Option.bind_some, app_eq (by have := hg.len; simp; omega)]
    rfl

/-! ## the check -/
def vscan : List Node → Int → List Int → List Int → Fault ⊕ (List Int × List Int)
  | [], _, st, dp => .inr (st, dp)
  | n :: r, i, st, dp => if labB n.Label = false then .inl ⟨12, i⟩ else match wc st dp n.Children.reverse st.length 1 with
    | Option.none => .inl ⟨5, i⟩
    | some (s, d) => if d > 12 then .inl ⟨10, i⟩ else vscan r (i + 1) (st ++ [s]) (dp ++ [d])

/-- the fault of a tree -/
def synF (t : SyntaxTree) : Fault :=
  if t.Nodes.length = 0 ∨ t.Nodes.length > 80 then ⟨2, -1⟩ else match vscan t.Nodes 0 [] [] with
    | .inl f => f
    | .inr (st, _) => if st.getD (t.Nodes.length - 1) 0 = 0 then ⟨0, 0⟩ else ⟨5, -1⟩

/-- what the reading of a tree gives -/
def OkN (l : List Node) : Prop := ∀ n ∈ l, n.Label.size ≤ 9223372036854775807 ∧ n.Children.length ≤ 9223372036854775807

theorem getD_snoc {l : List Int} {x : Int} {k : Nat} (h : k ≤ l.length) : (l ++ [x]).getD k 0 = if k = l.length then x else l.getD k 0 := by
  by_cases c : k = l.length
  · subst c; simp [List.getD_eq_getElem?_getD]
  · rw [if_neg c]
    simp [List.getD_eq_getElem?_getD, List.getElem?_append_left (show k < l.length by omega)]

theorem GoodP.snoc {st dp : List Int} (hg : GoodP st dp) (hs : st.length < 80) {s d : Int} (h0 : 0 ≤ s) (h1 : s ≤ st.length) (h2 : 1 ≤ d) (h3 : d ≤ 12) : GoodP (st ++ [s]) (dp ++ [d]) := by
  refine ⟨by simp [hg.len], by simp; omega, fun k hk => ?_, fun k hk => ?_⟩
  · simp at hk
    rw [getD_snoc (by omega)]
    split
    · omega
    · exact hg.st k (by omega)
  · simp at hk
    rw [getD_snoc (by omega)]
    split
    · omega
    · exact hg.dp k (by omega)

theorem vscan_good : ∀ (l : List Node) (i : Int) (st dp st' dp' : List Int), GoodP st dp → st.length + l.length ≤ 80 → vscan l i st dp = .inr (st', dp') → GoodP st' dp' ∧ st'.length = st.length + l.length
  | [], i, st, dp, st', dp', hg, _, h => by
    simp only [vscan, Sum.inr.injEq, Prod.mk.injEq] at h
    obtain ⟨rfl, rfl⟩ := h
    exact ⟨hg, rfl⟩
  | n :: r, i, st, dp, st', dp', hg, hl, h => by
    simp only [vscan] at h
    simp only [List.length_cons] at hl
    split at h
    · cases h
    · split at h
      · cases h
      · rename_i s d hw
        split at h
        · cases h
        · have hr := wc_range hg _ _ _ _ _ (by omega) (Int.le_refl _) (by omega) (by omega) hw
          have := vscan_good r (i + 1) _ _ st' dp' (hg.snoc (by omega) hr.1 hr.2.1 hr.2.2.1 (by omega)) (by simp; omega) h
          refine ⟨this.1, ?_⟩
          rw [this.2]; simp; omega

theorem good_nil : GoodP [] [] := ⟨rfl, by simp, fun k hk => by simp at hk, fun k hk => by simp at hk⟩

theorem Validate_f (t : SyntaxTree) (hb : OkN t.Nodes) : syntax_Validate t = some (synF t) := by
  unfold syntax_Validate synF
  by_cases h0 : t.Nodes.length = 0 ∨ t.Nodes.length > 80
  · rw [if_pos h0]
    rcases h0 with h | h
    · rw [ite_dec, if_pos (by omega)]; rfl
    · rw [ite_dec, if_neg (by omega), show decide ((t.Nodes.length : Int) > 80) = true from decide_eq_true (by omega)]; rfl
  · rw [if_neg h0, ite_dec, if_neg (by omega), show decide ((t.Nodes.length : Int) > 80) = false from decide_eq_false (by omega), Option.bind_some, if_neg (by decide)]
    have key : ∀ (rest : List Node) (k : Nat) (st dp : List Int), t.Nodes.drop k = rest → GoodP st dp → st.length = k →
        iter (fun s => syntax_Validate.l1 t s.1 s.2.1 s.2.2) ((k : Int), st, dp) = some (vscan rest (k : Int) st dp) := by
      intro rest
      induction rest with
      | nil =>
        intro k st dp hk _ _
        have := s_drop_end hk
        refine iter_done ?_
        simp only [syntax_Validate.l1]
        rw [ite_dec, if_neg (by omega)]; rfl
      | cons n r ih =>
        intro k st dp hk hg hlen
        obtain ⟨hlt, hn, hr⟩ := s_drop_at hk
        have hbn := hb n (by rw [← hn]; exact List.getElem_mem hlt)
        rw [vscan]
        have e1 : syntax_Validate.l1 t (k : Int) st dp = if labB n.Label = false then some (Step.done (.inl ⟨12, (k : Int)⟩)) else match wc st dp n.Children.reverse st.length 1 with
            | Option.none => some (Step.done (.inl ⟨5, (k : Int)⟩))
            | some (s, d) => if d > 12 then some (Step.done (.inl ⟨10, (k : Int)⟩)) else some (Step.next (((k + 1 : Nat) : Int), st ++ [s], dp ++ [d])) := by
          unfold syntax_Validate.l1
          rw [ite_dec, if_pos (by omega), at_nat hlt, Option.bind_some, hn, isLabel_f _ hbn.1, Option.bind_some]
          cases labB n.Label with
          | false => rfl
          | true =>
            rw [if_neg (by decide), if_neg (by decide), add_f hg (by omega) n hbn.2, Option.bind_some]
            cases hw : wc st dp n.Children.reverse st.length 1 with
            | none => rfl
            | some p =>
              obtain ⟨s, d⟩ := p
              simp only [Bool.not_true, Bool.false_eq_true, if_false]
              rw [at_getD (by omega) (by have := hg.len; simp; omega), Option.bind_some, show (dp ++ [d]).getD ((k : Int)).toNat 0 = d from by rw [getD_snoc (by have := hg.len; omega), if_pos (by have := hg.len; omega)], ite_dec]
              by_cases c : d > 12
              · rw [if_pos c, if_pos c]
              · rw [if_neg c, if_neg c, ck_eq (by omega) (by omega)]; rfl
        cases hl : labB n.Label with
        | false => rw [hl, if_pos rfl] at e1; rw [if_pos rfl]; exact iter_done e1
        | true =>
          rw [hl, if_neg (by decide)] at e1
          rw [if_neg (by decide)]
          cases hw : wc st dp n.Children.reverse st.length 1 with
          | none => rw [hw] at e1; exact iter_done e1
          | some p =>
            obtain ⟨s, d⟩ := p
            rw [hw] at e1
            simp only at e1 ⊢
            have hrg := wc_range hg _ _ _ _ _ (by omega) (Int.le_refl _) (by omega) (by omega) hw
            by_cases c : d > 12
            · rw [if_pos c] at e1 ⊢; exact iter_done e1
            · rw [if_neg c] at e1 ⊢
              rw [iter_next e1]
              exact ih (k + 1) _ _ hr (hg.snoc (by omega) hrg.1 hrg.2.1 hrg.2.2.1 (by omega)) (by simp; omega)
    have := key t.Nodes 0 [] [] rfl good_nil rfl
    simp only [Int.natCast_zero] at this
    rw [show ((0 : Int), ([] : List Int), ([] : List Int)) = (((0 : Nat) : Int), [], []) from rfl, key t.Nodes 0 [] [] rfl good_nil rfl, Option.bind_some]
    rw [show ((0 : Nat) : Int) = (0 : Int) from rfl]
    cases hv : vscan t.Nodes 0 [] [] with
    | inl f => rfl
    | inr p =>
      obtain ⟨st, dp⟩ := p
      obtain ⟨hg, hlen⟩ := vscan_good _ _ _ _ _ _ good_nil (by simp; omega) hv
      simp only [List.length_nil, Nat.zero_add] at hlen
      simp only
      unfold syntax_Validate.j1
      rw [ck_eq (by omega) (by omega), Option.bind_some, at_getD (by omega) (by omega), Option.bind_some, ite_ndec, show (((t.Nodes.length : Int) - 1)).toNat = t.Nodes.length - 1 by omega]
      by_cases c : st.getD (t.Nodes.length - 1) 0 = 0
      · rw [if_pos c, if_pos c]
      · rw [if_neg c, if_neg c]
end Go.Dc
