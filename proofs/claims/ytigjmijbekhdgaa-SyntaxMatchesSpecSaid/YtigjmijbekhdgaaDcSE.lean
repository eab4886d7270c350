/- The program's reader is the function of the bytes that are left. -/
import Derived.Test.YtigjmijbekhdgaaDcSD
set_option linter.unusedSimpArgs false
namespace Go.Dc
open Go

theorem ext_f {t : ByteArray} {a r : List UInt8} (h : Suf t (a ++ r)) : scut? t (ps t (a ++ r)) (ps t r) = some (lbl a) := by
  have hl := h.le
  have hd := h.drop
  rw [List.length_append] at hl hd
  have e1 : ps t (a ++ r) = ((t.size - (a.length + r.length) : Nat) : Int) := by unfold ps; rw [List.length_append]; omega
  have e2 : ps t r = ((t.size - r.length : Nat) : Int) := by unfold ps; omega
  unfold scut?
  rw [e1, e2, if_pos (by omega)]
  congr 1
  refine ByteArray.ext ?_
  rw [ByteArray.data_extract]
  refine Array.toList_inj.1 ?_
  rw [Array.toList_extract]
  simp only [Int.toNat_natCast, List.extract_eq_take_drop, lbl]
  rw [show t.data.toList = bts t from rfl, hd, show t.size - r.length - (t.size - (a.length + r.length)) = a.length by omega]
  simp

theorem label_f {t : ByteArray} (ht : t.size ≤ 4096) (ns : List Node) {s : List UInt8} (hs : Suf t s) :
    syntax_reader__label (rd t s ns) = some (if okA ((skp s).takeWhile okB) then (lbl ((skp s).takeWhile okB), 0, rd t ((skp s).dropWhile okB) ns) else (⟨#[]⟩, 1, rd t (skp s) ns)) := by
  have key : ∀ (p0 : Int) (s : List UInt8), Suf t s → iter (fun x => syntax_reader__label.l1 ⟨t, p0, ns⟩ x) (ps t s) = some (ps t (s.dropWhile okB)) := by
    intro p0 s
    induction s with
    | nil =>
      intro _
      refine iter_done ?_
      simp only [syntax_reader__label.l1]
      rw [ite_dec, if_neg (by rw [ps_nil]; omega)]; rfl
    | cons c r ih =>
      intro h
      obtain ⟨h1, h2, h3, h4⟩ := h.at
      have e : syntax_reader__label.l1 ⟨t, p0, ns⟩ (ps t (c :: r)) = if okB c = true then some (Step.next (ps t r)) else some (Step.done (ps t (c :: r))) := by
        simp only [syntax_reader__label.l1]
        rw [ite_dec, if_pos h2, h1, Option.bind_some, labelByte_f, Option.bind_some, Option.bind_some]
        cases okB c
        · rfl
        · rw [if_pos rfl, if_pos rfl, ck_eq (by omega) (by omega), Option.bind_some, h3]
      rw [List.dropWhile_cons]
      cases hb : okB c with
      | false => rw [hb, if_neg (by decide)] at e; rw [if_neg (by decide)]; exact iter_done e
      | true => rw [hb, if_pos rfl] at e; rw [if_pos rfl, iter_next e]; exact ih h.tail
  have h2 : Suf t (skp s) := hs.trans (skp_suf s)
  unfold syntax_reader__label
  rw [blanks_f ht ns s hs, Option.bind_some]
  have k2 := key (ps t (skp s)) (skp s) h2
  show (iter (fun x => syntax_reader__label.l1 ⟨t, ps t (skp s), ns⟩ x) (ps t (skp s))).bind _ = _
  rw [k2, Option.bind_some]
  generalize hq : skp s = q at h2 ⊢
  have hl := tk_dr q
  have hle := h2.le
  have e3 : ps t (q.dropWhile okB) - ps t q = (q.takeWhile okB).length := by unfold ps; omega
  have hp : 0 ≤ ps t q ∧ ps t q ≤ 4096 := by unfold ps; omega
  have hc : scut? t (ps t q) (ps t (q.dropWhile okB)) = some (lbl (q.takeWhile okB)) := by
    have := ext_f (t := t) (a := q.takeWhile okB) (r := q.dropWhile okB) (by rw [List.takeWhile_append_dropWhile]; exact h2)
    rwa [List.takeWhile_append_dropWhile] at this
  unfold syntax_reader__label.j1 rd
  simp only
  rw [ite_dec]
  by_cases c0 : ps t (q.dropWhile okB) = ps t q
  · rw [if_pos c0, Option.bind_some, if_pos rfl]
    have : q.takeWhile okB = [] := List.eq_nil_of_length_eq_zero (by omega)
    rw [this]; rfl
  · rw [if_neg c0, ck_eq (by omega) (by omega), Option.bind_some, Option.bind_some, ite_dec]
    have hne : (q.takeWhile okB).isEmpty = false := by
      cases hh : q.takeWhile okB with
      | nil => rw [hh] at e3; simp at e3; omega
      | cons a b => rfl
    by_cases c1 : (q.takeWhile okB).length ≤ 20
    · rw [if_neg (by omega), hc, Option.bind_some]
      have : okA (q.takeWhile okB) = true := by unfold okA; rw [hne]; simpa using c1
      rw [if_pos this]
    · rw [if_pos (by omega)]
      have : ¬ okA (q.takeWhile okB) = true := by unfold okA; rw [hne]; simpa using c1
      rw [if_neg this]

def sumF (t : ByteArray) : PS ⊕ (List Int × List UInt8 × List Node) → (Int × Reader_syntax) ⊕ (List Int × ByteArray × Int × List Node)
  | .inl p => .inl (p.1, rd t p.2.1 p.2.2)
  | .inr p => .inr (p.1, t, ps t p.2.1, p.2.2)

theorem loop_f {t : ByteArray} (ht : t.size ≤ 4096) {above : Int} (ha : 0 ≤ above ∧ above ≤ 12) {rec_ : Reader_syntax → Int → Option (Int × Reader_syntax)} {R : List UInt8 → List Node → PS} (hL : Les R)
    (hR : ∀ s ns, Suf t s → ns.length + s.length ≤ 5000 → rec_ (rd t s ns) (above + 1) = some ((R s ns).1, rd t (R s ns).2.1 (R s ns).2.2)) :
    ∀ (m : Nat) (cs : List Int) (s : List UInt8) (ns : List Node), s.length < m → Suf t s → ns.length + s.length ≤ 5000 → cs.length + s.length ≤ 5000 →
    iter (fun x => syntax_reader__node.l1 above rec_ x.1 x.2.1 x.2.2.1 x.2.2.2) (cs, t, ps t s, ns) = some (sumF t (loopS R m cs s ns))
  | 0, cs, s, ns, h, _, _, _ => absurd h (by omega)
  | m + 1, cs, s, ns, h, hs, h1, h2 => by
    have hs2 : Suf t (skp s) := hs.trans (skp_suf s)
    have hle := skp_le s
    have hi := is_f ht ns hs 41
    rw [show (((41 : UInt8).toNat : Nat) : Int) = 41 from rfl] at hi
    rw [loopS]
    by_cases c : ((skp s).head? == some 41) = true
    · rw [if_pos c]
      refine iter_done ?_
      simp only [syntax_reader__node.l1]
      rw [show (⟨t, ps t s, ns⟩ : Reader_syntax) = rd t s ns from rfl, hi, Option.bind_some, c]
      rfl
    · rw [if_neg c]
      have hr := hR (skp s) ns hs2 (by omega)
      have hl := hL (skp s) ns
      have e1 : syntax_reader__node.l1 above rec_ cs t (ps t s) ns = if (R (skp s) ns).1 = 0 then some (Step.next (cs ++ [((R (skp s) ns).2.2.length : Int) - 1], t, ps t (R (skp s) ns).2.1, (R (skp s) ns).2.2)) else some (Step.done (.inl ((R (skp s) ns).1, rd t (R (skp s) ns).2.1 (R (skp s) ns).2.2))) := by
        simp only [syntax_reader__node.l1]
        rw [show (⟨t, ps t s, ns⟩ : Reader_syntax) = rd t s ns from rfl, hi, Option.bind_some]
        simp only []
        rw [Bool.eq_false_iff.2 c, if_pos (by decide), ck_eq (by omega) (by omega), Option.bind_some, hr, Option.bind_some]
        simp only [rd]
        rw [ite_ndec]
        by_cases c2 : (R (skp s) ns).1 = 0
        · rw [if_pos c2, if_pos c2, ck_eq (by omega) (by omega), Option.bind_some, app_eq (by simp; omega)]; rfl
        · rw [if_neg c2, if_neg c2]
      by_cases c2 : (R (skp s) ns).1 = 0
      · rw [if_pos c2] at e1 ⊢
        have h3 := hl.2.1 c2
        rw [iter_next e1]
        exact loop_f ht ha hL hR m _ _ _ (by omega) (hs2.trans hl.1) (by omega) (by rw [List.length_append]; simp only [List.length_singleton]; omega)
      · rw [if_neg c2] at e1 ⊢
        exact iter_done e1

theorem start_f {t : ByteArray} {s : List UInt8} (hs : Suf t s) (ns : List Node) :
    ((if decide ((rd t s ns).at_ < ((rd t s ns).text.size : Int)) then (sAt? (rd t s ns).text (rd t s ns).at_).bind fun y2 =>
      (if decide (y2 = 40) then some true else (sAt? (rd t s ns).text (rd t s ns).at_).bind fun y3 =>
      (syntax_labelByte y3).bind fun y4 =>
      some y4).bind fun x2 =>
      some x2 else some false) : Option Bool) = some (isStart s) := by
  unfold rd
  simp only []
  cases s with
  | nil => rw [ite_dec, if_neg (by rw [ps_nil]; omega)]; rfl
  | cons c r =>
    obtain ⟨h1, h2, _, _⟩ := hs.at
    rw [ite_dec, if_pos h2, h1, Option.bind_some, ite_dec, Option.bind_some, labelByte_f, Option.bind_some]
    unfold isStart
    by_cases c0 : c = 40
    · subst c0; rfl
    · have : ¬ ((c.toNat : Nat) : Int) = 40 := fun h => c0 (UInt8.toNat_inj.1 (by show c.toNat = 40; omega))
      rw [if_neg this, Option.bind_some]
      have : (c == 40) = false := by simpa using c0
      show some (okB c) = some ((c == 40) || okB c)
      rw [this]; rfl

theorem leaf_f {t : ByteArray} (ht : t.size ≤ 4096) {s : List UInt8} (hs : Suf t s) (hk : skp s = s) (ns : List Node) (hn : ns.length ≤ 5000) :
    ((syntax_reader__label (rd t s ns)).bind fun y6 =>
      if decide (y6.2.1 = 0) then
      (app? 40 y6.2.2.nodes ([({ Label := y6.1, Children := [] } : Node)] : List Node)).bind fun y7 =>
      syntax_reader__node.j1 y6 y7
      else
      syntax_reader__node.j1 y6 y6.2.2.nodes) = some ((leafS s ns).1, rd t (leafS s ns).2.1 (leafS s ns).2.2) := by
  rw [label_f ht ns hs, Option.bind_some, hk]
  unfold leafS
  by_cases c : okA (s.takeWhile okB) = true
  · rw [if_pos c, if_pos c]
    simp only [rd]
    rw [if_pos (by decide), app_eq (by simp; omega), Option.bind_some]; rfl
  · rw [if_neg c, if_neg c]
    rfl

theorem node_m_f {t : ByteArray} (ht : t.size ≤ 4096) : ∀ (d k : Nat) (s : List UInt8) (ns : List Node), d < k → d ≤ 12 → Suf t s → ns.length + s.length ≤ 5000 →
    syntax_reader__node.m k (rd t s ns) (12 - (d : Int)) = some ((nodeS d s ns).1, rd t (nodeS d s ns).2.1 (nodeS d s ns).2.2)
  | d, 0, s, ns, h, _, _, _ => absurd h (by omega)
  | d, k + 1, s, ns, h, hd, hs, hb => by
    have hs2 : Suf t (skp s) := hs.trans (skp_suf s)
    have hle := skp_le s
    have hi := is_f ht ns hs2 40
    rw [show (((40 : UInt8).toNat : Nat) : Int) = 40 from rfl, skp_skp] at hi
    have hlf := leaf_f ht hs2 (skp_skp s) ns (by omega)
    show syntax_reader__node.body (syntax_reader__node.m k) (rd t s ns) _ = _
    unfold syntax_reader__node.body
    rw [blanks_f ht ns s hs, Option.bind_some, start_f hs2 ns, Option.bind_some]
    cases d with
    | zero =>
      rw [nodeS]
      cases c : isStart (skp s) with
      | true => rw [if_pos rfl, if_pos rfl, Option.bind_some]; rfl
      | false =>
        rw [if_neg (by decide), if_neg (by decide), Option.bind_some, if_neg (by decide), hi, Option.bind_some]
        have : ((skp s).head? == some 40) = false := by
          cases hq : skp s with
          | nil => rfl
          | cons a b =>
            rw [hq] at c
            simp only [isStart, Bool.or_eq_false_iff] at c
            simpa using c.1
        simp only []
        rw [this, if_pos (by decide)]
        exact hlf
    | succ d =>
      rw [nodeS]
      have e0 : (if isStart (skp s) = true then some (decide ((12 - ((d + 1 : Nat) : Int)) > 11)) else some false) = some false := by
        split
        · congr 1; exact decide_eq_false (by omega)
        · rfl
      rw [e0, Option.bind_some, if_neg (by decide), hi, Option.bind_some]
      simp only []
      cases c : ((skp s).head? == some 40) with
      | false => rw [if_pos (by decide), if_neg (by decide)]; exact hlf
      | true =>
        rw [if_neg (by decide), if_pos rfl]
        cases hq : skp s with
        | nil => rw [hq] at c; cases c
        | cons a r =>
          rw [hq] at hs2 hle
          obtain ⟨_, _, h3, h4⟩ := hs2.at
          have hs3 := hs2.tail
          have hle3 := hs2.le
          simp only [List.length_cons] at hle hle3
          have hp : ps t (a :: r) ≤ 4096 := by unfold ps; simp only [List.length_cons]; omega
          have hs4 : Suf t (skp r) := hs3.trans (skp_suf r)
          have hle4 := skp_le r
          simp only [rd, List.drop_succ_cons, List.drop_zero]
          rw [ck_eq (by omega) (by omega), Option.bind_some, h3, show (⟨t, ps t r, ns⟩ : Reader_syntax) = rd t r ns from rfl, label_f ht ns hs3, Option.bind_some]
          unfold openS
          by_cases ca : okA ((skp r).takeWhile okB) = true
          · rw [if_pos ca, if_pos ca]
            simp only [rd]
            rw [if_neg (by decide)]
            have hs5 : Suf t ((skp r).dropWhile okB) := hs4.trans (List.dropWhile_suffix _)
            have htk := tk_dr (skp r)
            have hlp := loop_f ht (above := 12 - ((d + 1 : Nat) : Int)) (by omega) (rec_ := syntax_reader__node.m k) (node_les d)
              (fun s' ns' a b => by rw [show 12 - ((d + 1 : Nat) : Int) + 1 = 12 - (d : Int) by omega]; exact node_m_f ht d k s' ns' (by omega) (by omega) a b)
              ((skp r).length + 1) [] ((skp r).dropWhile okB) ns (by omega) hs5 (by omega) (by simp only [List.length_nil]; omega)
            have hles := loop_les (node_les d) ((skp r).length + 1) [] ((skp r).dropWhile okB) ns (by omega)
            rw [hlp, Option.bind_some]
            cases hv : loopS (nodeS d) ((skp r).length + 1) [] ((skp r).dropWhile okB) ns with
            | inl p => rfl
            | inr p =>
              rw [hv] at hles
              simp only at hles
              obtain ⟨l1, l2, l3, l4, l5⟩ := hles
              have hs6 : Suf t p.2.1 := hs5.trans l1
              cases hp2 : p.2.1 with
              | nil => rw [hp2] at l4; cases l4
              | cons x y =>
                rw [hp2] at hs6
                obtain ⟨_, _, g3, g4⟩ := hs6.at
                have hl6 := hs6.le
                simp only [List.length_cons] at hl6
                have hp6 : ps t (x :: y) ≤ 4096 := by unfold ps; simp only [List.length_cons]; omega
                simp only [sumF, closeS, syntax_reader__node.j2]
                rw [hp2, ck_eq (by omega) (by omega), Option.bind_some, app_eq (by simp; omega), Option.bind_some, g3]
                rfl
          · rw [if_neg ca, if_neg ca]
            rfl

theorem node_f {t : ByteArray} (ht : t.size ≤ 4096) (s : List UInt8) (ns : List Node) (hs : Suf t s) (hb : ns.length + s.length ≤ 5000) :
    syntax_reader__node (rd t s ns) 0 = some ((nodeS 12 s ns).1, rd t (nodeS 12 s ns).2.1 (nodeS 12 s ns).2.2) := by
  unfold syntax_reader__node
  exact node_m_f ht 12 _ s ns (by decide) (by omega) hs hb

/-- what the reader says of a text -/
def parseS (t : ByteArray) : SyntaxTree × Fault :=
  if t.size > 4096 then (⟨[]⟩, ⟨2, -1⟩)
  else if (nodeS 12 (bts t) []).1 ≠ 0 then (⟨[]⟩, ⟨(nodeS 12 (bts t) []).1, ps t (nodeS 12 (bts t) []).2.1⟩)
  else if (skp (nodeS 12 (bts t) []).2.1) ≠ [] then (⟨[]⟩, ⟨1, ps t (skp (nodeS 12 (bts t) []).2.1)⟩)
  else if (nodeS 12 (bts t) []).2.2.length > 80 then (⟨[]⟩, ⟨10, -1⟩) else (⟨(nodeS 12 (bts t) []).2.2⟩, ⟨0, 0⟩)

theorem Parse_f (t : ByteArray) : syntax_Parse t = some (parseS t) := by
  unfold syntax_Parse parseS
  rw [ite_dec]
  by_cases c : t.size > 4096
  · rw [if_pos (by omega), if_pos c]
  · rw [if_neg (by omega), if_neg c]
    have hs : Suf t (bts t) := List.suffix_refl _
    have hl := bts_len t
    have hz : (⟨t, 0, []⟩ : Reader_syntax) = rd t (bts t) [] := by unfold rd ps; rw [hl]; congr 1; omega
    have hles := node_les 12 (bts t) []
    rw [hz, node_f (by omega) (bts t) [] hs (by simp; omega), Option.bind_some]
    simp only []
    rw [ite_ndec]
    generalize nodeS 12 (bts t) [] = p at hles ⊢
    by_cases c0 : p.1 = 0
    · rw [if_pos c0, if_neg (by simpa using c0)]
      have hs2 : Suf t p.2.1 := hs.trans hles.1
      rw [blanks_f (by omega) p.2.2 p.2.1 hs2, Option.bind_some]
      show (if decide (ps t (skp p.2.1) < (t.size : Int)) = true then some ((⟨[]⟩ : SyntaxTree), (⟨1, ps t (skp p.2.1)⟩ : Fault)) else if decide ((p.2.2.length : Int) > 80) = true then some (⟨[]⟩, ⟨10, -1⟩) else some (⟨p.2.2⟩, ⟨0, 0⟩)) = _
      rw [ite_dec]
      have hs3 : Suf t (skp p.2.1) := hs2.trans (skp_suf _)
      cases hq : skp p.2.1 with
      | nil =>
        rw [if_neg (by rw [ps_nil]; omega), ite_dec]
        simp only [ne_eq, not_true_eq_false, if_false]
        by_cases c1 : p.2.2.length > 80
        · rw [if_pos (by omega), if_pos c1]
        · rw [if_neg (by omega), if_neg c1]
      | cons a r =>
        rw [hq] at hs3
        rw [if_pos hs3.at.2.1]
        simp
    · rw [if_neg c0, if_pos c0]
end Go.Dc
