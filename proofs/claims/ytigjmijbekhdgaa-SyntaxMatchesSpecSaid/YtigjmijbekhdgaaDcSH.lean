/- Reading what was printed; what was read is a tree. Laws Restored and Normal. -/
import Derived.Test.YtigjmijbekhdgaaDcSG
set_option linter.unusedSimpArgs false
namespace Go.Dc
open Go Fo

theorem ok_not_blk {c : UInt8} (h : okB c = true) : blk c = false := by
  unfold okB at h
  simp only [Bool.and_eq_true, decide_eq_true_eq, Bool.not_eq_true', decide_eq_false_iff_not] at h
  unfold blk
  cases hc : [32, 9, 10].contains c with
  | false => rfl
  | true =>
    simp only [List.contains_cons, List.contains_nil, Bool.or_false, Bool.or_eq_true, beq_iff_eq] at hc
    rcases hc with e | e | e <;> (subst e; exact absurd h.1.1.1 (by decide))
theorem ok_ne {c : UInt8} (h : okB c = true) : c ≠ 40 ∧ c ≠ 41 := by
  refine ⟨fun e => ?_, fun e => ?_⟩ <;> (subst e; revert h; decide)

theorem lab_ok {l : ByteArray} (h : labB l = true) : (bts l).all okB = true ∧ okA (bts l) = true := by
  have h2 := lab_len h
  unfold labB at h
  simp only [Bool.and_eq_true] at h
  refine ⟨h.1.1, ?_⟩
  unfold okA
  cases hb : bts l with
  | nil => rw [hb] at h2; simp at h2
  | cons c r => rw [hb] at h2; simpa using h2.2
theorem ok_lab {s : List UInt8} (h : okA (s.takeWhile okB) = true) : labB (lbl (s.takeWhile okB)) = true := by
  have h1 := okA_pos h
  unfold labB
  rw [bts_lbl, lbl_size]
  have : (s.takeWhile okB).all okB = true := List.all_takeWhile
  rw [this]
  simp; omega

theorem take_ok : ∀ (a r : List UInt8), a.all okB = true → (∀ c, r.head? = some c → okB c = false) → (a ++ r).takeWhile okB = a ∧ (a ++ r).dropWhile okB = r
  | [], r, _, h => by
    cases r with
    | nil => exact ⟨rfl, rfl⟩
    | cons c r => have := h c rfl; simp [List.takeWhile_cons, List.dropWhile_cons, this]
  | c :: a, r, ha, h => by
    simp only [List.all_cons, Bool.and_eq_true] at ha
    obtain ⟨h1, h2⟩ := take_ok a r ha.2 h
    simp [List.takeWhile_cons, List.dropWhile_cons, ha.1, h1, h2]

theorem skp_cons {c : UInt8} {r : List UInt8} (h : blk c = false) : skp (c :: r) = c :: r := by unfold skp; rw [List.dropWhile_cons, h]; rfl
theorem skp_sp (r : List UInt8) : skp (32 :: r) = skp r := by
  unfold skp; rw [List.dropWhile_cons, if_pos (show blk 32 = true by decide)]

/-- the first byte of a text -/
theorem bts_head {l : ByteArray} (h : labB l = true) (r : List UInt8) : ∃ c q, bts l ++ r = c :: q ∧ okB c = true := by
  have h1 := (lab_ok h).1
  have h2 := lab_len h
  cases hb : bts l with
  | nil => rw [hb] at h2; simp at h2
  | cons c q => rw [hb] at h1; simp only [List.all_cons, Bool.and_eq_true] at h1; exact ⟨c, q ++ r, rfl, h1.1⟩
theorem skp_bts {l : ByteArray} (h : labB l = true) (r : List UInt8) : skp (bts l ++ r) = bts l ++ r := by
  obtain ⟨c, q, e, hc⟩ := bts_head h r
  rw [e]; exact skp_cons (ok_not_blk hc)
theorem txt_head {l : ByteArray} {cs : Fo} (h : labB l = true) (r : List UInt8) : ∃ c q, txt l cs ++ r = c :: q ∧ blk c = false ∧ c ≠ 41 := by
  unfold txt wrp
  cases cs with
  | nil =>
    obtain ⟨c, q, e, hc⟩ := bts_head h r
    exact ⟨c, q, e, ok_not_blk hc, (ok_ne hc).2⟩
  | node a b d => exact ⟨40, _, rfl, by decide, by decide⟩
theorem body_no (F : Fo) (r : List UInt8) (h : ∀ c, r.head? = some c → okB c = false) : ∀ c, (body F ++ r).head? = some c → okB c = false := by
  cases F with
  | nil => exact h
  | node a b d => intro c hc; simp [body] at hc; subst hc; decide

theorem sz_body : ∀ F : Fo, lab F = true → sz F ≤ (body F).length
  | .nil, _ => by simp [sz]
  | .node l cs r, h => by
    simp only [lab, Bool.and_eq_true] at h
    have h1 := sz_body cs h.1.2
    have h2 := sz_body r h.2
    have h3 : (body cs).length ≤ (wrp l cs (body cs)).length := by
      unfold wrp; cases cs with
      | nil => simp [body]
      | node a b d => simp only [List.length_cons, List.length_append, List.length_nil]; omega
    simp [sz, body]; omega

theorem loop_txt {d : Nat} (hd : ∀ (l : ByteArray) (cs : Fo) (rest : List UInt8) (ns : List Node), lab (Fo.tr l cs) = true → Fo.dp cs + 1 ≤ d → (∀ c, rest.head? = some c → okB c = false) → nodeS d (txt l cs ++ rest) ns = (0, rest, ns ++ fo ns.length (Fo.tr l cs))) :
    ∀ (G : Fo) (m : Nat) (cs0 : List Int) (rest : List UInt8) (ns : List Node), lab G = true → Fo.dp G ≤ d → sz G < m → loopS (nodeS d) m cs0 (body G ++ 41 :: rest) ns = .inr (cs0 ++ roots ns.length G, 41 :: rest, ns ++ fo ns.length G)
  | .nil, m, cs0, rest, ns, _, _, hm => by
    obtain ⟨m, rfl⟩ : ∃ k, m = k + 1 := ⟨m - 1, by omega⟩
    have : skp (41 :: rest) = 41 :: rest := skp_cons (by decide)
    simp only [body, List.nil_append]
    rw [loopS, this, if_pos (by rfl)]
    simp [roots, fo]
  | .node l cs r, m, cs0, rest, ns, hl, hdp, hm => by
    obtain ⟨m, rfl⟩ : ∃ k, m = k + 1 := ⟨m - 1, by omega⟩
    have hl' := hl
    simp only [lab, Bool.and_eq_true] at hl'
    simp only [Fo.dp] at hdp
    simp only [sz] at hm
    have e0 : body (.node l cs r) ++ 41 :: rest = 32 :: (txt l cs ++ (body r ++ 41 :: rest)) := by simp [body, txt]
    obtain ⟨c, q, e1, hc1, hc2⟩ := txt_head (cs := cs) hl'.1.1 (body r ++ 41 :: rest)
    have e2 : skp (32 :: (txt l cs ++ (body r ++ 41 :: rest))) = txt l cs ++ (body r ++ 41 :: rest) := by rw [skp_sp, e1, skp_cons hc1]
    have e3 := hd l cs (body r ++ 41 :: rest) ns (by simp only [lab, Bool.and_eq_true, Bool.and_true]; exact hl'.1) (by omega) (body_no r _ (fun c h => by simp at h; subst h; decide))
    rw [e0, loopS, e2, e3, if_neg (by rw [e1]; simpa using hc2), if_pos rfl]
    simp only []
    rw [loop_txt hd r m _ rest _ hl'.2 (by omega) (by omega)]
    have e4 : (ns ++ fo ns.length (Fo.tr l cs)).length = ns.length + sz cs + 1 := by simp [sz]; omega
    rw [e4]
    simp only [roots, fo, List.append_assoc, List.cons_append, List.nil_append]
    rw [show (((ns.length + sz cs + 1 : Nat) : Int) - 1) = ((ns.length + sz cs : Nat) : Int) by omega]

theorem node_txt : ∀ (d : Nat) (l : ByteArray) (cs : Fo) (rest : List UInt8) (ns : List Node), lab (Fo.tr l cs) = true → Fo.dp cs + 1 ≤ d → (∀ c, rest.head? = some c → okB c = false) → nodeS d (txt l cs ++ rest) ns = (0, rest, ns ++ fo ns.length (Fo.tr l cs))
  | 0, l, cs, rest, ns, _, h, _ => by have := dp_nn cs; omega
  | d + 1, l, cs, rest, ns, hl, h, hr => by
    have hl' := hl
    simp only [lab, Bool.and_eq_true, Bool.and_true] at hl'
    obtain ⟨ha, hok⟩ := lab_ok hl'.1
    rw [nodeS]
    cases cs with
    | nil =>
      show (if ((skp (bts l ++ rest)).head? == some 40) = true then _ else _) = _
      obtain ⟨c, q, e, hc⟩ := bts_head hl'.1 rest
      obtain ⟨t1, t2⟩ := take_ok (bts l) rest ha hr
      have hne : ¬ ((skp (bts l ++ rest)).head? == some 40) = true := by rw [skp_bts hl'.1, e]; simpa using (ok_ne hc).1
      rw [if_neg hne]
      show leafS (skp (bts l ++ rest)) ns = _
      rw [skp_bts hl'.1, leafS, t1, t2, if_pos hok, lbl_bts]
      simp [fo, roots]
    | node l2 cs2 r2 =>
      have e0 : txt l (.node l2 cs2 r2) ++ rest = 40 :: (bts l ++ (body (.node l2 cs2 r2) ++ 41 :: rest)) := by simp [txt, wrp]
      rw [e0, skp_cons (show blk 40 = false by decide), if_pos (by rfl)]
      simp only [List.drop_succ_cons, List.drop_zero]
      rw [skp_bts hl'.1]
      obtain ⟨t1, t2⟩ := take_ok (bts l) (body (.node l2 cs2 r2) ++ 41 :: rest) ha (body_no _ _ (fun c h => by simp at h; subst h; decide))
      have hsz := sz_body _ hl'.2
      rw [openS, t1, t2, if_pos hok, loop_txt (node_txt d) (.node l2 cs2 r2) _ [] rest ns hl'.2 (by omega) (by simp only [List.length_append]; omega)]
      simp [closeS, fo, lbl_bts]

/-! ## what was read -/
theorem loop_tree {d : Nat} (hd : ∀ s ns, (nodeS d s ns).1 = 0 → ∃ l cs, (nodeS d s ns).2.2 = ns ++ fo ns.length (Fo.tr l cs) ∧ lab (Fo.tr l cs) = true ∧ Fo.dp cs + 1 ≤ d) :
    ∀ (m : Nat) (cs0 : List Int) (s : List UInt8) (ns : List Node) (p : List Int × List UInt8 × List Node), loopS (nodeS d) m cs0 s ns = .inr p → ∃ G, p.2.2 = ns ++ fo ns.length G ∧ p.1 = cs0 ++ roots ns.length G ∧ lab G = true ∧ Fo.dp G ≤ d
  | 0, cs0, s, ns, p, h => by simp [loopS] at h
  | m + 1, cs0, s, ns, p, h => by
    rw [loopS] at h
    split at h
    · simp only [Sum.inr.injEq] at h
      subst h
      exact ⟨.nil, by simp [fo], by simp [roots], rfl, by simp [Fo.dp]⟩
    · split at h
      · rename_i hc
        obtain ⟨l, cs, h1, h2, h3⟩ := hd (skp s) ns hc
        obtain ⟨G, g1, g2, g3, g4⟩ := loop_tree hd m _ _ _ p h
        have e4 : (ns ++ fo ns.length (Fo.tr l cs)).length = ns.length + sz cs + 1 := by simp [sz]; omega
        rw [h1, e4] at g1 g2
        simp only [lab, Bool.and_eq_true, Bool.and_true] at h2
        refine ⟨.node l cs G, by rw [g1]; simp [fo], ?_, by simp only [lab, Bool.and_eq_true]; exact ⟨h2, g3⟩, by simp only [Fo.dp]; omega⟩
        rw [g2, show (((ns.length + sz cs + 1 : Nat) : Int) - 1) = ((ns.length + sz cs : Nat) : Int) by omega]
        simp [roots]
      · cases h

theorem leaf_tree {s : List UInt8} {ns : List Node} (h : (leafS s ns).1 = 0) : ∃ l, (leafS s ns).2.2 = ns ++ fo ns.length (Fo.tr l .nil) ∧ labB l = true := by
  unfold leafS at h ⊢
  split at h
  · rename_i hc
    rw [if_pos hc]
    exact ⟨_, by simp [fo, roots], ok_lab hc⟩
  · simp at h

theorem node_tree : ∀ (d : Nat) (s : List UInt8) (ns : List Node), (nodeS d s ns).1 = 0 → ∃ l cs, (nodeS d s ns).2.2 = ns ++ fo ns.length (Fo.tr l cs) ∧ lab (Fo.tr l cs) = true ∧ Fo.dp cs + 1 ≤ d
  | 0, s, ns, h => by
    rw [nodeS] at h
    split at h
    · simp at h
    · rename_i hc
      unfold leafS at h
      split at h
      · rename_i h2
        have := okA_pos h2
        exfalso
        cases hq : skp s with
        | nil => rw [hq] at this; simp at this
        | cons a b =>
          rw [hq] at this hc
          simp only [isStart, Bool.or_eq_true, not_or] at hc
          rw [List.takeWhile_cons, if_neg hc.2] at this
          simp at this
      · simp at h
  | d + 1, s, ns, h => by
    rw [nodeS] at h ⊢
    split at h
    · rename_i hc
      rw [if_pos hc]
      unfold openS at h ⊢
      split at h
      · rename_i ha
        rw [if_pos ha]
        generalize hq : skp ((skp s).drop 1) = q at h ha ⊢
        have hles := loop_les (node_les d) (q.length + 1) [] (q.dropWhile okB) ns (by have := tk_dr q; omega)
        cases hv : loopS (nodeS d) (q.length + 1) [] (q.dropWhile okB) ns with
        | inl p => rw [hv] at h hles; exact absurd h hles.1
        | inr p =>
          obtain ⟨G, g1, g2, g3, g4⟩ := loop_tree (node_tree d) _ _ _ _ _ hv
          refine ⟨lbl (q.takeWhile okB), G, ?_, by simp only [lab, Bool.and_eq_true, Bool.and_true]; exact ⟨ok_lab ha, g3⟩, by omega⟩
          simp only [closeS]
          rw [g1, g2]
          simp [fo]
      · simp at h
    · rename_i hc
      rw [if_neg hc]
      obtain ⟨l, h1, h2⟩ := leaf_tree h
      exact ⟨l, .nil, h1, by simp only [lab, Bool.and_true]; exact h2, by simp [Fo.dp]; omega⟩

theorem parse_tree {t : ByteArray} (h : (parseS t).2.Code = 0) : ∃ l cs, IsT (parseS t).1.Nodes l cs := by
  unfold parseS at h ⊢
  split at h
  · simp at h
  · rename_i h1
    rw [if_neg h1]
    split at h
    · rename_i h2; exact absurd h h2
    · rename_i h2
      rw [if_neg h2]
      split at h
      · simp at h
      · rename_i h3
        rw [if_neg h3]
        split at h
        · simp at h
        · rename_i h4
          rw [if_neg h4]
          obtain ⟨l, cs, g1, g2, g3⟩ := node_tree 12 (bts t) [] (Decidable.not_not.1 h2)
          have hz : (nodeS 12 (bts t) []).2.2.length = sz cs + 1 := by rw [g1]; simp [sz]
          exact ⟨l, cs, g1, ⟨g2, by simp only [Fo.dp]; have := dp_nn cs; omega⟩, by omega⟩

theorem parse_txt {ns : List Node} {l : ByteArray} {cs : Fo} (h : IsT ns l cs) : parseS (lbl (txt l cs)) = (⟨ns⟩, ⟨0, 0⟩) := by
  obtain ⟨h1, h2, h3⟩ := h
  have hl := txt_len h2.1
  have hdp := h2.2
  simp only [Fo.dp] at hdp
  have hn := node_txt 12 l cs [] [] h2.1 (by omega) (fun c h => by cases h)
  rw [List.append_nil] at hn
  unfold parseS
  rw [bts_lbl, hn, lbl_size, if_neg (by omega)]
  simp only [List.nil_append, List.length_nil]
  rw [← h1, if_neg (by simp), if_neg (by simp [skp]), if_neg (by rw [h1]; simp [sz]; omega)]

theorem IsT.ok {ns : List Node} {l : ByteArray} {cs : Fo} (h : IsT ns l cs) : OkN ns := by
  rw [h.1]; exact fo_okN h.2.1.1 (by have := h.2.2; simp only [sz]; omega)
theorem IsT.len {ns : List Node} {l : ByteArray} {cs : Fo} (h : IsT ns l cs) : ns.length = sz cs + 1 := by rw [h.1]; simp [sz]
theorem IsT.eqS {t : SyntaxTree} {l : ByteArray} {cs : Fo} (h : IsT t.Nodes l cs) : changeforgeequal_Syntax t t = some true :=
  eqS_refl t (by rw [h.len]; have := h.2.2; omega) (fun n hn => (h.ok n hn).2)
theorem IsT.synF {t : SyntaxTree} {l : ByteArray} {cs : Fo} (h : IsT t.Nodes l cs) : Go.Dc.synF t = ⟨0, 0⟩ := by
  rcases synF_ok t with ⟨_, h2⟩ | ⟨h1, _⟩
  · exact absurd h (h2 l cs)
  · exact h1

/-! ## the laws -/
theorem restored (t : SyntaxTree) (hb : OkN t.Nodes) : changeforgelaw2_SyntaxRestored t = some true := by
  unfold changeforgelaw2_SyntaxRestored
  rcases synF_ok t with ⟨h1, _⟩ | ⟨h1, l, cs, hI⟩
  · rw [Print_no hb h1, Option.bind_some]
    simp only []
    rw [ite_ndec, if_neg h1, parsed_eq]; rfl
  · rw [Print_ok hb hI, Option.bind_some]
    simp only []
    rw [ite_ndec, if_pos trivial, Parse_f, parse_txt hI, Option.bind_some]
    simp only []
    rw [if_pos (by decide), show (⟨t.Nodes⟩ : SyntaxTree) = t from rfl, hI.eqS, parsed_eq]; rfl

theorem normal (text : ByteArray) : changeforgelaw2_SyntaxNormal text = some true := by
  unfold changeforgelaw2_SyntaxNormal
  rw [Parse_f, Option.bind_some, ite_ndec]
  by_cases c : (parseS text).2.Code = 0
  · rw [if_pos c]
    obtain ⟨l, cs, hI⟩ := parse_tree c
    rw [Print_ok hI.ok hI, Option.bind_some, Parse_f, parse_txt hI, Option.bind_some]
    simp only []
    rw [if_pos (by decide), Option.bind_some, if_pos (by decide), show (⟨(parseS text).1.Nodes⟩ : SyntaxTree) = (parseS text).1 from rfl, hI.eqS, Validate_f _ hI.ok, hI.synF, parsed_eq]; rfl
  · rw [if_neg c, parsed_eq]; rfl
end Go.Dc
