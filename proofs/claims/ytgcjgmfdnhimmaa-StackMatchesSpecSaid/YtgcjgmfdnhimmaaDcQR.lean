/- The document's Compose and SquashStack: the same answers; the law StackMatchesSpec. -/
import Derived.Test.YtgcjgmfdnhimmaaDcQQ
set_option linter.unusedSimpArgs false
set_option linter.unusedVariables false
namespace Go.Dc
open Go

def Ln (X : List ByteArray) (s : Cs) (b : Nat) : Prop := 0 ≤ s.pos ∧ s.pos.toNat + s.pd.length = b ∧ Mt X s.pos.toNat s.pd
theorem Ln.del {X : List ByteArray} {s : Cs} {b : Nat} (h : Ln X s b) {l : List ByteArray} (hm : Mt X b l) : Ln X (s.del l) (b + l.length) := by
  obtain ⟨h1, h2, h3⟩ := h
  refine ⟨h1, ?_, ?_⟩
  · show s.pos.toNat + (s.pd ++ l).length = b + l.length
    rw [List.length_append]; omega
  · exact mt_append h3 (by show Mt X (s.pos.toNat + s.pd.length) l; rw [h2]; exact hm)

theorem sc_ins (J : List Item) (hJ : J.length ≤ 300000) (X : List ByteArray) : ∀ (l : List ByteArray) (k : Nat) (R : List Item) (s : Cs), J.drop k = l.map nit ++ R → s.pi.length + s.hs.length ≤ k →
    iter (fun t => changeforgeref1_Compose.l1 J t.1 t.2.1 t.2.2.1 t.2.2.2.1 t.2.2.2.2) ((k : Int), s.pi, s.pos, X, s.hs) = iter (fun t => changeforgeref1_Compose.l1 J t.1 t.2.1 t.2.2.1 t.2.2.2.1 t.2.2.2.2) (((k + l.length : Nat) : Int), (s.ins l).pi, (s.ins l).pos, X, (s.ins l).hs) ∧ J.drop (k + l.length) = R
  | [], k, R, s, hd, hb => by rw [Cs.ins_nil]; exact ⟨rfl, hd⟩
  | x :: l, k, R, s, hd, hb => by
    rw [List.map_cons, List.cons_append] at hd
    obtain ⟨d1, d2, d3⟩ := drop_at hd
    have e0 : changeforgeref1_Compose.l1 J (k : Int) s.pi s.pos X s.hs = some (.next (((k + 1 : Nat) : Int), (s.ins [x]).pi, (s.ins [x]).pos, X, (s.ins [x]).hs)) := by
      unfold changeforgeref1_Compose.l1
      rw [ite_dec, if_pos (by omega), at_nat d1, Option.bind_some, d2, ite_dec, if_pos (nit_neg x), Option.bind_some, app_eq (by simp only [List.length_singleton]; omega), Option.bind_some]
      unfold changeforgeref1_Compose.j4
      rw [ck_eq (by omega) (by omega)]; rfl
    obtain ⟨i1, i2⟩ := sc_ins J hJ X l (k + 1) R (s.ins [x]) d3 (by show (s.pi ++ [x]).length + s.hs.length ≤ k + 1; simp; omega)
    rw [iter_next (m := fun t : Int × List ByteArray × Int × List ByteArray × List Hunk => changeforgeref1_Compose.l1 J t.1 t.2.1 t.2.2.1 t.2.2.2.1 t.2.2.2.2) (s := ((k : Int), s.pi, s.pos, X, s.hs)) e0]
    rw [Cs.ins_ins] at i1
    rw [List.length_cons, show k + (l.length + 1) = k + 1 + l.length by omega]
    exact ⟨i1, i2⟩

theorem sc_mids (J : List Item) (hJ : J.length ≤ 300000) (X : List ByteArray) (hX : X.length = 400) : ∀ (A : List Mid) (k b : Nat) (R : List Item) (s : Cs), J.drop k = itm b A ++ R → WT X b A → Ln X s b → s.pi.length + s.hs.length ≤ k →
    iter (fun t => changeforgeref1_Compose.l1 J t.1 t.2.1 t.2.2.1 t.2.2.2.1 t.2.2.2.2) ((k : Int), s.pi, s.pos, X, s.hs) = iter (fun t => changeforgeref1_Compose.l1 J t.1 t.2.1 t.2.2.1 t.2.2.2.1 t.2.2.2.2) (((k + A.length : Nat) : Int), (A.foldl Cs.step s).pi, (A.foldl Cs.step s).pos, X, (A.foldl Cs.step s).hs) ∧
    J.drop (k + A.length) = R ∧ Ln X (A.foldl Cs.step s) (bse b A) ∧ (A.foldl Cs.step s).pi.length + (A.foldl Cs.step s).hs.length ≤ k + A.length
  | [], k, b, R, s, hd, _, hl, hb => ⟨rfl, hd, hl, hb⟩
  | m :: A, k, b, R, s, hd, hw, hl, hb => by
    rw [itm_cons, List.cons_append] at hd
    obtain ⟨d1, d2, d3⟩ := drop_at hd
    obtain ⟨w1, w2, w3⟩ := hw
    have ld := hl.del w1
    rw [List.foldl_cons, List.length_cons, bse, show k + (A.length + 1) = k + 1 + A.length by omega]
    by_cases hi : m.inserted = true
    · rw [if_pos hi] at d2 d3 w3 ⊢
      have es : s.step m = (s.del m.before).ins [m.line] := by unfold Cs.step; rw [if_pos hi]
      have e0 : changeforgeref1_Compose.l1 J (k : Int) s.pi s.pos X s.hs = some (.next (((k + 1 : Nat) : Int), (s.step m).pi, (s.step m).pos, X, (s.step m).hs)) := by
        unfold changeforgeref1_Compose.l1
        rw [ite_dec, if_pos (by omega), at_nat d1, Option.bind_some, d2, ite_dec, if_pos (nit_neg _), Option.bind_some, app_eq (by simp only [List.length_singleton]; omega), Option.bind_some]
        unfold changeforgeref1_Compose.j4
        rw [ck_eq (by omega) (by omega), es]; rfl
      rw [iter_next (m := fun t : Int × List ByteArray × Int × List ByteArray × List Hunk => changeforgeref1_Compose.l1 J t.1 t.2.1 t.2.2.1 t.2.2.2.1 t.2.2.2.2) (s := ((k : Int), s.pi, s.pos, X, s.hs)) e0]
      exact sc_mids J hJ X hX A (k + 1) _ R (s.step m) d3 w3 (by rw [es]; exact ld) (by rw [es]; show (s.pi ++ [m.line]).length + s.hs.length ≤ k + 1; simp; omega)
    · rw [if_neg hi] at d2 d3 w3 ⊢
      have es : s.step m = (s.del m.before).keep := by unfold Cs.step; rw [if_neg hi]
      obtain ⟨p1, p2, p3⟩ := ld
      have p1 : 0 ≤ s.pos := p1
      have p2 : s.pos.toNat + (s.pd ++ m.before).length = b + m.before.length := p2
      have p3 : Mt X s.pos.toNat (s.pd ++ m.before) := p3
      have ho := w2 (by simpa using hi)
      have hpos : s.pos + ((s.pd ++ m.before).length : Int) + 1 = ((b + m.before.length : Nat) : Int) + 1 := by omega
      have hfl : (s.step m).hs = if (s.pd ++ m.before).length + s.pi.length = 0 then s.hs else s.hs ++ [⟨s.pos, s.pd ++ m.before, s.pi⟩] := by rw [es]; rfl
      have e0 : changeforgeref1_Compose.l1 J (k : Int) s.pi s.pos X s.hs = some (.next (((k + 1 : Nat) : Int), (s.step m).pi, (s.step m).pos, X, (s.step m).hs)) := by
        unfold changeforgeref1_Compose.l1
        have hneg : ¬ ((kit (b + m.before.length)).Old < 0) := by show ¬ (((b + m.before.length : Nat) : Int) < 0); omega
        rw [ite_dec, if_pos (by omega), at_nat d1, Option.bind_some, d2, ite_dec, if_neg hneg, Option.bind_some, show (kit (b + m.before.length)).Old = ((b + m.before.length : Nat) : Int) from rfl, bool_or, Option.bind_some, hfl]
        have j5 : ∀ hs', changeforgeref1_Compose.j5 J (k : Int) X hs' = some (.next (((k + 1 : Nat) : Int), [], ((b + m.before.length : Nat) : Int) + 1, X, hs')) := by
          intro hs'
          unfold changeforgeref1_Compose.j5
          rw [at_nat d1, Option.bind_some, d2]
          show ((ckK .i64 (((b + m.before.length : Nat) : Int) + 1)).bind _) = _
          rw [ck_eq (by omega) (by omega), Option.bind_some]
          unfold changeforgeref1_Compose.j4
          rw [ck_eq (by omega) (by omega)]; rfl
        have epi : (s.step m).pi = [] := by rw [es]; rfl
        have epos : (s.step m).pos = ((b + m.before.length : Nat) : Int) + 1 := by rw [es, ← hpos]; rfl
        rw [epi, epos]
        by_cases hc : (s.pd ++ m.before).length + s.pi.length = 0
        · have : (decide (((b + m.before.length : Nat) : Int) > s.pos) || decide ((s.pi.length : Int) > 0)) = false := by
            rw [Bool.or_eq_false_iff, decide_eq_false_iff_not, decide_eq_false_iff_not]; constructor <;> omega
          rw [this, if_neg (by decide), if_pos hc, j5]
        · have : (decide (((b + m.before.length : Nat) : Int) > s.pos) || decide ((s.pi.length : Int) > 0)) = true := by
            rw [Bool.or_eq_true, decide_eq_true_eq, decide_eq_true_eq]; omega
          have hcut : cut? X s.pos (kit (b + m.before.length)).Old = some (s.pd ++ m.before) := by
            show cut? X s.pos ((b + m.before.length : Nat) : Int) = _
            rw [cut_eq p1 (by omega) (by omega), Int.toNat_natCast, List.drop_take, ← p2, Nat.add_sub_cancel_left, p3.2]
          rw [this, if_pos rfl, if_neg hc, Option.bind_some, hcut, Option.bind_some, app_eq (by simp only [List.length_singleton]; omega), Option.bind_some, j5]
      rw [iter_next (m := fun t : Int × List ByteArray × Int × List ByteArray × List Hunk => changeforgeref1_Compose.l1 J t.1 t.2.1 t.2.2.1 t.2.2.2.1 t.2.2.2.2) (s := ((k : Int), s.pi, s.pos, X, s.hs)) e0]
      refine sc_mids J hJ X hX A (k + 1) _ R (s.step m) d3 w3 ?_ ?_
      · rw [es]
        refine ⟨by show 0 ≤ s.pos + ((s.pd ++ m.before).length : Int) + 1; omega, ?_, ?_⟩
        · show (s.pos + ((s.pd ++ m.before).length : Int) + 1).toNat + 0 = _; omega
        · exact mt_nil (by show (s.pos + ((s.pd ++ m.before).length : Int) + 1).toNat ≤ _; omega)
      · rw [hfl, show (s.step m).pi = [] by rw [es]; rfl]
        split <;> simp <;> omega

theorem eat_ln {X : List ByteArray} : ∀ (xs : List ByteArray) (M : List Mid) (b : Nat) (s : Cs), xs.length ≤ M.length → Eaten X b M xs → Ln X s b → Ln X (eats M xs s) (bse b (M.take xs.length)) ∧ (eats M xs s).pi = s.pi ∧ (eats M xs s).hs = s.hs
  | [], M, b, s, _, _, hl => by cases M <;> exact ⟨hl, rfl, rfl⟩
  | x :: xs, [], b, s, hlen, _, _ => by simp at hlen
  | x :: xs, m :: ms, b, s, hlen, he, hl => by
    obtain ⟨h1, h2, h3⟩ := he
    have hlen' : xs.length ≤ ms.length := by simpa using hlen
    rw [eats, List.length_cons, List.take_succ_cons, bse]
    by_cases hi : m.inserted = true
    · rw [if_pos hi] at h3 ⊢
      have : s.eat m x = s.del m.before := by unfold Cs.eat; rw [if_pos hi]
      rw [this]
      exact eat_ln xs ms _ _ hlen' h3 (hl.del h1)
    · rw [if_neg hi] at h3 ⊢
      have hx := h2 (by simpa using hi)
      obtain ⟨hlt, _⟩ := List.getElem?_eq_some_iff.1 hx
      have : s.eat m x = (s.del m.before).del [x] := by unfold Cs.eat; rw [if_neg hi, Cs.del_del]
      rw [this]
      exact eat_ln xs ms _ _ hlen' h3 ((hl.del h1).del (mt_cons hx (mt_nil (by omega))))

theorem sc_wlk (J : List Item) (hJ : J.length ≤ 300000) (X : List ByteArray) (hX : X.length = 400) : ∀ (rest : List Hunk) (e : Nat) (M : List Mid) (b k : Nat) (s : Cs), Srt ((e : Int) - 1) rest → Small rest → 240 ≤ e + M.length → e ≤ 120 → J.drop k = Jq e rest (itm b M) → CX X b e rest M → Ln X s b → s.pi.length + s.hs.length ≤ k →
    iter (fun t => changeforgeref1_Compose.l1 J t.1 t.2.1 t.2.2.1 t.2.2.2.1 t.2.2.2.2) ((k : Int), s.pi, s.pos, X, s.hs) = some (wlk e rest M s).hs
  | [], e, M, b, k, s, hs, hsm, hM, he, hd, hx, hl, hb => by
    rw [Jq, ← List.append_nil (itm b M)] at hd
    obtain ⟨a1, a2, a3, a4⟩ := sc_mids J hJ X hX M k b [] s hd hx hl hb
    rw [a1, wlk]
    have := drop_end a2
    refine iter_done ?_
    simp only
    unfold changeforgeref1_Compose.l1
    rw [ite_dec, if_neg (by omega)]
  | h :: r, e, M, b, k, s, hs, hsm, hM, he, hd, hx, hl, hb => by
    obtain ⟨s1, s2, s3, s4⟩ := hsm h (by simp)
    have hs1 := hs.1
    have hs2 := hs.2
    obtain ⟨c1, c2, c3⟩ := hx
    rw [Jq, itm_take, itm_drop] at hd
    obtain ⟨a1, a2, a3, a4⟩ := sc_mids J hJ X hX (M.take (h.At.toNat - e)) k b _ s hd c1 hl hb
    obtain ⟨b1, b2⟩ := sc_ins J hJ X h.New _ _ _ a2 a4
    obtain ⟨d1, d2, d3⟩ := eat_ln h.Old (M.drop (h.At.toNat - e)) _ (((M.take (h.At.toNat - e)).foldl Cs.step s).ins h.New) (by rw [List.length_drop]; omega) c2 a3
    have hbb : bse b (M.take (h.At.toNat - e + h.Old.length)) = bse (bse b (M.take (h.At.toNat - e))) ((M.drop (h.At.toNat - e)).take h.Old.length) := by rw [← bse_append, ← List.take_add]
    rw [a1, b1, wlk]
    have := sc_wlk J hJ X hX r (h.At.toNat + h.Old.length) (M.drop (h.At.toNat - e + h.Old.length)) _ (k + (M.take (h.At.toNat - e)).length + h.New.length) (eats (M.drop (h.At.toNat - e)) h.Old (((M.take (h.At.toNat - e)).foldl Cs.step s).ins h.New))
      (by cases r with
        | nil => trivial
        | cons y r => exact ⟨by have := hs2.1; omega, hs2.2⟩) (fun y hy => hsm y (List.mem_cons_of_mem _ hy)) (by rw [List.length_drop]; omega) (by omega) (by rw [b2, hbb]) c3 d1
      (by rw [d2, d3]; show (((M.take (h.At.toNat - e)).foldl Cs.step s).pi ++ h.New).length + ((M.take (h.At.toNat - e)).foldl Cs.step s).hs.length ≤ _; rw [List.length_append]; omega)
    rw [← this, d2, d3]
    have hp : ∀ (xs : List ByteArray) (M : List Mid) (s : Cs), (eats M xs s).pos = s.pos := by
      intro xs
      induction xs with
      | nil => intro M s; cases M <;> rfl
      | cons x xs ih =>
        intro M s
        cases M with
        | nil => rfl
        | cons m ms => rw [eats, ih]; unfold Cs.eat; split <;> rfl
    rw [hp]

/-! ## the tail does not matter -/
theorem eats_append : ∀ (xs : List ByteArray) (M A : List Mid) (s : Cs), xs.length ≤ M.length → eats (M ++ A) xs s = eats M xs s
  | [], M, A, s, _ => by
    have : ∀ L : List Mid, eats L [] s = s := fun L => by cases L <;> rfl
    rw [this, this]
  | x :: xs, [], A, s, h => by simp at h
  | x :: xs, m :: ms, A, s, h => by rw [List.cons_append, eats, eats, eats_append xs ms A _ (by simpa using h)]
theorem badL_append : ∀ (xs : List ByteArray) (M A : List Mid), xs.length ≤ M.length → badL (M ++ A) xs = badL M xs
  | [], M, A, _ => by
    have : ∀ L : List Mid, badL L [] = false := fun L => by cases L <;> rfl
    rw [this, this]
  | x :: xs, [], A, h => by simp at h
  | x :: xs, m :: ms, A, h => by rw [List.cons_append, badL, badL, badL_append xs ms A (by simpa using h)]
theorem wlk_append : ∀ (rest : List Hunk) (e : Nat) (M A : List Mid) (s : Cs), Srt ((e : Int) - 1) rest → Small rest → 240 ≤ e + M.length → e ≤ 120 → wlk e rest (M ++ A) s = A.foldl Cs.step (wlk e rest M s)
  | [], e, M, A, s, _, _, _, _ => by rw [wlk, wlk, List.foldl_append]
  | h :: r, e, M, A, s, hs, hsm, hM, he => by
    obtain ⟨s1, s2, s3, s4⟩ := hsm h (by simp)
    have hs1 := hs.1
    have hs2 := hs.2
    rw [wlk, wlk, List.take_append_of_le_length (by omega), List.drop_append_of_le_length (by omega), List.drop_append_of_le_length (by omega), eats_append _ _ _ _ (by rw [List.length_drop]; omega)]
    exact wlk_append r _ _ A _ (by
      cases r with
      | nil => trivial
      | cons y r => exact ⟨by have := hs2.1; omega, hs2.2⟩) (fun y hy => hsm y (List.mem_cons_of_mem _ hy)) (by rw [List.length_drop]; omega) (by omega)
theorem cscan_append (M A : List Mid) (hM : 240 ≤ M.length) : ∀ (l : List Hunk) (i : Int), Small l → cscan (M ++ A) i l = cscan M i l
  | [], _, _ => rfl
  | h :: r, i, hs => by
    obtain ⟨s1, s2, s3, s4⟩ := hs h (by simp)
    rw [cscan, cscan, List.drop_append_of_le_length (by omega), badL_append _ _ _ (by rw [List.length_drop]; omega), cscan_append M A hM r _ (fun y hy => hs y (List.mem_cons_of_mem _ hy))]

theorem rcompose_f (p q : Patch) : changeforgeref1_Compose p q = some (composeF p q) := by
  unfold changeforgeref1_Compose composeF
  rw [rpair_f, Option.bind_some, ite_ndec]
  by_cases h0 : (pairF p q).Code ≠ 0
  · rw [if_neg h0, if_pos h0]
  · rw [if_pos (by omega), if_neg h0]
    obtain ⟨hp, hq⟩ := pairF_zero (p := p) (q := q) (by omega)
    obtain ⟨n1, g1⟩ := (patchFault_good p).1 hp
    obtain ⟨n2, g2⟩ := (patchFault_good q).1 hq
    have sp := small_of hp
    have sq := small_of hq
    have rp := srt_of _ _ g1
    have rq := srt_of _ _ g2
    obtain ⟨m1, m2⟩ := mids4_len p.Hunks 0 [] (-1) g1 (by omega) (by omega)
    obtain ⟨X1, a1, a2, a3, a4⟩ := rc5 p n1 400 0 0 p.Hunks [] (List.replicate 400 ByteArray.empty) (by omega) (by omega) rfl rp sp (List.length_replicate ..) (Nat.zero_le _) (by omega)
    rw [List.nil_append] at a1
    rw [mk_eq (by omega) (by omega), Option.bind_some, show ((400 : Int)).toNat = 400 from rfl]
    rw [show (((0 : Nat) : Int)) = 0 from rfl] at a1
    rw [a1, Option.bind_some]
    obtain ⟨j, hj⟩ := mids_tail p.Hunks 0 [] (-1) g1 (by omega) (by omega)
    have hM : compM p = mids4 0 p.Hunks [] ++ krun j [] := hj
    obtain ⟨b1, b2⟩ := rc2 q n2 (mids4 0 p.Hunks []) (itm 0 (mids4 0 p.Hunks [])) rfl (by omega) (by rw [itm_len]; omega) q.Hunks 0 0 [] X1 rfl rq sq (by omega) a4 a2 (by simp) (by omega)
    unfold changeforgeref1_Compose.j1
    simp only
    rw [hM, cscan_append _ _ (by omega) _ _ sq]
    rw [show (((0 : Nat) : Int)) = 0 from rfl] at b1 b2
    cases hc : cscan (mids4 0 p.Hunks []) 0 q.Hunks with
    | some f => rw [b1 f hc]; rfl
    | none =>
      obtain ⟨e2, J2, X', c1, c2, c3, c4, c5, c6, c7⟩ := b2 hc
      rw [c1, Option.bind_some]
      simp only
      unfold changeforgeref1_Compose.j2
      rw [cut_eq (by omega) (by rw [itm_len]; omega) (by omega), Option.bind_some, Int.toNat_natCast, Int.toNat_natCast, List.take_length, app_eq (by rw [List.length_drop, itm_len]; omega), Option.bind_some, c4, List.nil_append, List.drop_zero]
      have hJl : (Jq 0 q.Hunks (itm 0 (mids4 0 p.Hunks []))).length ≤ 300000 := by
        have := congrArg List.length c4
        rw [List.nil_append, List.drop_zero, List.length_append, List.length_drop, itm_len] at this
        omega
      have sc := sc_wlk _ hJl X' c5 q.Hunks 0 (mids4 0 p.Hunks []) 0 0 ⟨[], 0, [], []⟩ rq sq (by omega) (by omega) rfl c7 ⟨Int.le_refl _, rfl, mt_nil (Nat.zero_le _)⟩ (by simp)
      rw [show (((0 : Nat) : Int)) = 0 from rfl] at sc
      simp only at sc
      rw [sc, Option.bind_some]
      have hfl : (wlk 0 q.Hunks (mids4 0 p.Hunks []) ⟨[], 0, [], []⟩).hs = (compR p q).Hunks := by
        obtain ⟨A, x, hA⟩ := mids4_last p.Hunks 0 [] (-1) g1 (by omega) (by omega)
        have hAl := congrArg List.length hA
        rw [List.length_append, List.length_singleton] at hAl
        have e1 : wlk 0 q.Hunks (mids4 0 p.Hunks []) ⟨[], 0, [], []⟩ = (wlk 0 q.Hunks A ⟨[], 0, [], []⟩).step (kept x) := by
          rw [hA, wlk_append q.Hunks 0 _ _ _ rq sq (by omega) (by omega)]; rfl
        have e2 : (wlk 0 q.Hunks (mids4 0 p.Hunks []) ⟨[], 0, [], []⟩).pd = [] ∧ (wlk 0 q.Hunks (mids4 0 p.Hunks []) ⟨[], 0, [], []⟩).pi = [] := by rw [e1]; exact ⟨rfl, rfl⟩
        show _ = (wlk 0 q.Hunks (compM p) ⟨[], 0, [], []⟩).fl
        rw [hM, wlk_append q.Hunks 0 _ _ _ rq sq (by omega) (by omega), fold_kept _ _ ?_ e2.1 e2.2]
        · unfold Cs.fl; rw [e2.1, e2.2, if_pos (by simp)]
        · have : ∀ n, ∀ x ∈ krun n [], x = kept [] := by
            intro n
            induction n with
            | zero => intro x hx; cases hx
            | succ n ih =>
              intro x hx
              rw [krun] at hx
              rcases List.mem_cons.1 hx with rfl | hx
              · rfl
              · exact ih x hx
          exact this j
      unfold changeforgeref1_Compose.j3 changeforgeref1_fits
      rw [hfl, show ({ Hunks := (compR p q).Hunks } : Patch) = compR p q from rfl, rpatchFault_f, Option.bind_some, ite_ndec]
      by_cases h2 : (patchFault (compR p q)).Code ≠ 0
      · rw [if_neg h2, if_pos h2]; rfl
      · have h3 : (patchFault (compR p q)).Code = 0 := by omega
        rw [if_pos h3, if_neg h2]; rfl

theorem SquashStack_f (l : List Patch) (i : Int) : changeforgeref2_SquashStack l i = some (squashTop l i) := by
  unfold changeforgeref2_SquashStack changeforgeref2_SquashStack.j1 changeforgeref2_SquashStack.j2 squashTop
  rw [rstack_f, Option.bind_some, ite_ndec]
  by_cases h0 : (stackFault l).Code ≠ 0
  · rw [if_neg h0, if_pos h0]
  · rw [if_pos (by omega), if_neg h0]
    have hg := (stackFault_zero l).1 (by omega)
    have h12 := hg.1
    rw [ck_eq (by omega) (by omega), Option.bind_some, bool_or, Option.bind_some]
    simp only [dec_or, rat_f, Option.bind_some]
    by_cases h1 : i < 0 ∨ i ≥ (l.length : Int) - 1
    · rw [if_pos h1, if_pos h1]
    · rw [if_neg h1, if_neg h1]
      have ha : i.toNat + 1 < l.length := by omega
      have hi : i = (i.toNat : Int) := by omega
      rw [squashAt_eq ha]
      generalize i.toNat = a at ha hi
      subst hi
      rw [at_nat (show a < l.length by omega), Option.bind_some, ck_eq (by omega) (by omega), Option.bind_some, show (a : Int) + 1 = ((a + 1 : Nat) : Int) from rfl, at_nat ha, Option.bind_some, rcompose_f, Option.bind_some, ite_ndec]
      by_cases h2 : (composeF l[a] l[a + 1]).2.Code ≠ 0
      · rw [if_neg h2, if_pos h2]
      · rw [if_pos (by omega), if_neg h2, cut_eq (by omega) (by omega) (by omega), Option.bind_some, Int.toNat_natCast, show ((0 : Int)).toNat = 0 from rfl, List.drop_zero,
          ck_eq (by omega) (by omega), Option.bind_some, cut_eq (by omega) (by omega) (by omega), Option.bind_some, show ((l.length : Nat) : Int).toNat = l.length from rfl, List.take_length, show ((a : Int) + 2).toNat = a + 2 by omega,
          app_eq (by rw [List.length_take, List.length_nil]; omega), Option.bind_some, List.nil_append,
          app_eq (by rw [List.length_take, List.length_singleton]; omega), Option.bind_some,
          app_eq (by rw [List.length_append, List.length_take, List.length_singleton, List.length_drop]; omega), Option.bind_some, List.append_assoc]
        rfl

theorem squashTop_good (l : List Patch) (i : Int) : GoodS (squashTop l i).1 := by
  unfold squashTop
  by_cases h0 : (stackFault l).Code ≠ 0
  · rw [if_pos h0]; exact goodS_nil
  · rw [if_neg h0]
    have hg := (stackFault_zero l).1 (by omega)
    by_cases h1 : i < 0 ∨ i ≥ (l.length : Int) - 1
    · rw [if_pos h1]; exact goodS_nil
    · rw [if_neg h1, squashAt_eq (by omega)]
      split
      · exact goodS_nil
      · rename_i c
        obtain ⟨k1, k2, k3, k4⟩ := composeF_ok (p := l[i.toNat]) (q := l[i.toNat + 1]) (by omega)
        rw [k4]
        refine ⟨by have := hg.1; simp only; rw [List.length_append, List.length_cons, List.length_take, List.length_drop]; omega, fun p hp => ?_⟩
        rcases List.mem_append.1 hp with hp | hp
        · exact hg.2 p (List.mem_of_mem_take hp)
        · rcases List.mem_cons.1 hp with rfl | hp
          · exact k3
          · exact hg.2 p (List.mem_of_mem_drop hp)

theorem applyS_len (base : List ByteArray) (l : List Patch) : (applyS base l).1.length ≤ 1000000 := by
  by_cases h : (applyS base l).2.Code = 0
  · have := (applyS_ok h).2.2.2.2.1; omega
  · have key : ∀ (l : List Patch) (i : Int) (t : List ByteArray), (ascan i l t).2.Code ≠ 0 → (ascan i l t).1 = [] := by
      intro l
      induction l with
      | nil => intro i t h; exact absurd rfl h
      | cons p r ih =>
        intro i t h
        rw [ascan] at h ⊢
        by_cases c : (applyF p t).2.Code ≠ 0
        · rw [if_pos c]
        · rw [if_neg c] at h ⊢; exact ih _ _ h
    unfold applyS at h ⊢
    split
    · simp
    · split
      · simp
      · rename_i c1 c2
        rw [if_neg c1, if_neg c2] at h
        rw [key l 0 base h]; simp

theorem matches_spec (base : List ByteArray) (l : List Patch) (i : Int) : changeforgelaw2_StackMatchesSpec base l i = some true := by
  unfold changeforgelaw2_StackMatchesSpec
  rw [sapply_f, rsapply_f, Squash_f, SquashStack_f]
  simp only [Option.bind_some, strings_eq _ _ (applyS_len base l), patches_refl (squashTop_good l i), dropped_f, if_true, decide_true, Bool.and_self]
end Go.Dc
