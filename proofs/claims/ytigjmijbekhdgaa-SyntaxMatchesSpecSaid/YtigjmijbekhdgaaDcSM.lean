/- The reference's reader of syntax trees, with its stack of open nodes, comes to what the function of the bytes that are left says. -/
import Derived.Test.YtigjmijbekhdgaaDcSK
import Derived.Test.YtigjmijbekhdgaaDcSH
set_option linter.unusedSimpArgs false
set_option linter.unusedVariables false
namespace Go.Dc
open Go

abbrev Stk := List (List UInt8 × List Int)
def stL (st : Stk) : List ByteArray := st.reverse.map fun p => lbl p.1
def stK (st : Stk) : List (List Int) := st.reverse.map fun p => p.2

theorem stL_cons (b : List UInt8) (cs : List Int) (st : Stk) : stL ((b, cs) :: st) = stL st ++ [lbl b] := by simp [stL]
theorem stK_cons (b : List UInt8) (cs : List Int) (st : Stk) : stK ((b, cs) :: st) = stK st ++ [cs] := by simp [stK]
theorem stL_len (st : Stk) : (stL st).length = st.length := by simp [stL]
theorem stK_len (st : Stk) : (stK st).length = st.length := by simp [stK]

theorem loop_fuel {rec : List UInt8 → List Node → PS} (hr : Les rec) : ∀ (m m' : Nat) (cs : List Int) (s : List UInt8) (ns : List Node), s.length < m → s.length < m' → loopS rec m cs s ns = loopS rec m' cs s ns
  | 0, _, _, _, _, h, _ => absurd h (by omega)
  | _ + 1, 0, _, _, _, _, h => absurd h (by omega)
  | m + 1, m' + 1, cs, s, ns, h, h' => by
    have h1' := skp_le s
    have h2 := hr (skp s) ns
    simp only [loopS]
    by_cases c : ((skp s).head? == some 41) = true
    · rw [if_pos c, if_pos c]
    · rw [if_neg c, if_neg c]
      by_cases c2 : (rec (skp s) ns).1 = 0
      · rw [if_pos c2, if_pos c2]
        have h3 := h2.2.1 c2
        exact loop_fuel hr m m' _ _ _ (by omega) (by omega)
      · rw [if_neg c2, if_neg c2]

def cont : Stk → PS → PS
  | [], p => p
  | (b, cs) :: st, p => if p.1 = 0 then cont st (closeS b (loopS (nodeS (11 - st.length)) (p.2.1.length + 1) (cs ++ [(p.2.2.length : Int) - 1]) p.2.1 p.2.2)) else p

theorem cont_err {st : Stk} {p : PS} (h : p.1 ≠ 0) : cont st p = p := by
  cases st with
  | nil => rfl
  | cons x st => obtain ⟨b, cs⟩ := x; rw [cont, if_neg h]

def finS (b : List UInt8) (cs : List Int) (st : Stk) (s : List UInt8) (ns : List Node) : PS := cont st (closeS b (loopS (nodeS (11 - st.length)) (s.length + 1) cs s ns))

theorem fin_item {b : List UInt8} {cs : List Int} {st : Stk} {s : List UInt8} {ns : List Node} (h : ¬ ((skp s).head? == some 41) = true) : finS b cs st s ns = cont ((b, cs) :: st) (nodeS (11 - st.length) (skp s) ns) := by
  have hl := node_les (11 - st.length) (skp s) ns
  have hle := skp_le s
  unfold finS
  rw [loopS, if_neg h, cont]
  by_cases c : (nodeS (11 - st.length) (skp s) ns).1 = 0
  · rw [if_pos c, if_pos c]
    have h3 := hl.2.1 c
    rw [loop_fuel (node_les _) s.length ((nodeS (11 - st.length) (skp s) ns).2.1.length + 1) _ _ _ (by omega) (by omega)]
  · rw [if_neg c, if_neg c]
    show cont st (nodeS (11 - st.length) (skp s) ns) = _
    exact cont_err c

theorem fin_close {b : List UInt8} {cs : List Int} {st : Stk} {s r : List UInt8} {ns : List Node} (h : skp s = 41 :: r) : finS b cs st s ns = cont st (0, r, ns ++ [⟨lbl b, cs⟩]) := by
  unfold finS
  rw [loopS, if_pos (by rw [h]; rfl), h]
  rfl

def vS (dn wants : Bool) (st : Stk) (s : List UInt8) (ns : List Node) : PS :=
  if dn = true then (0, s, ns) else if wants = true then cont st (openS (nodeS (11 - st.length)) (skp s) ns) else match st with
    | [] => nodeS 12 s ns
    | (b, cs) :: st' => finS b cs st' s ns

theorem nodeS_skp : ∀ (d : Nat) (s : List UInt8) (ns : List Node), nodeS d (skp s) ns = nodeS d s ns
  | 0, s, ns => by simp only [nodeS, skp_skp]
  | d + 1, s, ns => by simp only [nodeS, skp_skp]

theorem vS_item {st : Stk} {s : List UInt8} {ns : List Node} (h : st = [] ∨ ¬ ((skp s).head? == some 41) = true) : vS false false st s ns = cont st (nodeS (12 - st.length) (skp s) ns) := by
  unfold vS
  rw [if_neg (by decide), if_neg (by decide)]
  cases st with
  | nil => simp only [cont, List.length_nil, Nat.sub_zero]; exact (nodeS_skp 12 s ns).symm
  | cons x st =>
    obtain ⟨b, cs⟩ := x
    simp only []
    rcases h with h | h
    · cases h
    · rw [fin_item h, show 12 - ((b, cs) :: st).length = 11 - st.length by simp only [List.length_cons]; omega]

/-- after an item: its parent takes it in -/
theorem vS_after {b : List UInt8} {cs : List Int} {st : Stk} {s : List UInt8} {ns : List Node} : vS false false ((b, cs ++ [(ns.length : Int) - 1]) :: st) s ns = cont ((b, cs) :: st) (0, s, ns) := by
  unfold vS
  rw [if_neg (by decide), if_neg (by decide), cont, if_pos rfl]
  rfl

def resS (t : ByteArray) (p : PS) : SyntaxTree × Fault :=
  if p.1 ≠ 0 then (⟨[]⟩, ⟨p.1, ps t p.2.1⟩)
  else if skp p.2.1 ≠ [] then (⟨[]⟩, ⟨1, ps t (skp p.2.1)⟩)
  else if p.2.2.length > 80 then (⟨[]⟩, ⟨10, -1⟩) else (⟨p.2.2⟩, ⟨0, 0⟩)

noncomputable def outS : (SyntaxTree × Fault) ⊕ (Int × Bool × List Node) → Option (SyntaxTree × Fault) := fun r => match r with
  | .inl p => some p
  | .inr p => changeforgeref2_Parsed.j1 p.1 p.2.1 p.2.2

theorem u8_dec (c k : UInt8) : decide (((c.toNat : Nat) : Int) = ((k.toNat : Nat) : Int)) = (c == k) := by
  rw [show (c == k) = decide (c = k) from rfl]
  exact decide_eq_decide.2 ⟨fun h => UInt8.toNat_inj.1 (by omega), fun h => by rw [h]⟩

theorem u8_decN (c k : UInt8) : decide (c.toNat = k.toNat) = (c == k) := by
  rw [show (c == k) = decide (c = k) from rfl]
  exact decide_eq_decide.2 ⟨fun h => UInt8.toNat_inj.1 h, fun h => by rw [h]⟩

theorem l3_f {t : ByteArray} (ht : t.size ≤ 4096) : ∀ (s : List UInt8), Suf t s → iter (fun x => changeforgeref2_Parsed.l3 t x) (ps t s) = some (ps t (skp s))
  | [], _ => by
    refine iter_done ?_
    simp only [changeforgeref2_Parsed.l3]
    rw [ite_dec, if_neg (by rw [ps_nil]; omega)]; rfl
  | c :: r, h => by
    obtain ⟨h1, h2, h3, h4⟩ := h.at
    have e : changeforgeref2_Parsed.l3 t (ps t (c :: r)) = if blk c = true then some (Step.next (ps t r)) else some (Step.done (ps t (c :: r))) := by
      have k1 := u8_dec c 32
      have k2 := u8_dec c 9
      have k3 := u8_dec c 10
      rw [show (((32 : UInt8).toNat : Nat) : Int) = 32 from rfl] at k1
      rw [show (((9 : UInt8).toNat : Nat) : Int) = 9 from rfl] at k2
      rw [show (((10 : UInt8).toNat : Nat) : Int) = 10 from rfl] at k3
      simp only [changeforgeref2_Parsed.l3]
      rw [ite_dec, if_pos h2, h1]
      simp only [Option.bind_some, k1, k2, k3]
      rw [ck_eq (by omega) (by omega), h3]
      unfold blk
      cases a1 : (c == 32) <;> cases a2 : (c == 9) <;> cases a3 : (c == 10) <;> simp [List.contains_cons, a1, a2, a3] <;> simp_all
    have hsk : skp (c :: r) = if blk c = true then skp r else c :: r := by
      unfold skp; rw [List.dropWhile_cons]
    rw [hsk]
    cases hb : blk c with
    | true => rw [hb, if_pos rfl] at e; rw [if_pos rfl, iter_next e]; exact l3_f ht r h.tail
    | false => rw [hb, if_neg (by decide)] at e; rw [if_neg (by decide)]; exact iter_done e

theorem l2_f {t : ByteArray} (ht : t.size ≤ 4096) : ∀ (s : List UInt8), Suf t s → iter (fun x => changeforgeref2_Parsed.l2 t x) (ps t s) = some (ps t (s.dropWhile okB))
  | [], _ => by
    refine iter_done ?_
    simp only [changeforgeref2_Parsed.l2]
    rw [ite_dec, if_neg (by rw [ps_nil]; omega)]; rfl
  | c :: r, h => by
    obtain ⟨h1, h2, h3, h4⟩ := h.at
    have e : changeforgeref2_Parsed.l2 t (ps t (c :: r)) = if okB c = true then some (Step.next (ps t r)) else some (Step.done (ps t (c :: r))) := by
      simp only [changeforgeref2_Parsed.l2]
      rw [ite_dec, if_pos h2, h1]
      simp only [Option.bind_some]
      rw [ck_eq (by omega) (by omega), h3]
      unfold okB
      generalize c.toNat = n
      rw [show decide ((n : Int) > 32) = decide (33 ≤ n) from decide_eq_decide.2 (by omega), show decide ((n : Int) < 127) = decide (n ≤ 126) from decide_eq_decide.2 (by omega),
        show decide ((n : Int) = 40) = decide (n = 40) from decide_eq_decide.2 (by omega), show decide ((n : Int) = 41) = decide (n = 41) from decide_eq_decide.2 (by omega)]
      cases decide (33 ≤ n) <;> cases decide (n ≤ 126) <;> cases decide (n = 40) <;> cases decide (n = 41) <;> rfl
    rw [List.dropWhile_cons]
    cases hb : okB c with
    | true => rw [hb, if_pos rfl] at e; rw [if_pos rfl, iter_next e]; exact l2_f ht r h.tail
    | false => rw [hb, if_neg (by decide)] at e; rw [if_neg (by decide)]; exact iter_done e

theorem At_f (c i : Int) : changeforgeref1_At c i = some ⟨c, i⟩ := rfl

theorem cut_front {α : Type} (p : List α) (x : α) : cut? (p ++ [x]) 0 ((p.length : Nat) : Int) = some p := by
  rw [cut_eq (by omega) (by omega) (by simp; omega)]
  simp

theorem at_last {α : Type} (p : List α) (x : α) : at? (p ++ [x]) ((p.length : Nat) : Int) = some x := at_mid rfl

/-- what the walk holds true at the head of a round -/
structure InvP (t : ByteArray) (dn wants : Bool) (st : Stk) (s : List UInt8) (ns : List Node) : Prop where
  suf : Suf t s
  len : ns.length + s.length ≤ 5000
  dep : st.length ≤ 12
  wnt : wants = true → st.length ≤ 11
  kid : ∀ p ∈ st, p.2.length + s.length ≤ 5000

abbrev ST := Int × Bool × Bool × (List (List Int)) × (List ByteArray) × (List Node)
noncomputable def rnd (t : ByteArray) : ST → Option (Step ST ((SyntaxTree × Fault) ⊕ (Int × Bool × (List Node)))) := fun s => changeforgeref2_Parsed.l1 t s.1 s.2.1 s.2.2.1 s.2.2.2.1 s.2.2.2.2.1 s.2.2.2.2.2
abbrev stt (t : ByteArray) (dn wants : Bool) (st : Stk) (s : List UInt8) (ns : List Node) : ST := (ps t s, wants, dn, stK st, stL st, ns)

theorem run_f {t : ByteArray} (ht : t.size ≤ 4096) : ∀ (m : Nat) (dn wants : Bool) (st : Stk) (s : List UInt8) (ns : List Node), s.length < m → InvP t dn wants st s ns →
    (iter (rnd t) (stt t dn wants st s ns)).bind outS = some (resS t (vS dn wants st s ns))
  | 0, _, _, _, _, _, h, _ => absurd h (by omega)
  | m + 1, dn, wants, st, s, ns, hm, hI => by
    obtain ⟨hs, hlen, hdep, hwnt, hkid⟩ := hI
    have hs2 : Suf t (skp s) := hs.trans (skp_suf s)
    have hle := skp_le s
    have hsl := hs.le
    have e1 : rnd t (stt t dn wants st s ns) = changeforgeref2_Parsed.j3 t wants dn (stK st) (stL st) ns (ps t (skp s)) := by
      simp only [rnd, changeforgeref2_Parsed.l1]
      rw [l3_f ht s hs, Option.bind_some]
    have stop : ∀ {r : (SyntaxTree × Fault) ⊕ (Int × Bool × (List Node))} {R : SyntaxTree × Fault}, changeforgeref2_Parsed.j3 t wants dn (stK st) (stL st) ns (ps t (skp s)) = some (Step.done r) → outS r = some R → (iter (rnd t) (stt t dn wants st s ns)).bind outS = some R := by
      intro r R h1 h2
      rw [iter_done (e1.trans h1), Option.bind_some, h2]
    have next : ∀ {dn' wants' : Bool} {st' : Stk} {s' : List UInt8} {ns' : List Node}, changeforgeref2_Parsed.j3 t wants dn (stK st) (stL st) ns (ps t (skp s)) = some (Step.next (stt t dn' wants' st' s' ns')) → s'.length < s.length → InvP t dn' wants' st' s' ns' → vS dn wants st s ns = vS dn' wants' st' s' ns' →
        (iter (rnd t) (stt t dn wants st s ns)).bind outS = some (resS t (vS dn wants st s ns)) := by
      intro dn' wants' st' s' ns' h1 h2 h3 h4
      rw [iter_next (e1.trans h1), h4]
      exact run_f ht m dn' wants' st' s' ns' (by omega) h3
    -- a fault at the next byte
    have flt : ∀ {k : Int}, k ≠ 0 → vS dn wants st s ns = (k, skp s, ns) → changeforgeref2_Parsed.j3 t wants dn (stK st) (stL st) ns (ps t (skp s)) = some (Step.done (.inl (⟨[]⟩, ⟨k, ps t (skp s)⟩))) → (iter (rnd t) (stt t dn wants st s ns)).bind outS = some (resS t (vS dn wants st s ns)) := by
      intro k hk h1 h2
      rw [h1]
      refine stop h2 ?_
      unfold resS
      rw [if_pos hk]; rfl
    -- where no item begins
    have item : ∀ {q : List UInt8}, skp s = q → dn = false → (∀ c, q.head? = some c → okB c = false ∧ c ≠ 40 ∧ (c = 41 → st = [] ∨ wants = true)) → vS dn wants st s ns = (1, skp s, ns) := by
      intro q hq hd hc
      subst hq
      subst hd
      have ht0 : (skp s).takeWhile okB = [] := by
        cases hh : skp s with
        | nil => rfl
        | cons c r => rw [List.takeWhile_cons, (hc c (by rw [hh]; rfl)).1]; rfl
      have hne : ¬ ((skp s).head? == some 40) = true := by
        cases hh : skp s with
        | nil => simp
        | cons c r => have := (hc c (by rw [hh]; rfl)).2.1; simpa using this
      have hlf : leafS (skp s) ns = (1, skp s, ns) := by unfold leafS; rw [ht0]; rfl
      have hnd : ∀ d, nodeS d (skp s) ns = (1, skp s, ns) := by
        intro d
        cases d with
        | zero =>
          rw [nodeS, skp_skp, if_neg, hlf]
          cases hh : skp s with
          | nil => simp [isStart]
          | cons c r =>
            have := hc c (by rw [hh]; rfl)
            simp [isStart, this.1, this.2.1]
        | succ d => rw [nodeS, skp_skp, if_neg hne, hlf]
      cases wants with
      | true =>
        unfold vS
        rw [if_neg (by decide), if_pos rfl]
        have : openS (nodeS (11 - st.length)) (skp s) ns = (1, skp s, ns) := by unfold openS; rw [ht0]; rfl
        rw [this]
        exact cont_err (by simp)
      | false =>
        rw [vS_item, hnd]
        · exact cont_err (by simp)
        · cases hst : st with
          | nil => exact .inl rfl
          | cons x y =>
            right
            cases hh : skp s with
            | nil => simp
            | cons c r =>
              intro h41
              have h41' : c = 41 := by simpa using h41
              rcases (hc c (by rw [hh]; rfl)).2.2 h41' with h | h
              · rw [hst] at h; cases h
              · cases h
    cases hq : skp s with
    | nil =>
      rw [hq] at e1 stop next flt
      cases dn with
      | true =>
        refine stop (r := .inr (ps t [], true, ns)) ?_ ?_
        · unfold changeforgeref2_Parsed.j3
          rw [ite_dec, if_pos (ps_nil t)]
        · unfold vS resS
          rw [if_pos rfl]
          simp only [outS, changeforgeref2_Parsed.j1]
          rw [hq]
          simp only [ne_eq, not_true_eq_false, if_false, Bool.not_true, Bool.false_eq_true, ite_dec]
          by_cases c1 : ns.length > 80
          · rw [if_pos (by omega), if_pos c1]; rfl
          · rw [if_neg (by omega), if_neg c1]
      | false =>
        have hv := item hq rfl (fun c h => by cases h)
        rw [hv]
        refine stop (r := .inr (ps t [], false, ns)) ?_ ?_
        · unfold changeforgeref2_Parsed.j3
          rw [ite_dec, if_pos (ps_nil t)]
        · simp only [outS, changeforgeref2_Parsed.j1, resS]
          rw [hq]; rfl
    | cons c r =>
      rw [hq] at e1 stop next flt hs2 hle
      obtain ⟨h1, h2, h3, h4⟩ := hs2.at
      have hs3 := hs2.tail
      simp only [List.length_cons] at hle
      have hl2 := hs2.le
      simp only [List.length_cons] at hl2
      have hp : ps t (c :: r) ≤ 4096 := by unfold ps; simp only [List.length_cons]; omega
      have hne : ¬ ps t (c :: r) = (t.size : Int) := by omega
      cases dn with
      | true =>
        refine stop (r := .inl (⟨[]⟩, ⟨1, ps t (c :: r)⟩)) ?_ ?_
        · unfold changeforgeref2_Parsed.j3
          rw [ite_dec, if_neg hne, if_pos rfl, At_f, Option.bind_some]
        · unfold vS resS
          rw [if_pos rfl]
          simp only []
          rw [hq, if_neg (by simp), if_pos (by simp)]; rfl
      | false =>
        obtain ⟨X, hX⟩ : ∃ X, X = changeforgeref2_Parsed.j3 t wants false (stK st) (stL st) ns (ps t (c :: r)) := ⟨_, rfl⟩
        rw [← hX] at stop next flt
        have e2 := hX
        clear hX
        unfold changeforgeref2_Parsed.j3 at e2
        rw [ite_dec, if_neg hne, if_neg (by decide), h1, Option.bind_some] at e2
        have k41 := u8_dec c 41
        have k40 := u8_dec c 40
        rw [show (((41 : UInt8).toNat : Nat) : Int) = 41 from rfl] at k41
        rw [show (((40 : UInt8).toNat : Nat) : Int) = 40 from rfl] at k40
        simp only [k41, k40, Option.bind_some] at e2
        by_cases c41 : c = 41
        · -- a node is closed
          subst c41
          rw [if_pos (by decide)] at e2
          cases st with
          | nil =>
            have ee : (if wants = true then some true else some (decide (((stL []).length : Int) = 0))) = some true := by cases wants <;> rfl
            rw [ee, Option.bind_some, if_pos rfl, At_f, Option.bind_some] at e2
            have hv := item hq rfl (fun c h => by cases h; exact ⟨by decide, by decide, fun _ => .inl rfl⟩)
            rw [hq] at hv
            exact flt (by decide) hv e2
          | cons x st =>
            obtain ⟨b, cs⟩ := x
            cases wants with
            | true =>
              rw [if_pos rfl, Option.bind_some, if_pos rfl, At_f, Option.bind_some] at e2
              have hv := item hq rfl (fun c h => by cases h; exact ⟨by decide, by decide, fun _ => .inr rfl⟩)
              rw [hq] at hv
              exact flt (by decide) hv e2
            | false =>
              have hd2 : st.length + 1 ≤ 12 := hdep
              have hL := stL_len st
              have hK := stK_len st
              have ee : decide (((stL ((b, cs) :: st)).length : Int) = 0) = false := decide_eq_false (by rw [stL_len]; simp only [List.length_cons]; omega)
              have hc1 : ((stL ((b, cs) :: st)).length : Int) - 1 = ((stL st).length : Nat) := by rw [stL_len, hL]; simp only [List.length_cons]; omega
              rw [if_neg (by decide), ee, Option.bind_some, if_neg (by decide), ck_eq (by omega) (by omega), Option.bind_some, hc1, ck_eq (by omega) (by omega), Option.bind_some, stL_cons, at_last, Option.bind_some, stK_cons, hL, ← hK, at_last, Option.bind_some,
                app_eq (by simp only [List.length_singleton]; omega), Option.bind_some, hK, ← hL, cut_front, Option.bind_some, hL, ← hK, cut_front, Option.bind_some, h3, ite_dec] at e2
              have hcl : vS false false ((b, cs) :: st) s ns = cont st (0, r, ns ++ [⟨lbl b, cs⟩]) := by
                unfold vS
                rw [if_neg (by decide), if_neg (by decide)]
                exact fin_close hq
              cases st with
              | nil =>
                rw [if_pos (by rfl)] at e2
                refine next (dn' := true) (wants' := false) (st' := []) (s' := r) (ns' := ns ++ [(⟨lbl b, cs⟩ : Node)]) e2 (by omega) ⟨hs3, by simp; omega, by simp, (fun h => by cases h), (fun p h => by cases h)⟩ ?_
                rw [hcl]; rfl
              | cons y st =>
                obtain ⟨b2, cs2⟩ := y
                have hk2 := hkid (b2, cs2) (by simp)
                simp only at hk2
                have hK2 := stK_len st
                rw [if_neg (by rw [hK]; simp only [List.length_cons]; omega)] at e2
                have hc2 : ((stK ((b2, cs2) :: st)).length : Int) - 1 = ((stK st).length : Nat) := by rw [hK, hK2]; simp only [List.length_cons]; omega
                simp only [List.length_cons] at hd2
                rw [hc2, ck_eq (by omega) (by omega), Option.bind_some, stK_cons, at_last, Option.bind_some, ck_eq (by simp only [List.length_append, List.length_singleton]; omega) (by simp only [List.length_append, List.length_singleton]; omega), Option.bind_some,
                  app_eq (by simp only [List.length_singleton]; omega), Option.bind_some, set_mid rfl] at e2
                refine next (dn' := false) (wants' := false) (st' := (b2, cs2 ++ [(((ns ++ [(⟨lbl b, cs⟩ : Node)]).length : Nat) : Int) - 1]) :: st) (s' := r) (ns' := ns ++ [(⟨lbl b, cs⟩ : Node)]) ?_ (by omega)
                  ⟨hs3, by simp; omega, by simp only [List.length_cons]; omega, (fun h => by cases h), fun p h => ?_⟩ ?_
                · simp only [stt]; rw [stL_cons, stK_cons]
                  rw [stL_cons] at e2
                  exact e2
                · simp only [List.mem_cons] at h
                  rcases h with rfl | h
                  · simp only [List.length_append, List.length_singleton]; omega
                  · have := hkid p (by simp [h]); omega
                · rw [hcl, vS_after]
        · have n41 : (c == 41) = false := by simpa using c41
          rw [n41, if_neg (by decide)] at e2
          have h41 : ¬ ((skp s).head? == some 41) = true := by rw [hq]; simpa using c41
          -- the test of the byte
          have e3 : (if (!(c == 40)) = true then (if decide (((c.toNat : Nat) : Int) < 33) = true then some true else some (decide (((c.toNat : Nat) : Int) > 126))).bind fun x22 => some x22 else some false) = some (!(c == 40) && !okB c) := by
            have k1 : okB c = (decide (33 ≤ c.toNat) && decide (c.toNat ≤ 126) && !(c == 40) && !(c == 41)) := by
              unfold okB
              rw [← u8_decN c 40, ← u8_decN c 41]
              rfl
            rw [k1, n41]
            rw [show decide (((c.toNat : Nat) : Int) < 33) = !decide (33 ≤ c.toNat) from by rw [← decide_not]; exact decide_eq_decide.2 (by omega), show decide (((c.toNat : Nat) : Int) > 126) = !decide (c.toNat ≤ 126) from by rw [← decide_not]; exact decide_eq_decide.2 (by omega)]
            cases (c == 40) <;> cases decide (33 ≤ c.toNat) <;> cases decide (c.toNat ≤ 126) <;> rfl
          rw [e3, Option.bind_some] at e2
          by_cases c40 : c = 40
          · -- a node is opened
            subst c40
            rw [if_neg (by decide), if_pos (by decide)] at e2
            cases wants with
            | true =>
              rw [if_pos rfl, At_f, Option.bind_some] at e2
              refine flt (k := 1) (by decide) ?_ e2
              unfold vS
              rw [if_neg (by decide), if_pos rfl, hq]
              exact cont_err (p := (1, 40 :: r, ns)) (by simp)
            | false =>
              rw [if_neg (by decide), ite_dec, stL_len] at e2
              have hv := vS_item (st := st) (s := s) (ns := ns) (.inr h41)
              rw [hq] at hv
              by_cases c12 : st.length = 12
              · rw [if_pos (by omega), At_f, Option.bind_some] at e2
                refine flt (k := 10) (by decide) ?_ e2
                rw [hv, c12]
                exact cont_err (p := (10, 40 :: r, ns)) (by simp)
              · rw [if_neg (by omega), ck_eq (by omega) (by omega), Option.bind_some, h3] at e2
                refine next (dn' := false) (wants' := true) (st' := st) (s' := r) (ns' := ns) e2 (by omega) ⟨hs3, by omega, hdep, fun _ => by omega, fun p h => by have := hkid p h; omega⟩ ?_
                rw [hv, show 12 - st.length = (11 - st.length) + 1 by omega]
                rw [nodeS, show skp (40 :: r) = 40 :: r from rfl, if_pos (by rfl)]
                unfold vS
                rw [if_neg (by decide), if_pos rfl]
                rfl
          · have n40 : (c == 40) = false := by simpa using c40
            rw [n40] at e2
            simp only [Bool.not_false, Bool.true_and] at e2
            cases hok : okB c with
            | false =>
              rw [hok, if_pos (by decide), At_f, Option.bind_some] at e2
              have hv := item hq rfl (fun d h => by cases h; exact ⟨hok, c40, fun h => absurd h c41⟩)
              rw [hq] at hv
              exact flt (by decide) hv e2
            | true =>
              rw [hok, if_neg (by decide), if_neg (by decide)] at e2
              have hst : isStart (c :: r) = true := by simp [isStart, hok]
              have hn40 : ¬ ((c :: r).head? == some 40) = true := by simpa using c40
              -- the label
              have hlb := l2_f ht (c :: r) hs2
              have htk := tk_dr (c :: r)
              have hx : ps t ((c :: r).dropWhile okB) - ps t (c :: r) = ((c :: r).takeWhile okB).length := by unfold ps; omega
              have hpos : 1 ≤ ((c :: r).takeWhile okB).length := by rw [List.takeWhile_cons, hok]; simp
              have hskc : skp (c :: r) = c :: r := by rw [← hq, skp_skp]
              have hs5 : Suf t ((c :: r).dropWhile okB) := hs2.trans (List.dropWhile_suffix _)
              have hcut : scut? t (ps t (c :: r)) (ps t ((c :: r).dropWhile okB)) = some (lbl ((c :: r).takeWhile okB)) := by
                have := ext_f (t := t) (a := (c :: r).takeWhile okB) (r := (c :: r).dropWhile okB) (by rw [List.takeWhile_append_dropWhile]; exact hs2)
                rwa [List.takeWhile_append_dropWhile] at this
              have hokA : okA ((c :: r).takeWhile okB) = decide (((c :: r).takeWhile okB).length ≤ 20) := by
                unfold okA
                cases hh : (c :: r).takeWhile okB with
                | nil => rw [hh] at hpos; simp at hpos
                | cons a b => rfl
              simp only [List.length_cons] at htk
              generalize hA : (c :: r).takeWhile okB = A at hx hpos hcut hokA htk
              generalize hD : (c :: r).dropWhile okB = D at hx hs5 hcut hlb htk
              have hlf : leafS (c :: r) ns = if okA A = true then (0, D, ns ++ [⟨lbl A, []⟩]) else (1, c :: r, ns) := by
                unfold leafS; rw [hA, hD]
              have hop : ∀ rec, openS rec (c :: r) ns = if okA A = true then closeS A (loopS rec ((c :: r).length + 1) [] D ns) else (1, c :: r, ns) := by
                intro rec; unfold openS; rw [hA, hD]
              have j5e : changeforgeref2_Parsed.j5 t wants false (stK st) (stL st) ns (ps t (c :: r)) (ps t D) = changeforgeref2_Parsed.j5 t wants false (stK st) (stL st) ns (ps t (c :: r)) (ps t D) := rfl
              conv at j5e => rhs; unfold changeforgeref2_Parsed.j5
              rw [hx, ck_eq (by omega) (by omega), Option.bind_some, ite_dec, hcut] at j5e
              simp only [Option.bind_some] at j5e
              have hD5 := hs5.le
              cases wants with
              | true =>
                have hw := hwnt rfl
                rw [if_neg (by decide), Option.bind_some, if_neg (by decide), hlb, Option.bind_some, j5e] at e2
                have hv : vS false true st s ns = cont st (openS (nodeS (11 - st.length)) (c :: r) ns) := by
                  unfold vS; rw [if_neg (by decide), if_pos rfl, hq]
                rw [hop] at hv
                by_cases c20 : A.length ≤ 20
                · rw [if_neg (by omega), if_pos rfl, app_eq (by simp only [List.length_singleton]; rw [stL_len]; omega), Option.bind_some, app_eq (by simp only [List.length_singleton]; rw [stK_len]; omega), Option.bind_some] at e2
                  rw [hokA, if_pos (by simpa using c20)] at hv
                  refine next (dn' := false) (wants' := false) (st' := (A, []) :: st) (s' := D) (ns' := ns) ?_ (by omega) ⟨hs5, by omega, by simp only [List.length_cons]; omega, (fun h => by cases h), fun p h => ?_⟩ ?_
                  · simp only [stt, stL_cons, stK_cons]; exact e2
                  · simp only [List.mem_cons] at h
                    rcases h with rfl | h
                    · simp only [List.length_nil]; omega
                    · have := hkid p h; omega
                  · rw [hv]
                    unfold vS
                    rw [if_neg (by decide), if_neg (by decide)]
                    simp only [finS]
                    rw [loop_fuel (node_les _) ((c :: r).length + 1) (D.length + 1) _ _ _ (by simp only [List.length_cons]; omega) (by omega)]
                · rw [if_pos (by omega), At_f, Option.bind_some] at e2
                  rw [hokA, if_neg (by simpa using c20)] at hv
                  exact flt (k := 1) (by decide) (hv.trans (cont_err (by simp))) e2
              | false =>
                have hv := vS_item (st := st) (s := s) (ns := ns) (.inr h41)
                rw [hq] at hv
                by_cases c12 : st.length = 12
                · have ee : (if (!false) = true then some (decide (((stL st).length : Int) ≥ 12)) else some false) = some true := by rw [stL_len, c12]; rfl
                  rw [ee, Option.bind_some, if_pos rfl, At_f, Option.bind_some] at e2
                  refine flt (k := 10) (by decide) ?_ e2
                  rw [hv, c12]
                  have : nodeS (12 - 12) (c :: r) ns = (10, c :: r, ns) := by
                    show nodeS 0 (c :: r) ns = _
                    rw [nodeS, hskc, if_pos hst]
                  rw [this]
                  exact cont_err (by simp)
                · have ee : (if (!false) = true then some (decide (((stL st).length : Int) ≥ 12)) else some false) = some false := by
                    rw [if_pos (by decide), stL_len]; congr 1; exact decide_eq_false (by omega)
                  rw [ee, Option.bind_some, if_neg (by decide), hlb, Option.bind_some, j5e] at e2
                  have hnd : nodeS (12 - st.length) (c :: r) ns = leafS (c :: r) ns := by
                    rw [show 12 - st.length = (11 - st.length) + 1 by omega, nodeS, hskc, if_neg hn40]
                  rw [hnd, hlf] at hv
                  by_cases c20 : A.length ≤ 20
                  · rw [hokA, if_pos (by simpa using c20)] at hv
                    rw [if_neg (by omega), if_neg (by decide), app_eq (by simp only [List.length_singleton]; omega), Option.bind_some, ite_dec, stL_len] at e2
                    cases st with
                    | nil =>
                      rw [if_pos (by rfl)] at e2
                      refine next (dn' := true) (wants' := false) (st' := []) (s' := D) (ns' := ns ++ [(⟨lbl A, []⟩ : Node)]) e2 (by omega) ⟨hs5, by simp; omega, by simp, (fun h => by cases h), (fun p h => by cases h)⟩ ?_
                      rw [hv]; rfl
                    | cons y st =>
                      obtain ⟨b2, cs2⟩ := y
                      have hk2 := hkid (b2, cs2) (by simp)
                      simp only at hk2
                      have hK2 := stK_len st
                      simp only [List.length_cons] at hdep
                      have hc2 : ((((b2, cs2) :: st).length : Nat) : Int) - 1 = ((stK st).length : Nat) := by rw [hK2]; simp only [List.length_cons]; omega
                      rw [if_neg (by simp only [List.length_cons]; omega), hc2, ck_eq (by omega) (by omega), Option.bind_some, stK_cons, at_last, Option.bind_some, ck_eq (by simp only [List.length_append, List.length_singleton]; omega) (by simp only [List.length_append, List.length_singleton]; omega), Option.bind_some,
                        app_eq (by simp only [List.length_singleton]; omega), Option.bind_some, set_mid rfl] at e2
                      refine next (dn' := false) (wants' := false) (st' := (b2, cs2 ++ [(((ns ++ [(⟨lbl A, []⟩ : Node)]).length : Nat) : Int) - 1]) :: st) (s' := D) (ns' := ns ++ [(⟨lbl A, []⟩ : Node)]) ?_ (by omega)
                        ⟨hs5, by simp; omega, by simp only [List.length_cons]; omega, (fun h => by cases h), fun p h => ?_⟩ ?_
                      · simp only [stt, stK_cons, stL_cons]; rw [stL_cons] at e2; exact e2
                      · simp only [List.mem_cons] at h
                        rcases h with rfl | h
                        · simp only [List.length_append, List.length_singleton]; omega
                        · have := hkid p (by simp [h]); omega
                      · rw [hv, vS_after]
                  · rw [if_pos (by omega), At_f, Option.bind_some] at e2
                    rw [hokA, if_neg (by simpa using c20)] at hv
                    exact flt (k := 1) (by decide) (hv.trans (cont_err (by simp))) e2

theorem Parsed_f (t : ByteArray) : changeforgeref2_Parsed t = some (parseS t) := by
  unfold changeforgeref2_Parsed
  rw [ite_dec]
  by_cases c : t.size > 4096
  · rw [if_pos (by omega), At_f, Option.bind_some]
    unfold parseS
    rw [if_pos c]
  · rw [if_neg (by omega)]
    have hs : Suf t (bts t) := List.suffix_refl _
    have hl := bts_len t
    have h := run_f (t := t) (by omega) ((bts t).length + 1) false false [] (bts t) [] (by omega) ⟨hs, by simp; omega, by simp, (fun h => by simp), (fun p h => by cases h)⟩
    have hz : ps t (bts t) = 0 := by unfold ps; omega
    have e : stt t false false [] (bts t) [] = (0, false, false, [], [], []) := by unfold stt; rw [hz]; rfl
    rw [e] at h
    refine Eq.trans (b := (iter (rnd t) (0, false, false, [], [], [])).bind outS) rfl (h.trans ?_)
    unfold parseS resS
    rw [if_neg c]
    rfl

theorem parse_eqS (t : ByteArray) : changeforgeequal_Syntax (parseS t).1 (parseS t).1 = some true := by
  by_cases c : (parseS t).2.Code = 0
  · obtain ⟨l, cs, hI⟩ := parse_tree c
    exact hI.eqS
  · have : (parseS t).1 = ⟨[]⟩ := by
      unfold parseS at c ⊢
      split
      · rfl
      · rename_i h1
        rw [if_neg h1] at c
        split
        · rfl
        · rename_i h2
          rw [if_neg h2] at c
          split
          · rfl
          · rename_i h3
            rw [if_neg h3] at c
            split
            · rfl
            · rename_i h4
              rw [if_neg h4] at c
              exact absurd rfl c
    rw [this]
    exact eqS_refl _ (by simp) (fun n h => by cases h)

theorem syntax_matches (t : SyntaxTree) (text : ByteArray) (hb : OkN t.Nodes) : changeforgelaw2_SyntaxMatchesSpec t text = some true := by
  unfold changeforgelaw2_SyntaxMatchesSpec
  rw [Parse_f, Option.bind_some, Parsed_f, Option.bind_some]
  rcases synF_ok t with ⟨h1, _⟩ | ⟨h1, l, cs, hI⟩
  · rw [Print_no hb h1, Option.bind_some, SyntaxFault_f t hb, Option.bind_some, Validate_f t hb, Option.bind_some, parse_eqS]
    have h1' : decide ((synF t).Code = 0) = false := decide_eq_false h1
    simp [h1', parsed_eq]
  · rw [Print_ok hb hI, Option.bind_some, SyntaxFault_f t hb, Option.bind_some, Validate_f t hb, Option.bind_some, parse_eqS, h1]
    have hl := hI.len
    have hA : At t.Nodes 0 (Fo.tr l cs) := by rw [hI.1]; exact At.self _
    have hP := Printed_f (t := t) (by have := hI.2.2; omega) hA hI.2.1.1
    have hz : (t.Nodes.length : Int) - 1 = ((0 + Fo.sz cs : Nat) : Int) := by rw [hl]; omega
    have h80 := hI.2.2
    rw [hz, ck_eq (by omega) (by omega)]
    simp only [Option.bind_some]
    rw [hP]
    simp [parsed_eq]
end Go.Dc
