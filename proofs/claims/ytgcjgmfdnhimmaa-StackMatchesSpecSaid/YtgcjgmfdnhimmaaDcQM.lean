/- Composing two patches: the answer, and what the composed patch does. -/
import Derived.Test.YtgcjgmfdnhimmaaDcQL
set_option linter.unusedSimpArgs false
set_option linter.unusedVariables false
namespace Go.Dc
open Go

theorem cost_krun : ∀ (n : Nat) (p : List ByteArray), cost (krun n p) ≤ 2 * n + p.length
  | 0, p => by simp [krun, cost]
  | n + 1, p => by
    have := cost_krun n []
    rw [krun, cost]
    simp only [kept, List.length_nil] at this ⊢
    omega
theorem cost_irun : ∀ (l p : List ByteArray), cost (irun l p) ≤ 2 * l.length + p.length
  | [], p => by simp [irun, cost]
  | x :: l, p => by
    have := cost_irun l []
    rw [irun, cost, List.length_cons]
    simp only [List.length_nil] at this ⊢
    omega

theorem mids_cost : ∀ (l : List Hunk) (e : Nat) (pend : List ByteArray) (e' : Int), Good e' l → (e : Int) ≤ e' + 1 → (pend = [] ∨ (e : Int) ≤ e') → pend.length ≤ 120 → cost (mids 480 e l pend) ≤ 1080 + l.length * 800 ∧ 480 ≤ (mids 480 e l pend).length
  | [], e, pend, e', _, _, _, hp => by
    have := cost_krun 480 pend
    rw [mids, krun_len]
    exact ⟨by omega, Nat.le_refl _⟩
  | h :: r, e, pend, e', hg, he, hpe, hp => by
    obtain ⟨hc, hg'⟩ := hg
    obtain ⟨z1, z2, z3, z4, z5, z6⟩ := hcode_zero hc
    have l1 := textFault_len z2
    have l2 := textFault_len z3
    obtain ⟨pk1, pk2⟩ := pend_len h (h.At.toNat - e) pend hp l1 (fun h0 => by
      rcases hpe with hp | hp
      · exact hp
      · omega)
    obtain ⟨i1, i2⟩ := mids_cost r (h.At.toNat + h.Old.length) (ipend h.New (kpend (h.At.toNat - e) pend ++ h.Old)) (h.At + h.Old.length) hg' (by omega) (Or.inr (by omega)) pk2
    rw [mids, cost_append, cost_append, List.length_append, List.length_append, List.length_cons]
    have c1 := cost_krun (h.At.toNat - e) pend
    have c2 := cost_irun h.New (kpend (h.At.toNat - e) pend ++ h.Old)
    rw [List.length_append, pk1, List.length_nil] at c2
    rw [pk1] at i1 i2 ⊢
    exact ⟨by omega, by omega⟩

/-! ## the check -/
def badL : List Mid → List ByteArray → Bool
  | m :: ms, x :: xs => (m.inserted && !decide (m.line = x)) || badL ms xs
  | _, _ => false
def cscan (M : List Mid) : Int → List Hunk → Option Fault
  | _, [] => Option.none
  | i, h :: r => if badL (M.drop h.At.toNat) h.Old = true then some ⟨19, -3 - i⟩ else cscan M (i + 1) r
theorem cscan_code (M : List Mid) : ∀ (l : List Hunk) (i : Int) (f : Fault), cscan M i l = some f → f.Code = 19
  | [], _, _, h => by cases h
  | x :: r, i, f, h => by
    rw [cscan] at h
    split at h
    · cases h; rfl
    · exact cscan_code M r _ f h

def compM (p : Patch) : List Mid := mids 480 0 p.Hunks []
def compR (p q : Patch) : Patch := ⟨(wlk 0 q.Hunks (compM p) ⟨[], 0, [], []⟩).fl⟩
def composeF (p q : Patch) : Patch × Fault :=
  if (pairF p q).Code ≠ 0 then (⟨[]⟩, pairF p q) else
  match cscan (compM p) 0 q.Hunks with
  | some f => (⟨[]⟩, f)
  | Option.none => if (patchFault (compR p q)).Code ≠ 0 then (⟨[]⟩, ⟨10, -1⟩) else (compR p q, ⟨0, 0⟩)

theorem compose_f (p q : Patch) : textpatch_Compose p q = some (composeF p q) := by
  have hb : textpatch_Compose p q = (commute_both p q).bind fun f => if !(decide (f.Code = 0) && decide (f.Index = 0)) then some (({ Hunks := [] } : Patch), f) else (textpatch_midway p).bind fun y3 => (iter (fun s => textpatch_Compose.l1 q y3 s) 0).bind fun r1 => (match r1 with | .inl p => some p | .inr _ => textpatch_Compose.j1 q y3) := by
    unfold textpatch_Compose commute_both
    rw [pvalidate_f, Option.bind_some, Option.bind_some, fless (patchFault_ok p), ite_dec, ite_dec]
    by_cases h : (patchFault p).Code ≠ 0
    · rw [if_pos h, if_pos h, Option.bind_some, fless (patchFault_ok p), ite_dec, if_pos h]
    · rw [if_neg h, if_neg h, psecond_f, Option.bind_some, Option.bind_some, Option.bind_some]; rfl
  rw [hb, pboth_f, Option.bind_some, fless (pairF_ok p q), ite_dec]
  unfold composeF
  by_cases h0 : (pairF p q).Code ≠ 0
  · rw [if_pos h0, if_pos h0]
  · rw [if_neg h0, if_neg h0]
    obtain ⟨hp, hq⟩ := pairF_zero (p := p) (q := q) (by omega)
    obtain ⟨n1, g1⟩ := (patchFault_good p).1 hp
    obtain ⟨n2, g2⟩ := (patchFault_good q).1 hq
    obtain ⟨m1, m2⟩ := mids_cost p.Hunks 0 [] (-1) g1 (by omega) (Or.inl rfl) (by simp)
    have m1 : cost (compM p) ≤ 200000 := by unfold compM; omega
    have m2 : 480 ≤ (compM p).length := m2
    rw [midway_f p n1 g1, Option.bind_some]
    show ((iter (fun s => textpatch_Compose.l1 q (compM p) s) 0).bind fun r1 => (match r1 with | .inl p => some p | .inr _ => textpatch_Compose.j1 q (compM p))) = _
    have inner : ∀ (h : Hunk) (i : Nat), 0 ≤ h.At → h.At + h.Old.length ≤ 120 → i ≤ 1000 → ∀ (rest : List ByteArray) (k : Nat), h.Old.drop k = rest → iter (fun s => textpatch_Compose.l2 (compM p) (i : Int) h s) (k : Int) = some (if badL ((compM p).drop (h.At.toNat + k)) rest = true then .inl (⟨[]⟩, ⟨19, -3 - (i : Int)⟩) else .inr ()) := by
      intro h i a1 a2 hi rest
      induction rest with
      | nil =>
        intro k hk
        have := drop_end hk
        refine iter_done ?_
        unfold textpatch_Compose.l2
        rw [ite_dec, if_neg (by omega), show badL ((compM p).drop (h.At.toNat + k)) [] = false by cases (compM p).drop (h.At.toNat + k) <;> rfl]; rfl
      | cons x r ih =>
        intro k hk
        obtain ⟨hlt, hh, hr⟩ := drop_at hk
        have hm : h.At.toNat + k < (compM p).length := by omega
        rw [List.drop_eq_getElem_cons hm, badL]
        have e0 : textpatch_Compose.l2 (compM p) (i : Int) h (k : Int) = some (if ((compM p)[h.At.toNat + k].inserted && !decide ((compM p)[h.At.toNat + k].line = x)) = true then .done (.inl (⟨[]⟩, ⟨19, -3 - (i : Int)⟩)) else .next ((k + 1 : Nat) : Int)) := by
          unfold textpatch_Compose.l2
          rw [ite_dec, if_pos (by omega), at_nat hlt, Option.bind_some, hh, ck_eq (by omega) (by omega), Option.bind_some, show h.At + (k : Int) = ((h.At.toNat + k : Nat) : Int) by omega, at_nat hm, Option.bind_some]
          have : (if (compM p)[h.At.toNat + k].inserted = true then some (!decide ((compM p)[h.At.toNat + k].line = x)) else some false) = some ((compM p)[h.At.toNat + k].inserted && !decide ((compM p)[h.At.toNat + k].line = x)) := by
            cases (compM p)[h.At.toNat + k].inserted <;> rfl
          rw [this, Option.bind_some]
          split
          · rw [ck_eq (by omega) (by omega)]; rfl
          · rw [ck_eq (by omega) (by omega)]; rfl
        cases hc : ((compM p)[h.At.toNat + k].inserted && !decide ((compM p)[h.At.toNat + k].line = x)) with
        | true => rw [hc] at e0; exact iter_done e0
        | false => rw [hc] at e0; rw [iter_next e0, ih (k + 1) hr]; rfl
    have key : ∀ (rest : List Hunk) (k : Nat), q.Hunks.drop k = rest → (∀ h ∈ rest, 0 ≤ h.At ∧ h.At + h.Old.length ≤ 120) → iter (fun s => textpatch_Compose.l1 q (compM p) s) (k : Int) = some (orL ((cscan (compM p) k rest).map fun f => ((⟨[]⟩ : Patch), f))) := by
      intro rest
      induction rest with
      | nil =>
        intro k hk _
        have := drop_end hk
        refine iter_done ?_
        unfold textpatch_Compose.l1
        rw [ite_dec, if_neg (by omega)]; rfl
      | cons h r ih =>
        intro k hk hall
        obtain ⟨hlt, hh, hr⟩ := drop_at hk
        obtain ⟨b1, b2⟩ := hall h (by simp)
        have i0 := inner h k b1 b2 (by omega) h.Old 0 rfl
        rw [Nat.add_zero] at i0
        rw [cscan]
        cases hc : badL ((compM p).drop h.At.toNat) h.Old with
        | true =>
          rw [hc] at i0
          rw [if_pos rfl]
          refine iter_done ?_
          unfold textpatch_Compose.l1
          rw [ite_dec, if_pos (by omega), at_nat hlt, Option.bind_some, hh, show (0 : Int) = ((0 : Nat) : Int) from rfl, i0]; rfl
        | false =>
          rw [hc] at i0
          rw [if_neg (by decide)]
          have e0 : textpatch_Compose.l1 q (compM p) (k : Int) = some (.next ((k + 1 : Nat) : Int)) := by
            unfold textpatch_Compose.l1
            rw [ite_dec, if_pos (by omega), at_nat hlt, Option.bind_some, hh, show (0 : Int) = ((0 : Nat) : Int) from rfl, i0]
            show textpatch_Compose.j3 (k : Int) = _
            unfold textpatch_Compose.j3 textpatch_Compose.j2
            rw [ck_eq (by omega) (by omega)]; rfl
          rw [iter_next e0, ih (k + 1) hr (fun x hx => hall x (List.mem_cons_of_mem _ hx))]; rfl
    have k0 := key q.Hunks 0 rfl (fun h hh => by
      obtain ⟨a, b, _⟩ := good_at g2 (by omega) h hh
      exact ⟨a, b⟩)
    rw [show ((0 : Nat) : Int) = 0 from rfl] at k0
    rw [k0, Option.bind_some]
    cases hcs : cscan (compM p) 0 q.Hunks with
    | some f => rfl
    | none =>
      simp only [Option.map_none, orL]
      unfold textpatch_Compose.j1
      rw [walk_f (compM p) (by omega) (by omega) q n2 g2, Option.bind_some]
      show ((textpatch_Made (compR p q)).bind _) = _
      rw [made_f, Option.bind_some]

/-! ## what the composed patch does -/
def Mt (T : List ByteArray) (b : Nat) (l : List ByteArray) : Prop := b + l.length ≤ T.length ∧ (T.drop b).take l.length = l
theorem mt_nil {T : List ByteArray} {b : Nat} (h : b ≤ T.length) : Mt T b [] := ⟨by simpa using h, by simp⟩
theorem mt_append {T : List ByteArray} {b : Nat} {l r : List ByteArray} (h1 : Mt T b l) (h2 : Mt T (b + l.length) r) : Mt T b (l ++ r) := by
  refine ⟨by rw [List.length_append]; have := h2.1; omega, ?_⟩
  rw [List.length_append, List.take_add, h1.2, List.drop_drop, h2.2]
theorem mt_one {T : List ByteArray} {b : Nat} (h : b < T.length) : Mt T b [T[b]] := ⟨by simp; omega, by rw [List.length_singleton, List.drop_eq_getElem_cons h, List.take_succ_cons, List.take_zero]⟩

/-- what the lines between come to, on a text -/
def Sem (T : List ByteArray) : List Mid → Nat → List ByteArray → Prop
  | [], _, _ => False
  | m :: ms, b, t => Mt T b m.before ∧ (if m.inserted = true then (∃ t', t = m.line :: t' ∧ Sem T ms (b + m.before.length) t') else
      ((∃ (h : b + m.before.length < T.length), ∃ t', t = T[b + m.before.length] :: t' ∧ Sem T ms (b + m.before.length + 1) t') ∨ (b + m.before.length = T.length ∧ t = [] ∧ ∀ x ∈ ms, x = kept [])))

theorem sem_krun (T : List ByteArray) (M : List Mid) (t : List ByteArray) : ∀ (n : Nat) (pend : List ByteArray) (b : Nat), Mt T b pend → b + pend.length + n ≤ T.length → (∀ b', Mt T b' (kpend n pend) → b' + (kpend n pend).length = b + pend.length + n → Sem T M b' t) → Sem T (krun n pend ++ M) b ((T.drop (b + pend.length)).take n ++ t)
  | 0, pend, b, hm, hl, hs => by
    rw [krun, List.nil_append, List.take_zero, List.nil_append]
    exact hs b hm rfl
  | n + 1, pend, b, hm, hl, hs => by
    have hlt : b + pend.length < T.length := by omega
    rw [krun, List.cons_append, Sem]
    refine ⟨hm, ?_⟩
    rw [if_neg (by simp [kept])]
    left
    refine ⟨hlt, (T.drop (b + pend.length + 1)).take n ++ t, ?_, ?_⟩
    · rw [List.drop_eq_getElem_cons hlt, List.take_succ_cons, List.cons_append]; rfl
    · have := sem_krun T M t n [] (b + pend.length + 1) (mt_nil (by omega)) (by simp; omega) (fun b' h1 h2 => hs b' (by
        unfold kpend at h1 ⊢; rw [if_neg (by omega)]
        split at h1 <;> exact h1) (by
        unfold kpend at h2 ⊢; rw [if_neg (by omega)]
        split at h2 <;> simp at h2 ⊢ <;> omega))
      rw [List.length_nil, Nat.add_zero] at this
      exact this

theorem sem_irun (T : List ByteArray) (M : List Mid) (t : List ByteArray) : ∀ (l pend : List ByteArray) (b : Nat), Mt T b pend → (∀ b', Mt T b' (ipend l pend) → b' + (ipend l pend).length = b + pend.length → Sem T M b' t) → Sem T (irun l pend ++ M) b (l ++ t)
  | [], pend, b, hm, hs => hs b hm rfl
  | x :: l, pend, b, hm, hs => by
    rw [irun, List.cons_append, Sem]
    refine ⟨hm, ?_⟩
    rw [if_pos rfl]
    refine ⟨l ++ t, rfl, ?_⟩
    have hb := hm.1
    exact sem_irun T M t l [] (b + pend.length) (mt_nil hb) (fun b' h1 h2 => hs b' (by
      unfold ipend at h1 ⊢; rw [if_neg (by simp)]
      split at h1 <;> exact h1) (by
      unfold ipend at h2 ⊢; rw [if_neg (by simp)]
      split at h2 <;> simp at h2 ⊢ <;> omega))

theorem sem_tail (T : List ByteArray) : ∀ (n : Nat) (pend : List ByteArray) (b : Nat), Mt T b pend → T.length < b + pend.length + n → Sem T (krun n pend) b (T.drop (b + pend.length))
  | 0, pend, b, hm, hl => by have := hm.1; omega
  | n + 1, pend, b, hm, hl => by
    rw [krun, Sem]
    refine ⟨hm, ?_⟩
    rw [if_neg (by simp [kept])]
    have hb := hm.1
    by_cases hlt : b + pend.length < T.length
    · left
      refine ⟨hlt, T.drop (b + pend.length + 1), by rw [List.drop_eq_getElem_cons hlt]; rfl, ?_⟩
      have := sem_tail T n [] (b + pend.length + 1) (mt_nil (by omega)) (by simp; omega)
      rw [List.length_nil, Nat.add_zero] at this
      exact this
    · right
      refine ⟨by show b + pend.length = T.length; omega, List.drop_of_length_le (by omega), ?_⟩
      have : ∀ n, ∀ x ∈ krun n [], x = kept [] := by
        intro n
        induction n with
        | zero => intro x hx; cases hx
        | succ n ih =>
          intro x hx
          rw [krun] at hx
          rcases List.mem_cons.1 hx with rfl | hx
          · rfl
          · exact ih x hx
      exact this n

theorem sem_mids (T : List ByteArray) (hT : T.length ≤ 120) : ∀ (l : List Hunk) (e b : Nat) (pend : List ByteArray) (e' : Int), Good e' l → (e : Int) ≤ e' + 1 → Fits T l → Mt T b pend → b + pend.length = e → Sem T (mids 480 e l pend) b (rawS l T e)
  | [], e, b, pend, e', _, _, _, hm, hb => by
    rw [mids, rawS, ← hb]
    exact sem_tail T 480 pend b hm (by omega)
  | h :: r, e, b, pend, e', hg, he, hf, hm, hb => by
    obtain ⟨hc, hg'⟩ := hg
    obtain ⟨z1, z2, z3, z4, z5, z6⟩ := hcode_zero hc
    have ho := hf h (by simp)
    have hol := occ_len ho
    rw [mids, rawS, ← hb]
    refine sem_krun T _ _ _ pend b hm (by omega) (fun b1 h1 h2 => ?_)
    refine sem_irun T _ _ _ _ b1 (mt_append h1 ?_) (fun b2 h3 h4 => ?_)
    · rw [h2, show b + pend.length + (h.At.toNat - (b + pend.length)) = h.At.toNat by omega]
      exact ⟨hol, ho.2⟩
    · rw [List.length_append] at h4
      exact sem_mids T hT r _ b2 _ (h.At + h.Old.length) hg' (by omega) (fun x hx => hf x (List.mem_cons_of_mem _ hx)) h3 (by omega)

/-- what a Collector's state does to a text so far -/
def Pst (T : List ByteArray) (s : Cs) (out : List ByteArray) (b : Nat) : Prop :=
  0 ≤ s.pos ∧ s.pos.toNat + s.pd.length = b ∧ Mt T s.pos.toNat s.pd ∧ Fits T s.hs ∧ ∃ o, out = o ++ s.pi ∧ ∀ more : List Hunk, (∀ h ∈ more, s.pos ≤ h.At) → rawS (s.hs ++ more) T 0 = o ++ rawS more T s.pos.toNat

theorem Pst.le {T out : List ByteArray} {s : Cs} {b : Nat} (h : Pst T s out b) : b ≤ T.length := by
  obtain ⟨_, h2, h3, _⟩ := h; have := h3.1; omega
theorem Pst.del {T out : List ByteArray} {s : Cs} {b : Nat} (h : Pst T s out b) {l : List ByteArray} (hm : Mt T b l) : Pst T (s.del l) out (b + l.length) := by
  obtain ⟨h1, h2, h3, h4, h5⟩ := h
  refine ⟨h1, ?_, ?_, h4, h5⟩
  · show s.pos.toNat + (s.pd ++ l).length = b + l.length
    rw [List.length_append]; omega
  · exact mt_append h3 (by show Mt T (s.pos.toNat + s.pd.length) l; rw [h2]; exact hm)
theorem Pst.ins {T out : List ByteArray} {s : Cs} {b : Nat} (h : Pst T s out b) (l : List ByteArray) : Pst T (s.ins l) (out ++ l) b := by
  obtain ⟨h1, h2, h3, h4, o, h5, h6⟩ := h
  exact ⟨h1, h2, h3, h4, o, by rw [h5, List.append_assoc]; rfl, h6⟩
theorem Pst.fl {T out : List ByteArray} {s : Cs} {b : Nat} (h : Pst T s out b) : Fits T s.fl ∧ ∀ more : List Hunk, (∀ h ∈ more, (b : Int) ≤ h.At) → rawS (s.fl ++ more) T 0 = out ++ rawS more T b := by
  obtain ⟨h1, h2, h3, h4, o, h5, h6⟩ := h
  unfold Cs.fl
  by_cases hc : s.pd.length + s.pi.length = 0
  · rw [if_pos hc]
    have p2 : s.pi = [] := List.eq_nil_of_length_eq_zero (by omega)
    refine ⟨h4, fun more hm => ?_⟩
    rw [h6 more (fun h hh => by have := hm h hh; omega), h5, p2, List.append_nil, show s.pos.toNat = b by omega]
  · rw [if_neg hc]
    refine ⟨fun x hx => ?_, fun more hm => ?_⟩
    · rcases List.mem_append.1 hx with hx | hx
      · exact h4 x hx
      · rcases List.mem_cons.1 hx with rfl | hx
        · exact ⟨by have := h3.1; simp only; omega, h3.2⟩
        · cases hx
    · rw [List.append_assoc, List.singleton_append, h6 _ (fun h hh => by
        rcases List.mem_cons.1 hh with rfl | hh
        · exact Int.le_refl _
        · have := hm h hh; omega), rawS, h5]
      simp only [Nat.sub_self, List.take_zero, List.nil_append]
      rw [h2, List.append_assoc]
theorem Pst.keep {T out : List ByteArray} {s : Cs} {b : Nat} (h : Pst T s out b) (hb : b < T.length) : Pst T s.keep (out ++ [T[b]]) (b + 1) := by
  obtain ⟨f1, f2⟩ := h.fl
  obtain ⟨h1, h2, h3, h4, o, h5, h6⟩ := h
  have hp : s.keep.pos = ((b + 1 : Nat) : Int) := by show s.pos + (s.pd.length : Int) + 1 = _; omega
  refine ⟨by rw [hp]; omega, by rw [hp]; rfl, ?_, f1, out ++ [T[b]], by show _ = _ ++ []; rw [List.append_nil], fun more hm => ?_⟩
  · rw [hp]; exact mt_nil (by simp; omega)
  · rw [hp] at hm ⊢
    show rawS (s.fl ++ more) T 0 = _
    rw [f2 more (fun h hh => by have := hm h hh; omega), rawS_cut more T b 1 hm, List.drop_eq_getElem_cons hb, List.take_succ_cons, List.take_zero, List.append_assoc, Int.toNat_natCast]

theorem step_sem {T : List ByteArray} {m : Mid} {ms : List Mid} {b : Nat} {x : ByteArray} {t out : List ByteArray} {s : Cs} (hs : Sem T (m :: ms) b (x :: t)) (hp : Pst T s out b) : ∃ b', Sem T ms b' t ∧ Pst T (s.step m) (out ++ [x]) b' := by
  obtain ⟨h1, h2⟩ := hs
  have pd := hp.del h1
  unfold Cs.step
  by_cases hi : m.inserted = true
  · rw [if_pos hi] at h2 ⊢
    obtain ⟨t', e, h3⟩ := h2
    injection e with e1 e2
    subst e1 e2
    exact ⟨_, h3, pd.ins _⟩
  · rw [if_neg hi] at h2 ⊢
    rcases h2 with ⟨hlt, t', e, h3⟩ | ⟨_, e, _⟩
    · injection e with e1 e2
      subst e1 e2
      exact ⟨_, h3, pd.keep hlt⟩
    · cases e

theorem steps_sem {T : List ByteArray} : ∀ (n : Nat) (M : List Mid) (b : Nat) (t out : List ByteArray) (s : Cs), n ≤ t.length → Sem T M b t → Pst T s out b → ∃ b', Sem T (M.drop n) b' (t.drop n) ∧ Pst T ((M.take n).foldl Cs.step s) (out ++ t.take n) b'
  | 0, M, b, t, out, s, _, hs, hp => ⟨b, hs, by rw [List.take_zero, List.take_zero, List.append_nil]; exact hp⟩
  | n + 1, [], b, t, out, s, _, hs, _ => hs.elim
  | n + 1, m :: ms, b, [], out, s, hl, _, _ => by simp at hl
  | n + 1, m :: ms, b, x :: t, out, s, hl, hs, hp => by
    obtain ⟨b1, s1, p1⟩ := step_sem hs hp
    obtain ⟨b2, s2, p2⟩ := steps_sem n ms b1 t _ _ (by simpa using hl) s1 p1
    refine ⟨b2, s2, ?_⟩
    rw [List.take_succ_cons, List.take_succ_cons, List.foldl_cons]
    rw [List.append_assoc] at p2
    exact p2

theorem eats_sem {T : List ByteArray} : ∀ (xs : List ByteArray) (M : List Mid) (b : Nat) (t out : List ByteArray) (s : Cs), t.take xs.length = xs → Sem T M b t → Pst T s out b → ∃ b', Sem T (M.drop xs.length) b' (t.drop xs.length) ∧ Pst T (eats M xs s) out b'
  | [], M, b, t, out, s, _, hs, hp => ⟨b, hs, by cases M <;> exact hp⟩
  | x :: xs, [], b, t, out, s, _, hs, _ => hs.elim
  | x :: xs, m :: ms, b, [], out, s, hl, _, _ => by simp at hl
  | x :: xs, m :: ms, b, y :: t, out, s, hl, hs, hp => by
    rw [List.length_cons, List.take_succ_cons] at hl
    injection hl with hl1 hl2
    obtain ⟨h1, h2⟩ := hs
    have pd := hp.del h1
    rw [eats]
    by_cases hi : m.inserted = true
    · rw [if_pos hi] at h2
      obtain ⟨t', e, h3⟩ := h2
      injection e with e1 e2
      subst e2
      have : s.eat m x = s.del m.before := by unfold Cs.eat; rw [if_pos hi]
      rw [this]
      exact eats_sem xs ms _ t out _ hl2 h3 pd
    · rw [if_neg hi] at h2
      rcases h2 with ⟨hlt, t', e, h3⟩ | ⟨_, e, _⟩
      · injection e with e1 e2
        subst e2
        have : s.eat m x = (s.del m.before).del [x] := by unfold Cs.eat; rw [if_neg hi, Cs.del_del]
        rw [this]
        have hm1 : Mt T (b + m.before.length) [x] := by rw [← hl1, e1]; exact mt_one hlt
        exact eats_sem xs ms _ t out _ hl2 h3 (pd.del hm1)
      · cases e

theorem fold_kept : ∀ (ms : List Mid) (s : Cs), (∀ x ∈ ms, x = kept []) → s.pd = [] → s.pi = [] → ((ms.foldl Cs.step s).fl) = s.fl
  | [], s, _, _, _ => rfl
  | m :: ms, s, h, h1, h2 => by
    rw [List.foldl_cons, fold_kept ms _ (fun x hx => h x (List.mem_cons_of_mem _ hx))]
    · rw [h m (by simp)]
      show (s.del []).keep.fl = s.fl
      rw [Cs.del_nil]
      show (if ([] : List ByteArray).length + ([] : List ByteArray).length = 0 then s.fl else _) = s.fl
      rw [if_pos (by simp)]
    · rw [h m (by simp)]; rfl
    · rw [h m (by simp)]; rfl

theorem last_sem {T : List ByteArray} : ∀ (M : List Mid) (b : Nat) (t out : List ByteArray) (s : Cs), Sem T M b t → Pst T s out b → Fits T (M.foldl Cs.step s).fl ∧ rawS (M.foldl Cs.step s).fl T 0 = out ++ t
  | [], b, t, out, s, hs, _ => hs.elim
  | m :: ms, b, x :: t, out, s, hs, hp => by
    obtain ⟨b1, s1, p1⟩ := step_sem hs hp
    obtain ⟨r1, r2⟩ := last_sem ms b1 t _ _ s1 p1
    rw [List.foldl_cons]
    exact ⟨r1, by rw [r2, List.append_assoc]; rfl⟩
  | m :: ms, b, [], out, s, hs, hp => by
    obtain ⟨h1, h2⟩ := hs
    have pd := hp.del h1
    by_cases hi : m.inserted = true
    · rw [if_pos hi] at h2
      obtain ⟨t', e, _⟩ := h2
      cases e
    · rw [if_neg hi] at h2
      rcases h2 with ⟨hlt, t', e, h3⟩ | ⟨hb, e, hk⟩
      · cases e
      · rw [List.foldl_cons]
        have : s.step m = (s.del m.before).keep := by unfold Cs.step; rw [if_neg hi]
        rw [this, fold_kept ms _ hk rfl rfl]
        have e2 : (s.del m.before).keep.fl = (s.del m.before).fl := by
          show (if ([] : List ByteArray).length + ([] : List ByteArray).length = 0 then (s.del m.before).fl else _) = _
          rw [if_pos (by simp)]
        rw [e2]
        obtain ⟨f1, f2⟩ := pd.fl
        refine ⟨f1, ?_⟩
        have := f2 [] (fun h hh => by cases hh)
        rw [List.append_nil, rawS, hb, List.drop_length] at this
        exact this

theorem wlk_sem {T T1 : List ByteArray} : ∀ (l : List Hunk) (e b : Nat) (M : List Mid) (s : Cs) (out : List ByteArray) (e' : Int), Good e' l → (e : Int) ≤ e' + 1 → e ≤ T1.length → Fits T1 l → Sem T M b (T1.drop e) → Pst T s out b → Fits T (wlk e l M s).fl ∧ rawS (wlk e l M s).fl T 0 = out ++ rawS l T1 e
  | [], e, b, M, s, out, e', _, _, _, _, hs, hp => last_sem M b _ out s hs hp
  | h :: r, e, b, M, s, out, e', hg, he, hel, hf, hs, hp => by
    obtain ⟨hc, hg'⟩ := hg
    obtain ⟨z1, z2, z3, z4, z5, z6⟩ := hcode_zero hc
    have ho := hf h (by simp)
    have hol := occ_len ho
    obtain ⟨b1, s1, p1⟩ := steps_sem (h.At.toNat - e) M b _ out s (by rw [List.length_drop]; omega) hs hp
    rw [List.drop_drop, show e + (h.At.toNat - e) = h.At.toNat by omega] at s1
    obtain ⟨b2, s2, p2⟩ := eats_sem h.Old _ b1 _ _ _ ho.2 s1 (p1.ins h.New)
    rw [List.drop_drop, List.drop_drop] at s2
    obtain ⟨r1, r2⟩ := wlk_sem r (h.At.toNat + h.Old.length) b2 _ _ _ (h.At + h.Old.length) hg' (by omega) hol (fun x hx => hf x (List.mem_cons_of_mem _ hx)) s2 p2
    rw [wlk]
    refine ⟨r1, ?_⟩
    rw [r2, rawS]
    simp only [List.append_assoc]

/-- composed, two patches do the same -/
theorem compR_effect {p q : Patch} (hp : (patchFault p).Code = 0) (hq : (patchFault q).Code = 0) {T : List ByteArray} (hT : T.length ≤ 120) (f1 : Fits T p.Hunks) (f2 : Fits (rawS p.Hunks T 0) q.Hunks) :
    Fits T (compR p q).Hunks ∧ rawS (compR p q).Hunks T 0 = rawS q.Hunks (rawS p.Hunks T 0) 0 := by
  obtain ⟨_, g1⟩ := (patchFault_good p).1 hp
  obtain ⟨_, g2⟩ := (patchFault_good q).1 hq
  have hs := sem_mids T hT p.Hunks 0 0 [] (-1) g1 (by omega) f1 (mt_nil (Nat.zero_le _)) rfl
  have hp0 : Pst T ⟨[], 0, [], []⟩ [] 0 := ⟨Int.le_refl _, rfl, mt_nil (Nat.zero_le _), fun _ hh => (nomatch hh), [], rfl, fun more _ => rfl⟩
  exact wlk_sem q.Hunks 0 0 (compM p) _ [] (-1) g2 (by omega) (Nat.zero_le _) f2 hs hp0
end Go.Dc
