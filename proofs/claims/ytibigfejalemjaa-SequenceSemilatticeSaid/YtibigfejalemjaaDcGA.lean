/- Replicated sequences: keys, their order, the check of a set of operations on both sides. -/
import Derived.Test.YtibigfejalemjaaDcG0
set_option linter.unusedSimpArgs false
set_option linter.unusedVariables false
namespace Go.Dc
open Go

def own (o : SeqOp) : K2 := (o.Counter, o.Replica)
def aft (o : SeqOp) : K2 := (o.AfterCounter, o.AfterReplica)
def kLt (a b : K2) : Bool := decide (a.1 < b.1) || (decide (a.1 = b.1) && decide (a.2 < b.2))
def inR (k : K2) : Bool := decide (k.1 ≥ 1) && decide (k.1 ≤ 1000000000) && decide (k.2 ≥ 0) && decide (k.2 < 6)

theorem kLt_irr (a : K2) : kLt a a = false := by simp [kLt]
theorem kLt_trans {a b c : K2} (h1 : kLt a b = true) (h2 : kLt b c = true) : kLt a c = true := by
  simp only [kLt, Bool.or_eq_true, Bool.and_eq_true, decide_eq_true_eq] at *; omega
theorem kLt_tri (a b : K2) : kLt a b = true ∨ a = b ∨ kLt b a = true := by
  simp only [kLt, Bool.or_eq_true, Bool.and_eq_true, decide_eq_true_eq, Prod.ext_iff]; omega
theorem kLt_asymm {a b : K2} (h : kLt a b = true) : kLt b a = false := by
  cases h2 : kLt b a with
  | false => rfl
  | true => have := kLt_trans h h2; rw [kLt_irr] at this; cases this
theorem kLt_ne {a b : K2} (h : kLt a b = true) : a ≠ b := by rintro rfl; rw [kLt_irr] at h; cases h
theorem kLt_nt {a b c : K2} (h1 : kLt a b = false) (h2 : kLt b c = false) : kLt a c = false := by
  simp only [kLt, Bool.or_eq_false_iff, Bool.and_eq_false_iff, decide_eq_false_iff_not] at *; omega
theorem kLt_anti {a b : K2} (h1 : kLt a b = false) (h2 : kLt b a = false) : a = b := by
  rcases kLt_tri a b with h | h | h
  · rw [h] at h1; cases h1
  · exact h
  · rw [h] at h2; cases h2
theorem inR_ne {k : K2} (h : inR k = true) : k ≠ (0, 0) := by rintro rfl; simp [inR] at h

/-! ## the order of elements -/
def kcmp (a b : K2) : Int := if a.1 < b.1 then -1 else if a.1 > b.1 then 1 else if a.2 < b.2 then -1 else if a.2 > b.2 then 1 else 0

theorem kcmp_neg (a b : K2) : decide (kcmp a b < 0) = kLt a b := by
  unfold kcmp kLt
  rw [Bool.eq_iff_iff]
  simp only [Bool.or_eq_true, Bool.and_eq_true, decide_eq_true_eq]
  repeat' split
  all_goals omega
theorem kcmp_ge (a b : K2) : decide (kcmp a b ≥ 0) = !kLt a b := by
  rw [← kcmp_neg, ← decide_not]; congr 1; simp
theorem kcmp_zero (a b : K2) : decide (kcmp a b = 0) = decide (a = b) := by
  unfold kcmp
  rw [Bool.eq_iff_iff]
  simp only [decide_eq_true_eq, Prod.ext_iff]
  repeat' split
  all_goals omega

theorem isNaN_f (x : Int) : cmp_isNaN x = some false := by simp [cmp_isNaN]

theorem Compare_f (x y : Int) : cmp_Compare x y = some (if x < y then -1 else if x > y then 1 else 0) := by
  unfold cmp_Compare
  simp only [isNaN_f, Option.bind_some, Bool.false_eq_true, if_false, decide_eq_true_eq]
  by_cases h : x < y
  · rw [if_pos h, if_pos h]
  · rw [if_neg h, if_neg h]
    by_cases h2 : x > y
    · rw [if_pos h2, if_pos h2]
    · rw [if_neg h2, if_neg h2]

theorem Or_f (a b : Int) : cmp_Or [a, b] = some (if a = 0 then b else a) := by
  unfold cmp_Or
  have h0 : cmp_Or.l1 [a, b] 0 = if a = 0 then some (Step.next 1) else some (Step.done (.inl a)) := by
    unfold cmp_Or.l1
    rw [show at? [a, b] 0 = some a from rfl]
    simp [ck_eq]
  have h1 : cmp_Or.l1 [a, b] 1 = if b = 0 then some (Step.next 2) else some (Step.done (.inl b)) := by
    unfold cmp_Or.l1
    rw [show at? [a, b] 1 = some b from rfl]
    simp [ck_eq]
  have h2 : cmp_Or.l1 [a, b] 2 = some (Step.done (.inr ())) := by unfold cmp_Or.l1; simp
  by_cases ha : a = 0
  · rw [if_pos ha] at h0 ⊢
    rw [iter_next h0]
    by_cases hb : b = 0
    · rw [if_pos hb] at h1
      rw [iter_next h1, iter_done h2, hb]; rfl
    · rw [if_neg hb] at h1
      rw [iter_done h1]; rfl
  · rw [if_neg ha] at h0 ⊢
    rw [iter_done h0]; rfl

theorem compare_f (a b : Element_sequence) : sequence_compare a b = some (kcmp (a.counter, a.replica) (b.counter, b.replica)) := by
  unfold sequence_compare
  simp only [Compare_f, Option.bind_some, Or_f]
  congr 1
  unfold kcmp
  simp only
  repeat' split
  all_goals first | rfl | omega

theorem valid_f (e : Element_sequence) : sequence_valid e = some (inR (e.counter, e.replica)) := by
  unfold sequence_valid inR
  by_cases h1 : e.counter ≥ 1 <;> by_cases h2 : e.counter ≤ 1000000000 <;> by_cases h3 : e.replica ≥ 0 <;> by_cases h4 : e.replica < 6 <;> simp [h1, h2, h3, h4]
theorem inRange_f (c r : Int) : changeforgeref2_inRange c r = some (inR (c, r)) := by
  unfold changeforgeref2_inRange inR
  by_cases h1 : c ≥ 1 <;> by_cases h2 : c ≤ 1000000000 <;> by_cases h3 : r ≥ 0 <;> by_cases h4 : r < 6 <;> simp [h1, h2, h3, h4]
theorem Before_f (c r c' r' : Int) : changeforgeref2_Before c r c' r' = some (kLt (c, r) (c', r')) := by
  unfold changeforgeref2_Before kLt
  by_cases h1 : c < c' <;> by_cases h2 : c = c' <;> by_cases h3 : r < r' <;> simp [h1, h2, h3]
theorem Same_f (a b : SeqOp) : changeforgeref2_SameElement a b = some (decide (own a = own b)) := by
  unfold changeforgeref2_SameElement own
  by_cases h1 : a.Counter = b.Counter <;> by_cases h2 : a.Replica = b.Replica <;> simp [h1, h2, Prod.ext_iff]

/-! ## one operation by itself -/
def chk (o : SeqOp) : Int :=
  if inR (own o) = false then 3
  else if o.Delete = true ∧ (aft o ≠ (0, 0) ∨ o.Line ≠ (⟨#[]⟩ : ByteArray)) then 5
  else if o.Delete = false ∧ aft o ≠ (0, 0) ∧ inR (aft o) = false then 3
  else if o.Delete = false ∧ kLt (aft o) (own o) = false then 5
  else (textFault [o.Line]).Code

theorem ext2 (a b : Int) : (decide (a = 0) && decide (b = 0)) = decide ((a, b) = ((0, 0) : K2)) := by
  by_cases h1 : a = 0 <;> by_cases h2 : b = 0 <;> simp [h1, h2, Prod.ext_iff]

theorem check_f (o : SeqOp) : sequence_check o = some (chk o) := by
  unfold sequence_check sequence_after sequence_own chk
  simp only [Option.bind_some, valid_f, ext2, compare_f, kcmp_ge, validate_f]
  rw [show ((o.Counter, o.Replica) : K2) = own o from rfl, show ((o.AfterCounter, o.AfterReplica) : K2) = aft o from rfl]
  cases h1 : inR (own o) with
  | false => simp
  | true =>
    cases hd : o.Delete with
    | true =>
      by_cases h2 : aft o = (0, 0)
      · by_cases h3 : o.Line = (⟨#[]⟩ : ByteArray)
        · simp [h2, h3]
        · simp [h2, h3]
      · simp [h2]
    | false =>
      by_cases h2 : aft o = (0, 0)
      · cases h4 : kLt (aft o) (own o) <;> simp [h2, h4] <;> (rw [h2] at h4; simp [h4])
      · cases h3 : inR (aft o) with
        | false => simp [h2]
        | true => cases h4 : kLt (aft o) (own o) <;> simp [h2, h4]

/-! ## the set -/
def sameO (x o : SeqOp) : Bool := decide (own x = own o) && decide (x.Delete = o.Delete)
def insM (ops : List SeqOp) (k : K2) : Bool := ops.any fun x => !x.Delete && decide (own x = k)
def delM (ops : List SeqOp) (k : K2) : Bool := ops.any fun x => x.Delete && decide (own x = k)
def need (o : SeqOp) : K2 := if o.Delete then own o else aft o

def fault1 (ops : List SeqOp) (k : Nat) (o : SeqOp) : Option Fault :=
  if chk o ≠ 0 then some ⟨chk o, k⟩ else if (ops.take k).any (fun x => sameO x o) then some ⟨7, k⟩ else Option.none
def fault2 (ops : List SeqOp) (k : Nat) (o : SeqOp) : Option Fault :=
  if need o ≠ (0, 0) ∧ insM ops (need o) = false then some ⟨6, k⟩ else Option.none
def seqFault (ops : List SeqOp) : Fault :=
  if ops.length > 60 then ⟨2, -1⟩
  else match scn (fault1 ops) 0 ops with
    | some f => f
    | Option.none => match scn (fault2 ops) 0 ops with
      | some f => f
      | Option.none => ⟨0, 0⟩

theorem scn_at {α ρ : Type} {g : Nat → α → Option ρ} : ∀ {l : List α} {k : Nat} {y : ρ} (j : Nat) (h : j < l.length), (∀ i (hi : i < l.length), i < j → g (k + i) l[i] = Option.none) → g (k + j) l[j] = some y → scn g k l = some y
  | [], k, y, j, h, _, _ => absurd h (by simp)
  | x :: r, k, y, j, h, hp, hy => by
    rw [scn]
    cases j with
    | zero =>
      rw [Nat.add_zero, List.getElem_cons_zero] at hy
      rw [hy]
    | succ j =>
      have h0 := hp 0 (by simp) (by omega)
      rw [Nat.add_zero, List.getElem_cons_zero] at h0
      rw [h0]
      refine scn_at j (by simpa using h) (fun i hi hij => ?_) (by rw [List.getElem_cons_succ] at hy; rw [← hy]; congr 1; omega)
      have := hp (i + 1) (by simpa using hi) (by omega)
      rw [List.getElem_cons_succ] at this
      rw [← this]; congr 1; omega

theorem mget_mput {β : Type} (k : K2) (v : β) (k' : K2) : ∀ l : List (K2 × β), mget (mput l k v) k' = if k = k' then some v else mget l k'
  | [] => by simp [mput, mget]
  | p :: r => by
    by_cases h : p.1 = k
    · by_cases h2 : k = k'
      · simp [mput, mget, h, h2]
      · simp [mput, mget, h, h2]
    · by_cases h2 : p.1 = k'
      · have : ¬ k = k' := fun e => h (h2.trans e.symm)
        simp only [mput, if_neg h, mget, if_pos h2, if_neg this]
      · simp only [mput, if_neg h, mget, if_neg h2]; exact mget_mput k v k' r

/-- what a map of this kind says -/
def MapSays (m : List (K2 × Bool)) (p : K2 → Bool) : Prop := ∀ k, (mget m k).getD false = p k
theorem MapSays.nil : MapSays [] (fun _ => false) := fun _ => rfl
theorem MapSays.put {m : List (K2 × Bool)} {p : K2 → Bool} (h : MapSays m p) (k : K2) : MapSays (mput m k true) (fun k' => p k' || decide (k = k')) := by
  intro k'
  rw [mget_mput]
  by_cases hk : k = k'
  · simp [hk]
  · simp [hk, h k']
theorem MapSays.congr {m : List (K2 × Bool)} {p q : K2 → Bool} (h : MapSays m p) (e : ∀ k, p k = q k) : MapSays m q := fun k => (h k).trans (e k)

theorem take_any {α : Type} (p : α → Bool) {l : List α} {k : Nat} (h : k < l.length) : (l.take (k + 1)).any p = ((l.take k).any p || p l[k]) := by
  rw [List.take_succ_eq_append_getElem h, List.any_append]; simp

theorem chk_del {o : SeqOp} (h : chk o = 0) : inR (own o) = true := by
  unfold chk at h
  cases h1 : inR (own o) with
  | true => rfl
  | false => rw [h1, if_pos rfl] at h; cases h

theorem need_ne {o : SeqOp} (h : chk o = 0) (hd : o.Delete = true) : need o ≠ (0, 0) := by
  unfold need; rw [if_pos hd]; exact inR_ne (chk_del h)

theorem Validate_f (ops : List SeqOp) : sequence_Validate ops = some (seqFault ops) := by
  unfold sequence_Validate seqFault
  rw [ite_dec]
  by_cases h60 : ops.length > 60
  · rw [if_pos (by omega), if_pos h60]
  rw [if_neg (by omega), if_neg h60]
  -- the first round
  have r1 := inv_loopE (f := fun s : Int × (List (K2 × Bool)) × (List (K2 × Bool)) => sequence_Validate.l2 ops s.1 s.2.1 s.2.2) 0 ops.length (Nat.zero_le _)
    (fun k s => (∀ j (hj : j < ops.length), j < k → fault1 ops j ops[j] = Option.none) ∧ MapSays s.1 (delM (ops.take k)) ∧ MapSays s.2 (insM (ops.take k)))
    (fun r => (∃ f, r = .inl f ∧ scn (fault1 ops) 0 ops = some f) ∨ ∃ m, r = .inr m ∧ scn (fault1 ops) 0 ops = Option.none ∧ MapSays m (insM ops))
    (by
      rintro k ⟨g, m⟩ _ hk ⟨hp, hg, hm⟩
      have hfound : ∀ f, fault1 ops k ops[k] = some f → scn (fault1 ops) 0 ops = some f := fun f hf => scn_at k hk (fun i hi hik => by rw [Nat.zero_add]; exact hp i hi hik) (by rw [Nat.zero_add]; exact hf)
      unfold sequence_Validate.l2
      simp (disch := omega) only [decide_eq_true_eq, if_pos, at_nat hk, Option.bind_some, check_f]
      by_cases hc : chk ops[k] = 0
      · rw [decide_eq_true hc]
        simp only [Bool.not_true, Bool.false_eq_true, if_false, sequence_own, Option.bind_some]
        have e1 : fault1 ops k ops[k] = if (ops.take k).any (fun x => sameO x ops[k]) then some ⟨7, k⟩ else Option.none := by
          unfold fault1; rw [if_neg (by simpa using hc)]
        cases hd : ops[k].Delete with
        | true =>
          have e2 : (ops.take k).any (fun x => sameO x ops[k]) = delM (ops.take k) (own ops[k]) := by
            unfold delM sameO; congr 1; funext x; rw [hd]; cases x.Delete <;> simp
          simp only [if_true]
          rw [show (mget g (ops[k].Counter, ops[k].Replica)).getD false = delM (ops.take k) (own ops[k]) from hg _]
          rw [e2] at e1
          cases hx : delM (ops.take k) (own ops[k]) with
          | true =>
            rw [hx, if_pos rfl] at e1
            exact .inr ⟨_, rfl, .inl ⟨_, rfl, hfound _ e1⟩⟩
          | false =>
            rw [hx, if_neg (by decide)] at e1
            simp (disch := omega) only [Bool.false_eq_true, if_false, ck_eq, Option.bind_some]
            refine .inl ⟨_, rfl, fun j hj hjk => ?_, ?_, ?_⟩
            · by_cases he : j = k
              · subst he; exact e1
              · exact hp j hj (by omega)
            · refine (hg.put _).congr fun k' => ?_
              unfold delM; rw [take_any _ hk, hd, Bool.true_and]; rfl
            · refine hm.congr fun k' => ?_
              unfold insM; rw [take_any _ hk, hd]; simp
        | false =>
          have e2 : (ops.take k).any (fun x => sameO x ops[k]) = insM (ops.take k) (own ops[k]) := by
            unfold insM sameO; congr 1; funext x; rw [hd]; cases x.Delete <;> simp
          simp only [Bool.false_eq_true, if_false]
          rw [show (mget m (ops[k].Counter, ops[k].Replica)).getD false = insM (ops.take k) (own ops[k]) from hm _]
          rw [e2] at e1
          cases hx : insM (ops.take k) (own ops[k]) with
          | true =>
            rw [hx, if_pos rfl] at e1
            exact .inr ⟨_, rfl, .inl ⟨_, rfl, hfound _ e1⟩⟩
          | false =>
            rw [hx, if_neg (by decide)] at e1
            simp (disch := omega) only [Bool.false_eq_true, if_false, ck_eq, Option.bind_some]
            refine .inl ⟨_, rfl, fun j hj hjk => ?_, ?_, ?_⟩
            · by_cases he : j = k
              · subst he; exact e1
              · exact hp j hj (by omega)
            · refine hg.congr fun k' => ?_
              unfold delM; rw [take_any _ hk, hd]; simp
            · refine (hm.put _).congr fun k' => ?_
              unfold insM; rw [take_any _ hk, hd, Bool.not_false, Bool.true_and]; rfl
      · rw [decide_eq_false hc]
        refine .inr ⟨_, rfl, .inl ⟨_, rfl, hfound _ ?_⟩⟩
        unfold fault1; rw [if_pos (by simpa using hc)])
    (by
      rintro ⟨g, m⟩ ⟨hp, hg, hm⟩
      unfold sequence_Validate.l2
      rw [ite_dec, if_neg (by omega)]
      refine ⟨_, rfl, .inr ⟨m, rfl, ?_, ?_⟩⟩
      · exact scn_none.2 fun j hj => by rw [Nat.zero_add]; exact hp j hj hj
      · rw [List.take_length] at hm; exact hm)
    ([], []) ⟨fun j _ h => absurd h (by omega), MapSays.nil, MapSays.nil⟩
  obtain ⟨r, e, hr⟩ := r1
  rw [show (((0 : Nat) : Int), (([], []) : List (K2 × Bool) × List (K2 × Bool))) = (0, [], []) from rfl] at e
  rw [e, Option.bind_some]
  rcases hr with ⟨f, rfl, hs⟩ | ⟨m, rfl, hs, hm⟩
  · rw [hs]
  · rw [hs]
    simp only
    unfold sequence_Validate.j1
    have r2 := scn_loop (f := fun s => sequence_Validate.l1 ops m s) (fun f => (.inl f : Fault ⊕ Unit)) (.inr ()) ops (fault2 ops)
      (fun k hk _ => by
        have hc : chk ops[k] = 0 := by
          have := scn_none.1 hs k hk
          rw [Nat.zero_add] at this
          unfold fault1 at this
          by_cases h : chk ops[k] = 0
          · exact h
          · rw [if_pos h] at this; cases this
        unfold sequence_Validate.l1 sequence_Validate.j3
        simp (disch := omega) only [decide_eq_true_eq, if_pos, at_nat hk, Option.bind_some, sequence_own, sequence_after, ext2, ck_eq]
        have key : ∀ q : K2, q = need ops[k] → ((if (!decide (q = (0, 0))) = true then some (!((mget m q).getD false)) else some false).bind fun x6 => if x6 = true then some (Step.done (Sum.inl (⟨6, (k : Int)⟩ : Fault))) else some (Step.next ((k : Int) + 1))) =
            (fault2 ops k ops[k]).elim (some (Step.next (((k + 1 : Nat) : Int)) : Step Int (Fault ⊕ Unit))) (fun r => some (Step.done (Sum.inl r))) := by
          rintro q rfl
          unfold fault2
          rw [show (mget m (need ops[k])).getD false = insM ops (need ops[k]) from hm _]
          by_cases hn : need ops[k] = (0, 0)
          · rw [decide_eq_true hn, if_neg (by decide), if_neg (fun h => h.1 hn)]; rfl
          · rw [decide_eq_false hn, if_pos (by decide), Option.bind_some]
            cases hx : insM ops (need ops[k]) with
            | true => rw [if_neg (by decide), if_neg (by simp)]; rfl
            | false => rw [if_pos (by decide), if_pos ⟨hn, rfl⟩]; rfl
        cases hd : ops[k].Delete with
        | true => simp only [Bool.not_true, Bool.false_eq_true, if_false]; rw [key (ops[k].Counter, ops[k].Replica) (by unfold need; rw [if_pos hd]; rfl)]; cases fault2 ops k ops[k] <;> rfl
        | false => simp only [Bool.not_false, if_true]; rw [key (ops[k].AfterCounter, ops[k].AfterReplica) (by unfold need; rw [if_neg (by simp [hd])]; rfl)]; cases fault2 ops k ops[k] <;> rfl)
      (by unfold sequence_Validate.l1; rw [ite_dec, if_neg (by omega)])
    rw [r2, Option.bind_some]
    cases scn (fault2 ops) 0 ops <;> rfl

/-! ## the document's check -/
theorem One_f (s : ByteArray) : changeforgeref1_One s = some (textFault [s]).Code := by
  unfold changeforgeref1_One
  rw [linesCode_f]; rfl

theorem opCode_f (ops : List SeqOp) {k : Nat} (hk : k < ops.length) (hl : ops.length ≤ 60) : changeforgeref2_opCode ops (k : Int) = some (match fault1 ops k ops[k] with | some f => f.Code | Option.none => 0) := by
  unfold changeforgeref2_opCode
  rw [at_nat hk]
  generalize hx : ops[k] = o
  have e2 : ∀ a b : Int, (if decide (a = 0) = true then some (decide (b = 0)) else some false) = some (decide ((a, b) = ((0, 0) : K2))) := by
    intro a b; rw [← ext2]; by_cases h : a = 0 <;> simp [h]
  simp only [Option.bind_some, e2, inRange_f, Before_f, One_f]
  rw [show ((o.Counter, o.Replica) : K2) = own o from rfl, show ((o.AfterCounter, o.AfterReplica) : K2) = aft o from rfl]
  have hloop : iter (fun s => changeforgeref2_opCode.l1 ops (k : Int) o s) 0 = some (if (ops.take k).any (fun x => sameO x o) then (.inl 7 : Int ⊕ Unit) else .inr ()) := by
    have hlen : (ops.take k).length = k := by rw [List.length_take]; omega
    refine any_loopC (.inl 7 : Int ⊕ Unit) (.inr () : Int ⊕ Unit) (ops.take k) (fun x => sameO x o) (fun j hj => ?_) ?_
    · have hjk : j < k := by omega
      have hjl : j < ops.length := by omega
      unfold changeforgeref2_opCode.l1
      simp (disch := omega) only [decide_eq_true_eq, if_pos, at_nat hjl, Option.bind_some, Same_f, ck_eq]
      rw [List.getElem_take]
      unfold sameO
      by_cases h1 : own ops[j] = own o
      · simp only [h1, if_true, Option.bind_some, decide_true, Bool.true_and, decide_eq_true_eq]
        split <;> rfl
      · simp only [h1, if_false, Option.bind_some, decide_false, Bool.false_and, Bool.false_eq_true]
        rfl
    · rw [hlen]; unfold changeforgeref2_opCode.l1; rw [ite_dec, if_neg (by omega)]
  rw [hloop]
  unfold fault1 chk
  generalize (ops.take k).any (fun x => sameO x o) = ba
  cases h1 : inR (own o) with
  | false => simp
  | true =>
    cases hd : o.Delete with
    | true =>
      by_cases h2 : aft o = (0, 0)
      · by_cases h3 : o.Line = (⟨#[]⟩ : ByteArray)
        · simp only [h2, h3]
          by_cases h5 : (textFault [o.Line]).Code = 0
          · rw [h3] at h5; cases ba <;> simp [h5] <;> rfl
          · rw [h3] at h5; simp [h5]
        · simp [h2, h3]
      · simp [h2]
    | false =>
      by_cases h2 : aft o = (0, 0)
      · cases h4 : kLt (aft o) (own o) with
        | false => rw [h2] at h4; simp [h2, h4]
        | true =>
          rw [h2] at h4
          by_cases h5 : (textFault [o.Line]).Code = 0
          · cases ba <;> simp [h2, h4, h5] <;> rfl
          · simp [h2, h4, h5]
      · cases h3 : inR (aft o) with
        | false => simp [h2]
        | true =>
          cases h4 : kLt (aft o) (own o) with
          | false => simp [h2, h4]
          | true =>
            by_cases h5 : (textFault [o.Line]).Code = 0
            · cases ba <;> simp [h2, h4, h5] <;> rfl
            · simp [h2, h4, h5]

theorem Inserted_f (ops : List SeqOp) (hl : ops.length ≤ 60) (c r : Int) : ∃ z, changeforgeref2_Inserted ops c r = some z ∧ decide (z < 0) = !insM ops (c, r) := by
  unfold changeforgeref2_Inserted
  have h := any_loop (f := fun s => changeforgeref2_Inserted.l1 ops c r s) (fun k => (.inl (k : Int) : Int ⊕ Unit)) (.inr ()) ops (fun x => !x.Delete && decide (own x = (c, r)))
    (fun k hk => by
      unfold changeforgeref2_Inserted.l1
      simp (disch := omega) only [decide_eq_true_eq, if_pos, at_nat hk, Option.bind_some, ck_eq]
      cases hd : ops[k].Delete with
      | true => simp
      | false =>
        by_cases h1 : ops[k].Counter = c <;> by_cases h2 : ops[k].Replica = r <;> simp [own, h1, h2, Prod.ext_iff])
    (by unfold changeforgeref2_Inserted.l1; rw [ite_dec, if_neg (by omega)])
  rw [h, Option.bind_some]
  cases hf : firstB (fun x => !x.Delete && decide (own x = (c, r))) 0 ops with
  | none =>
    refine ⟨-1, rfl, ?_⟩
    rw [show insM ops (c, r) = false from firstB_none.1 hf]; rfl
  | some k =>
    refine ⟨(k : Int), rfl, ?_⟩
    have : insM ops (c, r) = true := by
      cases h2 : insM ops (c, r)
      · rw [firstB_none.2 h2] at hf; cases hf
      · rfl
    rw [this]; simp

theorem SeqFault_f (ops : List SeqOp) : changeforgeref2_SequenceFault ops = some (seqFault ops) := by
  unfold changeforgeref2_SequenceFault seqFault changeforgeref1_At
  rw [ite_dec]
  by_cases h60 : ops.length > 60
  · rw [if_pos (by omega), if_pos h60]; rfl
  rw [if_neg (by omega), if_neg h60]
  have r1 := scn_loop (f := fun s => changeforgeref2_SequenceFault.l2 ops s) (fun f => (.inl f : Fault ⊕ Unit)) (.inr ()) ops (fault1 ops)
    (fun k hk _ => by
      unfold changeforgeref2_SequenceFault.l2 changeforgeref1_At
      simp (disch := omega) only [decide_eq_true_eq, if_pos, opCode_f ops hk (by omega), Option.bind_some, ck_eq]
      cases hf : fault1 ops k ops[k] with
      | none => simp
      | some f =>
        have hfk : f = ⟨f.Code, k⟩ ∧ f.Code ≠ 0 := by
          unfold fault1 at hf
          split at hf
          · rename_i h; cases hf; exact ⟨rfl, h⟩
          · split at hf
            · cases hf; exact ⟨rfl, (by decide : (7 : Int) ≠ 0)⟩
            · cases hf
        simp only [decide_eq_false hfk.2, Bool.not_false, if_true]
        rw [← hfk.1])
    (by unfold changeforgeref2_SequenceFault.l2; rw [ite_dec, if_neg (by omega)])
  rw [r1, Option.bind_some]
  cases hs : scn (fault1 ops) 0 ops with
  | some f => rfl
  | none =>
    simp only
    unfold changeforgeref2_SequenceFault.j1
    have r2 := scn_loop (f := fun s => changeforgeref2_SequenceFault.l1 ops s) (fun f => (.inl f : Fault ⊕ Unit)) (.inr ()) ops (fault2 ops)
      (fun k hk _ => by
        have hc : chk ops[k] = 0 := by
          have := scn_none.1 hs k hk
          rw [Nat.zero_add] at this
          unfold fault1 at this
          by_cases h : chk ops[k] = 0
          · exact h
          · rw [if_pos h] at this; cases this
        unfold changeforgeref2_SequenceFault.l1 changeforgeref1_At
        obtain ⟨z1, e1, d1⟩ := Inserted_f ops (by omega) ops[k].Counter ops[k].Replica
        obtain ⟨z2, e2, d2⟩ := Inserted_f ops (by omega) ops[k].AfterCounter ops[k].AfterReplica
        simp (disch := omega) only [decide_eq_true_eq, if_pos, at_nat hk, Option.bind_some, e1, e2, ck_eq]
        unfold fault2 need
        cases hd : ops[k].Delete with
        | true =>
          have hn : own ops[k] ≠ (0, 0) := inR_ne (chk_del hc)
          simp only [if_true, Option.bind_some, Bool.not_true, Bool.false_eq_true, if_false, d1]
          rw [show ((ops[k].Counter, ops[k].Replica) : K2) = own ops[k] from rfl]
          cases hx : insM ops (own ops[k]) <;> simp [hn]
        | false =>
          simp only [Bool.false_eq_true, if_false, Option.bind_some, Bool.not_false, if_true, d2]
          rw [show ((ops[k].AfterCounter, ops[k].AfterReplica) : K2) = aft ops[k] from rfl]
          have e3 : (if (!decide (ops[k].AfterCounter = 0)) = true then some true else some (!decide (ops[k].AfterReplica = 0))) = some (!decide (aft ops[k] = (0, 0))) := by
            rw [show aft ops[k] = (ops[k].AfterCounter, ops[k].AfterReplica) from rfl, ← ext2]
            by_cases h : ops[k].AfterCounter = 0 <;> simp [h]
          simp only [e3, Option.bind_some]
          by_cases hn : aft ops[k] = (0, 0)
          · simp [hn]
          · cases hx : insM ops (aft ops[k]) <;> simp [hn])
      (by unfold changeforgeref2_SequenceFault.l1; rw [ite_dec, if_neg (by omega)])
    rw [r2, Option.bind_some]
    cases scn (fault2 ops) 0 ops <;> rfl

/-! ## valid sets -/
structure Val (ops : List SeqOp) : Prop where
  len : ops.length ≤ 60
  chk : ∀ o ∈ ops, chk o = 0
  nd : (ops.map fun o => (own o, o.Delete)).Nodup
  made : ∀ o ∈ ops, need o = (0, 0) ∨ insM ops (need o) = true

theorem fault1_none {ops : List SeqOp} : scn (fault1 ops) 0 ops = Option.none ↔ (∀ o ∈ ops, Dc.chk o = 0) ∧ (ops.map fun o => (own o, o.Delete)).Nodup := by
  rw [scn_none]
  constructor
  · intro h
    have h' : ∀ j (hj : j < ops.length), Dc.chk ops[j] = 0 ∧ (ops.take j).any (fun x => sameO x ops[j]) = false := by
      intro j hj
      have := h j hj
      rw [Nat.zero_add] at this
      unfold fault1 at this
      split at this
      · cases this
      · rename_i hc
        split at this
        · cases this
        · rename_i ha; exact ⟨by simpa using hc, by simpa using ha⟩
    refine ⟨fun o ho => ?_, ?_⟩
    · obtain ⟨j, hj, rfl⟩ := List.getElem_of_mem ho; exact (h' j hj).1
    · rw [List.nodup_iff_pairwise_ne, List.pairwise_iff_getElem]
      intro i j hi hj hij
      simp only [List.length_map] at hi hj
      simp only [List.getElem_map]
      intro he
      have := (h' j hj).2
      rw [List.any_eq_false] at this
      refine this ops[i] (List.mem_take_iff_getElem.2 ⟨i, by omega, rfl⟩) ?_
      unfold sameO
      simp only [Prod.mk.injEq] at he
      simp [he.1, he.2]
  · rintro ⟨h1, h2⟩ j hj
    rw [Nat.zero_add]
    unfold fault1
    rw [if_neg (by simpa using h1 _ (List.getElem_mem hj)), if_neg]
    intro ha
    rw [List.any_eq_true] at ha
    obtain ⟨x, hx, hs⟩ := ha
    obtain ⟨i, hi, rfl⟩ := List.mem_take_iff_getElem.1 hx
    rw [List.nodup_iff_pairwise_ne, List.pairwise_iff_getElem] at h2
    have := h2 i j (by simp; omega) (by simpa using hj) (by omega)
    simp only [List.getElem_map] at this
    unfold sameO at hs
    simp only [Bool.and_eq_true, decide_eq_true_eq] at hs
    exact this (Prod.ext hs.1 hs.2)

theorem fault2_none {ops : List SeqOp} : scn (fault2 ops) 0 ops = Option.none ↔ ∀ o ∈ ops, need o = (0, 0) ∨ insM ops (need o) = true := by
  rw [scn_none]
  constructor
  · intro h o ho
    obtain ⟨j, hj, rfl⟩ := List.getElem_of_mem ho
    have := h j hj
    unfold fault2 at this
    split at this
    · cases this
    · rename_i hc
      by_cases hn : need ops[j] = (0, 0)
      · exact .inl hn
      · cases hx : insM ops (need ops[j]) with
        | true => exact .inr rfl
        | false => exact absurd ⟨hn, hx⟩ hc
  · intro h j hj
    unfold fault2
    rw [if_neg]
    rintro ⟨h1, h2⟩
    rcases h _ (List.getElem_mem hj) with h3 | h3
    · exact h1 h3
    · rw [h3] at h2; cases h2

theorem chk_code {o : SeqOp} : Dc.chk o ≠ 0 → ∃ c : Int, Dc.chk o = c ∧ c ≠ 0 := fun h => ⟨_, rfl, h⟩

theorem seqFault_cases (ops : List SeqOp) : (seqFault ops = ⟨0, 0⟩ ∧ Val ops) ∨ ((seqFault ops).Code ≠ 0 ∧ ¬ Val ops) := by
  unfold seqFault
  by_cases h60 : ops.length > 60
  · rw [if_pos h60]; exact .inr ⟨by decide, fun h => by have := h.len; omega⟩
  · rw [if_neg h60]
    cases h1 : scn (fault1 ops) 0 ops with
    | some f =>
      obtain ⟨j, hj, hf⟩ := scn_some h1
      refine .inr ⟨?_, fun h => ?_⟩
      · unfold fault1 at hf
        split at hf
        · rename_i hc; cases hf; exact hc
        · split at hf
          · cases hf; exact (by decide : (7 : Int) ≠ 0)
          · cases hf
      · have := fault1_none.2 ⟨h.chk, h.nd⟩; rw [this] at h1; cases h1
    | none =>
      cases h2 : scn (fault2 ops) 0 ops with
      | some f =>
        obtain ⟨j, hj, hf⟩ := scn_some h2
        refine .inr ⟨?_, fun h => ?_⟩
        · unfold fault2 at hf
          split at hf
          · cases hf; exact (by decide : (6 : Int) ≠ 0)
          · cases hf
        · have := fault2_none.2 h.made; rw [this] at h2; cases h2
      | none =>
        obtain ⟨a, b⟩ := fault1_none.1 h1
        exact .inl ⟨rfl, by omega, a, b, fault2_none.1 h2⟩

theorem seqFault_ok {ops : List SeqOp} (h : Val ops) : seqFault ops = ⟨0, 0⟩ := by
  rcases seqFault_cases ops with h1 | h1
  · exact h1.1
  · exact absurd h h1.2
theorem val_of {ops : List SeqOp} (h : (seqFault ops).Code = 0) : Val ops := by
  rcases seqFault_cases ops with h1 | h1
  · exact h1.2
  · exact absurd h h1.1
end Go.Dc
