/- Paths of file trees: what a path is, and which paths are related, as functions of their bytes. -/
import Derived.Test.YtjmigclbilnajaaDoorDcQA
import Derived.Test.YtjmigclbilnajaaDoorDcM
import Derived.Lib.IndexAny
set_option linter.unusedSimpArgs false
set_option linter.unusedVariables false
namespace Go.Dc
open Go

/-! ## small words -/
theorem orS (b c : Bool) : (if b = true then some true else some c) = some (b || c) := by cases b <;> rfl
theorem andS (b c : Bool) : (if b = true then some c else some false) = some (b && c) := by cases b <;> rfl

def bts (s : ByteArray) : List UInt8 := s.data.toList
def str (l : List UInt8) : ByteArray := ⟨l.toArray⟩
theorem bts_len (s : ByteArray) : (bts s).length = s.size := rfl
@[simp] theorem bts_str (l : List UInt8) : bts (str l) = l := by simp [bts, str]
@[simp] theorem str_bts (s : ByteArray) : str (bts s) = s := by cases s; simp [bts, str]
@[simp] theorem str_size (l : List UInt8) : (str l).size = l.length := by rw [← bts_len, bts_str]
theorem str_inj {a b : List UInt8} (h : str a = str b) : a = b := by rw [← bts_str a, h, bts_str]
theorem str_dec (a b : List UInt8) : decide (str a = str b) = decide (a = b) := decide_eq_decide.2 ⟨str_inj, fun h => by rw [h]⟩
theorem bts_inj {a b : ByteArray} (h : bts a = bts b) : a = b := by rw [← str_bts a, h, str_bts]

theorem sAt_str {l : List UInt8} {k : Nat} (h : k < l.length) : sAt? (str l) (k : Int) = some ((l[k].toNat : Nat) : Int) := by
  have hk : k < (str l).size := by rw [str_size]; exact h
  have : (str l)[k] = l[k] := by simp [str]; rfl
  rw [sAt_nat hk, this]
  rfl

theorem scut_str {l : List UInt8} {i j : Nat} (h1 : i ≤ j) (h2 : j ≤ l.length) : scut? (str l) (i : Int) (j : Int) = some (str ((l.take j).drop i)) := by
  unfold scut?
  rw [if_pos (by rw [str_size]; omega)]
  congr 1
  refine ByteArray.ext ?_
  rw [ByteArray.data_extract]
  refine Array.toList_inj.1 ?_
  rw [Array.toList_extract]
  simp [List.extract_eq_take_drop, str, List.drop_take]

/-! ## letters and parts -/
def letB (c : UInt8) : Bool := (decide (97 ≤ c.toNat) && decide (c.toNat ≤ 122)) || (decide (65 ≤ c.toNat) && decide (c.toNat ≤ 90)) || (decide (48 ≤ c.toNat) && decide (c.toNat ≤ 57)) || decide (c.toNat = 46) || decide (c.toNat = 95) || decide (c.toNat = 45)

theorem letB_slash : letB 47 = false := by decide

theorem letter_f (c : UInt8) : treepatch_Letter ((c.toNat : Nat) : Int) = some (letB c) := by
  unfold treepatch_Letter letB
  generalize c.toNat = n
  simp only [orS, andS, Option.bind_some]
  rw [show decide ((n : Int) ≥ 97) = decide (97 ≤ n) from decide_eq_decide.2 (by omega), show decide ((n : Int) ≤ 122) = decide (n ≤ 122) from decide_eq_decide.2 (by omega),
    show decide ((n : Int) ≥ 65) = decide (65 ≤ n) from decide_eq_decide.2 (by omega), show decide ((n : Int) ≤ 90) = decide (n ≤ 90) from decide_eq_decide.2 (by omega),
    show decide ((n : Int) ≥ 48) = decide (48 ≤ n) from decide_eq_decide.2 (by omega), show decide ((n : Int) ≤ 57) = decide (n ≤ 57) from decide_eq_decide.2 (by omega),
    show decide ((n : Int) = 46) = decide (n = 46) from decide_eq_decide.2 (by omega), show decide ((n : Int) = 95) = decide (n = 95) from decide_eq_decide.2 (by omega),
    show decide ((n : Int) = 45) = decide (n = 45) from decide_eq_decide.2 (by omega)]

theorem pathByte_f (c : UInt8) : changeforgeref2_pathByte ((c.toNat : Nat) : Int) = some (letB c) := letter_f c

def badP (p : List UInt8) : Bool := decide (p = []) || decide (p = [46]) || decide (p = [46, 46])
def okPart (p : List UInt8) : Bool := !badP p && p.all letB
def vp : List UInt8 → List UInt8 → Bool
  | cur, [] => okPart cur
  | cur, c :: r => if c = 47 then okPart cur && vp [] r else vp (cur ++ [c]) r
def pathB (s : ByteArray) : Bool := decide (s.size ≤ 60) && vp [] (bts s)

theorem vp_span : ∀ (l cur : List UInt8), vp cur l = match l.dropWhile (· != 47) with
    | [] => okPart (cur ++ l.takeWhile (· != 47))
    | _ :: r => okPart (cur ++ l.takeWhile (· != 47)) && vp [] r
  | [], cur => by simp [vp]
  | c :: r, cur => by
    rw [vp]
    by_cases h : c = 47
    · subst h; rw [if_pos rfl]; simp [List.dropWhile_cons, List.takeWhile_cons]
    · rw [if_neg h, vp_span r (cur ++ [c])]
      have : (c != 47) = true := by simpa using h
      rw [List.dropWhile_cons, List.takeWhile_cons, this, if_pos rfl, if_pos rfl, List.append_assoc, List.singleton_append]

theorem vp_app : ∀ (a k b : List UInt8), vp k (a ++ 47 :: b) = (vp k a && vp [] b)
  | [], k, b => by simp [vp]
  | c :: a, k, b => by
    rw [List.cons_append, vp, vp]
    by_cases h : c = 47
    · rw [if_pos h, if_pos h, vp_app a [] b, Bool.and_assoc]
    · rw [if_neg h, if_neg h, vp_app a _ b]

theorem vp_no : ∀ (l k : List UInt8), l.all letB = true → vp k l = okPart (k ++ l)
  | [], k, _ => by simp [vp]
  | c :: l, k, h => by
    simp only [List.all_cons, Bool.and_eq_true] at h
    have hc : ¬ c = 47 := fun e => by rw [e, letB_slash] at h; exact absurd h.1 (by decide)
    rw [vp, if_neg hc, vp_no l _ h.2, List.append_assoc, List.singleton_append]

theorem vp_cur : ∀ (l k : List UInt8), k.all letB = false → vp k l = false
  | [], k, h => by simp [vp, okPart, h]
  | c :: l, k, h => by
    rw [vp]
    split
    · simp [okPart, h]
    · exact vp_cur l _ (by simp [h])

theorem vp_bad : ∀ (a k b : List UInt8) (c : UInt8), c ≠ 47 → letB c = false → vp k (a ++ c :: b) = false
  | [], k, b, c, h1, h2 => by
    rw [List.nil_append, vp, if_neg h1]
    exact vp_cur b _ (by simp [h2])
  | d :: a, k, b, c, h1, h2 => by
    rw [List.cons_append, vp]
    split
    · rw [vp_bad a [] b c h1 h2, Bool.and_false]
    · exact vp_bad a _ b c h1 h2

/-- letters alone -/
theorem letters_f {f : Int → Option (Step Int (Unit ⊕ Unit))} {l : List UInt8} (hl : l.length ≤ 1000)
    (hf : ∀ x, f x = if decide (x < ((str l).size : Int)) = true then (sAt? (str l) x).bind fun y1 => (treepatch_Letter y1).bind fun y2 => if (!y2) = true then some (Step.done (Sum.inl ())) else (ckK .i64 (x + 1)).bind fun z1 => some (Step.next z1) else some (Step.done (Sum.inr ()))) :
    iter (fun s => f s) 0 = some (if l.all letB = true then .inr () else .inl ()) := by
  have key : ∀ (r : List UInt8) (k : Nat), l.drop k = r → iter (fun s => f s) (k : Int) = some (if r.all letB = true then .inr () else .inl ()) := by
    intro r
    induction r with
    | nil =>
      intro k hk
      have := drop_end hk
      refine iter_done ?_
      rw [hf, ite_dec, if_neg (by rw [str_size]; omega)]; rfl
    | cons c r ih =>
      intro k hk
      obtain ⟨hlt, hc, hr⟩ := drop_at hk
      have e : f (k : Int) = if letB c = true then some (Step.next ((k : Int) + 1)) else some (Step.done (.inl ())) := by
        rw [hf, ite_dec, if_pos (by rw [str_size]; omega), sAt_str hlt, Option.bind_some, hc, letter_f, Option.bind_some]
        cases letB c
        · rfl
        · rw [if_neg (by decide), ck_eq (by omega) (by omega)]; rfl
      cases h : letB c with
      | false =>
        rw [h, if_neg (by decide)] at e
        rw [iter_done e]; simp [h]
      | true =>
        rw [h, if_pos rfl] at e
        rw [iter_next e, show ((k : Int) + 1) = ((k + 1 : Nat) : Int) from rfl, ih (k + 1) hr]
        simp [h]
  exact key l 0 rfl

theorem bad_f (p : List UInt8) : ((if decide (str p = (⟨#[]⟩ : ByteArray)) then some true else some (decide (str p = (⟨#[46]⟩ : ByteArray)))).bind fun x2 =>
    (if x2 then some true else some (decide (str p = (⟨#[46, 46]⟩ : ByteArray))))) = some (badP p) := by
  rw [show (⟨#[]⟩ : ByteArray) = str [] from rfl, show (⟨#[46]⟩ : ByteArray) = str [46] from rfl, show (⟨#[46, 46]⟩ : ByteArray) = str [46, 46] from rfl]
  simp only [orS, Option.bind_some, str_dec]
  rfl

theorem badK_f (p : List UInt8) {β : Type} (K : Bool → Option β) : ((if decide (str p = (⟨#[]⟩ : ByteArray)) then some true else some (decide (str p = (⟨#[46]⟩ : ByteArray)))).bind fun x2 =>
    (if x2 then some true else some (decide (str p = (⟨#[46, 46]⟩ : ByteArray)))).bind K) = K (badP p) := by
  have := bad_f p
  rw [← Option.bind_assoc, this, Option.bind_some]

theorem vj1_f {p : List UInt8} (hp : p.length ≤ 1000) : treepatch_ValidPath.j1 (str p) = some (okPart p) := by
  unfold treepatch_ValidPath.j1
  rw [badK_f]
  cases h : badP p with
  | true => simp [okPart, h, treepatch_ValidPath.j2]
  | false =>
    rw [if_neg (by decide), letters_f (f := fun x => treepatch_ValidPath.l1 (str p) x) hp (fun x => rfl), Option.bind_some]
    unfold okPart
    rw [h]
    cases p.all letB <;> rfl

theorem idx_f (l : List UInt8) : Lib.indexByte l 47 = match l.dropWhile (· != 47) with
    | [] => -1
    | _ :: _ => ((l.takeWhile (· != 47)).length : Int) := by
  induction l with
  | nil => rfl
  | cons c r ih =>
    unfold Lib.indexByte
    by_cases h : c = 47
    · subst h; simp [List.dropWhile_cons, List.takeWhile_cons]
    · have h2 : (c != 47) = true := by simpa using h
      rw [List.dropWhile_cons, List.takeWhile_cons, h2, if_pos rfl, if_pos rfl]
      have h3 : (c == 47) = false := by simpa using h
      rw [ih]
      cases hd : r.dropWhile (· != 47) with
      | nil => simp [h3, h]
      | cons a b => simp [h3, h] <;> omega

theorem index_f (l : List UInt8) : strings_Index (str l) = some (Lib.indexByte l 47) := by
  unfold strings_Index stringslite_Index
  rw [ite_dec]
  by_cases h : (⟨#[47]⟩ : ByteArray) = str l
  · rw [if_pos h]
    have : l = [47] := (str_inj (a := [47]) (b := l) h).symm
    subst this; rfl
  · rw [if_neg h]
    show (some (idxB (str l) 47)).bind _ = _
    unfold idxB
    rw [show (str l).data.toList = l from bts_str l]; rfl

noncomputable def outV : Bool ⊕ ByteArray → Option Bool := fun r => match r with
  | .inl p => some p
  | .inr p => treepatch_ValidPath.j1 p

theorem vp_iter : ∀ (n : Nat) (l : List UInt8), l.length < n → l.length ≤ 60 → (iter (fun s => treepatch_ValidPath.l2 s) (str l)).bind outV = some (vp [] l)
  | 0, _, h, _ => absurd h (by omega)
  | n + 1, l, hn, hl => by
    have hi := idx_f l
    have hs := vp_span l []
    have htd : l.takeWhile (· != 47) ++ l.dropWhile (· != 47) = l := List.takeWhile_append_dropWhile
    have e : treepatch_ValidPath.l2 (str l) = treepatch_ValidPath.l2 (str l) := rfl
    conv at e => rhs; unfold treepatch_ValidPath.l2
    rw [index_f, Option.bind_some] at e
    simp only [List.nil_append] at hs
    generalize ha : l.takeWhile (· != 47) = a at hi hs htd
    cases hd : l.dropWhile (· != 47) with
    | nil =>
      rw [hd] at hi hs htd
      simp only at hi hs
      simp only [List.append_nil] at htd
      rw [hi, if_pos (by decide)] at e
      rw [iter_done e, Option.bind_some, hs]
      rw [htd]
      exact vj1_f (by omega)
    | cons c r =>
      rw [hd] at hi hs htd
      have hc : c = 47 := by
        have := List.head?_dropWhile_not (fun x : UInt8 => x != 47) l
        rw [hd] at this
        simpa using this
      subst hc
      simp only at hi hs
      have hlen : a.length + r.length + 1 = l.length := by rw [← htd]; simp; omega
      have hcut : scut? (str l) 0 (a.length : Int) = some (str a) := by
        have := scut_str (l := l) (i := 0) (j := a.length) (by omega) (by omega)
        rw [show ((0 : Nat) : Int) = 0 from rfl] at this
        rw [this, ← htd]; simp
      rw [hi, ite_dec, if_neg (by omega), Int.add_zero, ck_eq (by omega) (by omega), Option.bind_some, hcut, Option.bind_some, badK_f] at e
      unfold okPart at hs
      cases hb : badP a with
      | true =>
        rw [hb] at e hs
        rw [if_pos rfl] at e
        rw [iter_done (show _ = some (Step.done (Sum.inl false)) from e), hs]; rfl
      | false =>
        rw [hb] at e hs
        rw [if_neg (by decide), letters_f (f := fun x => treepatch_ValidPath.l3 (str a) x) (by omega) (fun x => rfl), Option.bind_some] at e
        cases hq : a.all letB with
        | false =>
          rw [hq] at e hs
          rw [iter_done (show _ = some (Step.done (Sum.inl false)) from e), hs]; rfl
        | true =>
          rw [hq] at e hs
          have hcut2 : scut? (str l) ((a.length : Int) + 1) ((str l).size : Int) = some (str r) := by
            have := scut_str (l := l) (i := a.length + 1) (j := l.length) (by omega) (by omega)
            rw [str_size]
            rw [show (((a.length + 1 : Nat)) : Int) = (a.length : Int) + 1 from rfl] at this
            rw [this, List.take_length, ← htd]
            simp
          simp only [if_pos rfl, treepatch_ValidPath.j7, treepatch_ValidPath.j6] at e
          rw [ck_eq (by omega) (by omega), Option.bind_some, hcut2, Option.bind_some] at e
          rw [iter_next e, vp_iter n r (by omega) (by omega), hs]; rfl

theorem ValidPath_f (s : ByteArray) : treepatch_ValidPath s = some (pathB s) := by
  unfold treepatch_ValidPath pathB
  rw [ite_dec]
  by_cases h : s.size ≤ 60
  · rw [if_neg (by omega)]
    have := vp_iter ((bts s).length + 1) (bts s) (by omega) (by rw [bts_len]; exact h)
    rw [str_bts] at this
    rw [decide_eq_true h, Bool.true_and]
    exact this
  · rw [if_pos (by omega), decide_eq_false h]; rfl

/-! ## the reference's check, from right to left -/
noncomputable def outR : Bool ⊕ Unit → Option Bool := fun r => match r with
  | .inl p => some p
  | .inr _ => changeforgeref2_PathValid.j1

theorem rv_iter : ∀ (n : Nat) (l cur suf : List UInt8) (s : List UInt8), l.length = n → s = l ++ cur ++ suf → s.length ≤ 60 → cur.all letB = true →
    (iter (fun x => changeforgeref2_PathValid.l1 (str s) x.1 x.2) ((l.length : Int) - 1, ((l.length + cur.length : Nat) : Int))).bind outR = some (vp [] (l ++ cur))
  | 0, l, cur, suf, s, hn, hs, hl, hc => by
    obtain rfl : l = [] := List.eq_nil_of_length_eq_zero hn
    simp only [List.nil_append] at hs
    have hlen : s.length = cur.length + suf.length := by rw [hs]; simp
    have hcut : scut? (str s) 0 ((cur.length : Nat) : Int) = some (str cur) := by
      have := scut_str (l := s) (i := 0) (j := cur.length) (by omega) (by omega)
      rw [show ((0 : Nat) : Int) = 0 from rfl] at this
      rw [this, hs]; simp
    have e : changeforgeref2_PathValid.l1 (str s) (-1) ((cur.length : Nat) : Int) = if badP cur = true then some (Step.done (Sum.inl false)) else some (Step.next (-2, -1)) := by
      simp only [changeforgeref2_PathValid.l1]
      rw [if_pos (by decide), if_neg (by decide), Option.bind_some, if_neg (by decide), show ((-1 : Int) + 1) = 0 from rfl, ck_eq (by omega) (by omega), Option.bind_some, hcut, Option.bind_some, badK_f]
      cases badP cur
      · rfl
      · rfl
    have hv := vp_no cur [] hc
    rw [List.nil_append] at hv ⊢
    rw [hv]
    simp only [List.length_nil, Nat.zero_add]
    rw [show (((0 : Nat) : Int) - 1) = -1 from rfl]
    unfold okPart
    rw [hc, Bool.and_true]
    cases hb : badP cur with
    | true =>
      rw [hb, if_pos rfl] at e
      rw [iter_done e]; rfl
    | false =>
      rw [hb, if_neg (by decide)] at e
      have e2 : changeforgeref2_PathValid.l1 (str s) (-2) (-1) = some (Step.done (Sum.inr ())) := by
        simp only [changeforgeref2_PathValid.l1]
        rw [if_neg (by decide)]
      rw [iter_next e, iter_done e2]; rfl
  | n + 1, l, cur, suf, s, hn, hs, hl, hc => by
    obtain ⟨l', c, rfl⟩ : ∃ l' c, l = l' ++ [c] := by
      rcases List.eq_nil_or_concat l with h | ⟨a, b, h⟩
      · rw [h] at hn; simp at hn
      · exact ⟨a, b, by simpa using h⟩
    simp only [List.length_append, List.length_singleton] at hn ⊢
    have hs2 : s = l' ++ c :: (cur ++ suf) := by rw [hs]; simp
    have hlen : s.length = l'.length + 1 + cur.length + suf.length := by rw [hs]; simp; omega
    have hat : sAt? (str s) ((l'.length : Nat) : Int) = some ((c.toNat : Nat) : Int) := by
      rw [sAt_str (by omega)]
      congr 2
      simp [hs2]
    have hx : (((l'.length + 1 : Nat)) : Int) - 1 = ((l'.length : Nat) : Int) := by omega
    rw [hx]
    have k47 : decide (((c.toNat : Nat) : Int) = 47) = decide (c = 47) := decide_eq_decide.2 ⟨fun h => UInt8.toNat_inj.1 (by have : (47 : UInt8).toNat = 47 := rfl; omega), fun h => by rw [h]; rfl⟩
    by_cases h47 : c = 47
    · -- a part ends
      have hcut : scut? (str s) ((l'.length : Int) + 1) (((l'.length + 1 + cur.length : Nat)) : Int) = some (str cur) := by
        have := scut_str (l := s) (i := l'.length + 1) (j := l'.length + 1 + cur.length) (by omega) (by omega)
        rw [show (((l'.length + 1 : Nat)) : Int) = (l'.length : Int) + 1 from rfl] at this
        have hs3 : s = (l' ++ [c]) ++ (cur ++ suf) := by rw [hs]; simp
        rw [this, hs3, List.drop_take, List.drop_left' (by simp), show l'.length + 1 + cur.length - (l'.length + 1) = cur.length by omega, List.take_left' rfl]
      have e : changeforgeref2_PathValid.l1 (str s) ((l'.length : Nat) : Int) (((l'.length + 1 + cur.length : Nat)) : Int) = if badP cur = true then some (Step.done (Sum.inl false)) else some (Step.next ((l'.length : Int) - 1, (l'.length : Int))) := by
        simp only [changeforgeref2_PathValid.l1]
        rw [ite_dec, if_pos (by omega), ite_dec, if_pos (by omega), hat, Option.bind_some, k47, decide_eq_true h47]
        simp only [Bool.not_true, Option.bind_some]
        rw [if_neg (by decide), ck_eq (by omega) (by omega), Option.bind_some, hcut, Option.bind_some, badK_f]
        cases badP cur
        · rw [if_neg (by decide), if_neg (by decide)]
          unfold changeforgeref2_PathValid.j2
          rw [ck_eq (by omega) (by omega)]; rfl
        · rfl
      have hv : vp [] (l' ++ [c] ++ cur) = (vp [] l' && !badP cur) := by
        rw [List.append_assoc, List.singleton_append, h47, vp_app, vp_no cur [] hc]
        unfold okPart
        rw [List.nil_append, hc, Bool.and_true]
      rw [hv]
      cases hb : badP cur with
      | true =>
        rw [hb, if_pos rfl] at e
        rw [iter_done e]; simp [outR]
      | false =>
        rw [hb, if_neg (by decide)] at e
        rw [iter_next e]
        have ih := rv_iter n l' [] (c :: (cur ++ suf)) s (by omega) (by rw [hs2]; simp) hl rfl
        simp only [List.length_nil, Nat.add_zero, List.append_nil] at ih
        rw [ih]; simp
    · -- a letter, or not
      have e : changeforgeref2_PathValid.l1 (str s) ((l'.length : Nat) : Int) (((l'.length + 1 + cur.length : Nat)) : Int) = if letB c = true then some (Step.next ((l'.length : Int) - 1, (((l'.length + 1 + cur.length : Nat)) : Int))) else some (Step.done (Sum.inl false)) := by
        simp only [changeforgeref2_PathValid.l1]
        rw [ite_dec, if_pos (by omega), ite_dec, if_pos (by omega), hat, Option.bind_some, k47, decide_eq_false h47]
        simp only [Bool.not_false, Option.bind_some]
        rw [if_pos trivial, pathByte_f, Option.bind_some]
        cases letB c
        · rfl
        · rw [if_neg (by decide), if_pos rfl]
          unfold changeforgeref2_PathValid.j2
          rw [ck_eq (by omega) (by omega)]; rfl
      cases hb : letB c with
      | false =>
        rw [hb, if_neg (by decide)] at e
        rw [iter_done e, List.append_assoc, List.singleton_append, vp_bad l' [] cur c h47 hb]; rfl
      | true =>
        rw [hb, if_pos rfl] at e
        rw [iter_next e]
        have ih := rv_iter n l' (c :: cur) suf s (by omega) (by rw [hs2]; simp) hl (by simp [hb, hc])
        rw [show l'.length + (c :: cur).length = l'.length + 1 + cur.length by simp; omega] at ih
        rw [ih]; simp

theorem PathValid_f (s : ByteArray) : changeforgeref2_PathValid s = some (pathB s) := by
  unfold changeforgeref2_PathValid pathB
  rw [ite_dec]
  by_cases h : s.size ≤ 60
  · rw [if_neg (by omega), ck_eq (by omega) (by omega), Option.bind_some]
    have := rv_iter (bts s).length (bts s) [] [] (bts s) rfl (by simp) (by rw [bts_len]; exact h) rfl
    rw [str_bts] at this
    simp only [List.length_nil, Nat.add_zero, List.append_nil, bts_len] at this
    rw [decide_eq_true h, Bool.true_and]
    exact this
  · rw [if_pos (by omega), decide_eq_false h]; rfl

theorem pathB_size {s : ByteArray} (h : pathB s = true) : s.size ≤ 60 := by
  unfold pathB at h
  simp only [Bool.and_eq_true, decide_eq_true_eq] at h
  exact h.1

/-! ## related paths -/
def slb (x y : List UInt8) : Bool := decide (y.take (x.length + 1) = x ++ [47])
def relB (a b : ByteArray) : Bool := decide (a = b) || slb (bts b) (bts a) || slb (bts a) (bts b)

theorem relB_comm (a b : ByteArray) : relB a b = relB b a := by
  unfold relB
  rw [show decide (a = b) = decide (b = a) from decide_eq_decide.2 eq_comm, Bool.or_assoc, Bool.or_assoc, Bool.or_comm (slb (bts b) (bts a))]
theorem relB_self (a : ByteArray) : relB a a = true := by simp [relB]

theorem hasPrefix_f (s p : List UInt8) : strings_HasPrefix (str s) (str p) = some (decide (s.take p.length = p)) := by
  unfold strings_HasPrefix stringslite_HasPrefix
  rw [ite_dec]
  by_cases h : p.length ≤ s.length
  · have hc := scut_str (l := s) (i := 0) (j := p.length) (by omega) h
    rw [show ((0 : Nat) : Int) = 0 from rfl, List.drop_zero] at hc
    rw [if_pos (by rw [str_size, str_size]; omega), str_size, hc]
    simp only [Option.bind_some, str_dec]
  · rw [if_neg (by rw [str_size, str_size]; omega)]
    have : ¬ s.take p.length = p := fun e => by
      have := congrArg List.length e
      simp at this; omega
    rw [decide_eq_false this]; rfl

theorem cat_str {a b : List UInt8} (h : a.length + b.length ≤ 9223372036854775807) : cat? (str a) (str b) = some (str (a ++ b)) := by
  unfold cat?
  rw [if_pos (by rw [str_size, str_size]; exact h)]
  refine congrArg some (bts_inj ?_)
  rw [bts_str]
  show (str a ++ str b).data.toList = a ++ b
  rw [ByteArray.data_append]
  simp [str]

theorem Related_f {a b : ByteArray} (ha : a.size ≤ 1000000) (hb : b.size ≤ 1000000) : treepatch_Related a b = some (relB a b) := by
  have h1 := cat_str (a := bts b) (b := [47]) (by rw [bts_len]; simp; omega)
  have h2 := cat_str (a := bts a) (b := [47]) (by rw [bts_len]; simp; omega)
  have g1 := hasPrefix_f (bts a) (bts b ++ [47])
  have g2 := hasPrefix_f (bts b) (bts a ++ [47])
  rw [str_bts] at h1 h2 g1 g2
  unfold treepatch_Related
  rw [show (⟨#[47]⟩ : ByteArray) = str [47] from rfl, h1, h2]
  simp only [Option.bind_some]
  rw [g1, g2]
  simp only [Option.bind_some, orS]
  unfold relB slb
  simp

theorem rrel_body {a b : ByteArray} (h : a.size ≤ b.size) (rec : ByteArray → ByteArray → Option Bool) : changeforgeref2_Related.body rec a b = some (relB a b) := by
  unfold changeforgeref2_Related.body
  have hc := scut_str (l := bts b) (i := 0) (j := a.size) (by omega) (by rw [bts_len]; exact h)
  rw [show ((0 : Nat) : Int) = 0 from rfl, List.drop_zero, str_bts] at hc
  rw [ite_dec, if_neg (by omega), hc, Option.bind_some]
  have hn : slb (bts b) (bts a) = false := by
    unfold slb
    refine decide_eq_false fun e => ?_
    have := congrArg List.length e
    simp [bts_len] at this
    omega
  unfold relB
  rw [hn, Bool.or_false]
  have hd : decide (str ((bts b).take a.size) = a) = decide ((bts b).take a.size = bts a) := decide_eq_decide.2 ⟨fun h => by have := congrArg bts h; rwa [bts_str] at this, fun h => by rw [h, str_bts]⟩
  rw [hd, ite_dec]
  by_cases ht : (bts b).take a.size = bts a
  · rw [if_pos ht, ite_dec]
    by_cases hsz : a.size = b.size
    · rw [if_pos (by omega)]
      have : a = b := bts_inj (by rw [← ht, hsz, ← bts_len, List.take_length])
      rw [decide_eq_true this]; rfl
    · rw [if_neg (by omega)]
      have hlt : a.size < (bts b).length := by rw [bts_len]; omega
      have hat := sAt_str hlt
      rw [str_bts] at hat
      rw [hat]
      have hne : ¬ a = b := fun e => hsz (by rw [e])
      rw [decide_eq_false hne, Bool.false_or]
      simp only [Option.bind_some]
      unfold slb
      congr 1
      refine decide_eq_decide.2 ?_
      rw [bts_len, List.take_succ_eq_append_getElem hlt, ht]
      constructor
      · intro h
        rw [show (bts b)[a.size] = 47 from UInt8.toNat_inj.1 (by have : (47 : UInt8).toNat = 47 := rfl; omega)]
      · intro h
        have := List.append_cancel_left h
        simp at this
        rw [this]; rfl
  · rw [if_neg ht]
    have h1 : ¬ a = b := fun e => ht (by rw [e, ← bts_len, List.take_length])
    have h2 : slb (bts a) (bts b) = false := by
      unfold slb
      refine decide_eq_false fun e => ht ?_
      have := congrArg (List.take a.size) e
      rw [List.take_take, bts_len, Nat.min_eq_left (by omega), List.take_append_of_le_length (by rw [bts_len]; omega)] at this
      rw [this, ← bts_len, List.take_length]
    rw [decide_eq_false h1, h2]; rfl

theorem RRelated_f (a b : ByteArray) : changeforgeref2_Related a b = some (relB a b) := by
  unfold changeforgeref2_Related changeforgeref2_Related.m
  by_cases h : a.size ≤ b.size
  · exact rrel_body h _
  · unfold changeforgeref2_Related.body
    rw [ite_dec, if_pos (by omega)]
    unfold changeforgeref2_Related.m
    rw [rrel_body (by omega), Option.bind_some, relB_comm]
end Go.Dc
