/- A commuted pair has the same effect on a text. -/
import Derived.Test.YtjmigclbilnajaaDoorDcUH
set_option linter.unusedSimpArgs false
namespace Go.Dc
open Go

def Val0 (m : List Pc) : Prop := ∀ c ∈ m, 0 ≤ c.g
def FitB : List Pc → List ByteArray → Prop
  | [], _ => True
  | c :: r, t => c.g.toNat + c.o.length ≤ t.length ∧ (t.drop c.g.toNat).take c.o.length = c.o ∧ FitB r (t.drop (c.g.toNat + c.o.length))
def bothP : List Pc → List ByteArray → List ByteArray
  | [], t => t
  | c :: r, t => t.take c.g.toNat ++ (c.n ++ bothP r (t.drop (c.g.toNat + c.o.length)))

theorem rawS_cut : ∀ (hs : List Hunk) (T : List ByteArray) (b n : Nat), (∀ h ∈ hs, ((b + n : Nat) : Int) ≤ h.At) → rawS hs T b = (T.drop b).take n ++ rawS hs T (b + n)
  | [], T, b, n, _ => by rw [rawS, rawS, ← List.drop_drop, List.take_append_drop]
  | h :: r, T, b, n, ha => by
    have := ha h (by simp)
    rw [rawS, rawS, show h.At.toNat - b = n + (h.At.toNat - (b + n)) by omega, List.take_add, List.drop_drop, List.append_assoc]

theorem sel_above0 (t u : Bool) : ∀ (m : List Pc) (e : Int), Val0 m → ∀ h ∈ sel t u e m, e ≤ h.At
  | [], _, _, _, hh => by cases hh
  | c :: r, e, hv, h, hh => by
    have h1 := hv c (by simp)
    have hv' : Val0 r := fun x hx => hv x (List.mem_cons_of_mem _ hx)
    rw [sel] at hh
    split at hh
    · rcases List.mem_cons.1 hh with rfl | hh
      · show e ≤ e + c.g; omega
      · have := sel_above0 t u r _ hv' h hh; omega
    · have := sel_above0 t u r _ hv' h hh
      split at this <;> omega

theorem drop_of_append {α : Type} {T x y : List α} {c n : Nat} (h : T.drop c = x ++ y) (hx : x.length = n) : T.drop (c + n) = y := by
  rw [← List.drop_drop, h, ← hx, List.drop_left]
theorem len_of_drop {α : Type} {T x : List α} {c : Nat} (h : T.drop c = x) (hc : c ≤ T.length) : T.length = c + x.length := by
  rw [← h, List.length_drop]; omega

theorem fit_of : ∀ (m : List Pc) (T T1 : List ByteArray) (b c : Nat), Val0 m → b ≤ T.length → c ≤ T1.length → T1.drop c = rawS (sel true false b m) T b → Fits T (sel true false b m) → Fits T1 (sel false true c m) → FitB m (T.drop b)
  | [], _, _, _, _, _, _, _, _, _, _ => trivial
  | x :: r, T, T1, b, c, hv, hb, hc, he, hp, hq => by
    have h1 := hv x (by simp)
    have hv' : Val0 r := fun y hy => hv y (List.mem_cons_of_mem _ hy)
    have pb : (b : Int) + x.g + (x.o.length : Int) = ((b + x.g.toNat + x.o.length : Nat) : Int) := by omega
    by_cases hk : x.k = true
    · have hk2 : ¬ x.k = false := by rw [hk]; decide
      rw [sel_s hk, pb] at he hp
      rw [sel_n hk2, show (c : Int) + x.g + (x.n.length : Int) = ((c + x.g.toNat + x.n.length : Nat) : Int) by omega] at hq
      have ho := hp _ (List.mem_cons_self ..)
      simp only at ho
      rw [show ((b : Int) + x.g).toNat = b + x.g.toNat by omega] at ho
      have hl := occ_len ho
      rw [rawS] at he
      simp only at he
      rw [show ((b : Int) + x.g).toNat = b + x.g.toNat by omega, show b + x.g.toNat - b = x.g.toNat by omega] at he
      have ht : ((T.drop b).take x.g.toNat).length = x.g.toNat := by simp; omega
      rw [← List.append_assoc] at he
      have hd := drop_of_append he (n := x.g.toNat + x.n.length) (by rw [List.length_append, ht])
      have hlen := len_of_drop he hc
      rw [List.length_append, List.length_append, ht] at hlen
      have := fit_of r T T1 (b + x.g.toNat + x.o.length) (c + x.g.toNat + x.n.length) hv' hl (by omega) (by rw [Nat.add_assoc c]; exact hd) (fun y hy => hp y (List.mem_cons_of_mem _ hy)) hq
      refine ⟨by rw [List.length_drop]; omega, by rw [List.drop_drop]; exact ho.2, ?_⟩
      rw [List.drop_drop, ← Nat.add_assoc]; exact this
    · have hk' : x.k = false := by simpa using hk
      rw [sel_o hk, pb] at he hp
      rw [sel_s hk', show (c : Int) + x.g + (x.o.length : Int) = ((c + x.g.toNat + x.o.length : Nat) : Int) by omega] at hq
      have ho := hq _ (List.mem_cons_self ..)
      simp only at ho
      rw [show ((c : Int) + x.g).toNat = c + x.g.toNat by omega] at ho
      have hl := occ_len ho
      have hab := sel_above0 true false r ((b + x.g.toNat + x.o.length : Nat) : Int) hv'
      rw [rawS_cut _ T b (x.g.toNat + x.o.length) (fun h hh => by have := hab h hh; omega)] at he
      -- the text is long enough
      have hlong : b + (x.g.toNat + x.o.length) ≤ T.length := by
        cases hcase : sel true false ((b + x.g.toNat + x.o.length : Nat) : Int) r with
        | nil =>
          rw [hcase, rawS] at he
          have := len_of_drop he hc
          rw [List.length_append, List.length_take, List.length_drop, List.length_drop] at this
          omega
        | cons h hs =>
          have hm : h ∈ sel true false ((b + x.g.toNat + x.o.length : Nat) : Int) r := by rw [hcase]; simp
          have q1 := hab h hm
          have q2 := (hp h hm).1
          omega
      have ht : ((T.drop b).take (x.g.toNat + x.o.length)).length = x.g.toNat + x.o.length := by simp; omega
      have hd := drop_of_append he ht
      have hlen := len_of_drop he hc
      rw [List.length_append, ht] at hlen
      have := fit_of r T T1 (b + x.g.toNat + x.o.length) (c + x.g.toNat + x.o.length) hv' (by omega) (by omega) (by rw [← Nat.add_assoc, ← Nat.add_assoc] at hd; exact hd) hp (fun y hy => hq y (List.mem_cons_of_mem _ hy))
      refine ⟨by rw [List.length_drop]; omega, ?_, ?_⟩
      · have h2 := ho.2
        rw [← List.drop_drop, he, List.drop_append_of_le_length (by omega), List.take_append_of_le_length (by rw [List.length_drop]; omega)] at h2
        rw [List.drop_take, List.take_take, show min x.o.length (x.g.toNat + x.o.length - x.g.toNat) = x.o.length by omega] at h2
        exact h2
      · rw [List.drop_drop, ← Nat.add_assoc]; exact this

theorem both_of : ∀ (m : List Pc) (T T1 : List ByteArray) (b c : Nat), Val0 m → b ≤ T.length → c ≤ T1.length → T1.drop c = rawS (sel true false b m) T b → FitB m (T.drop b) →
    Fits T (sel true false b m) ∧ Fits T1 (sel false true c m) ∧ rawS (sel false true c m) T1 c = bothP m (T.drop b)
  | [], T, T1, b, c, _, _, _, he, _ => ⟨(fun _ hh => nomatch hh), (fun _ hh => nomatch hh), he⟩
  | x :: r, T, T1, b, c, hv, hb, hc, he, hf => by
    have h1 := hv x (by simp)
    have hv' : Val0 r := fun y hy => hv y (List.mem_cons_of_mem _ hy)
    have pb : (b : Int) + x.g + (x.o.length : Int) = ((b + x.g.toNat + x.o.length : Nat) : Int) := by omega
    obtain ⟨f1, f2, f3⟩ := hf
    rw [List.length_drop] at f1
    rw [List.drop_drop] at f2 f3
    rw [← Nat.add_assoc] at f3
    by_cases hk : x.k = true
    · have hk2 : ¬ x.k = false := by rw [hk]; decide
      have pc : (c : Int) + x.g + (x.n.length : Int) = ((c + x.g.toNat + x.n.length : Nat) : Int) := by omega
      rw [sel_s hk, pb] at he ⊢
      rw [sel_n hk2, pc]
      rw [rawS] at he
      simp only at he
      rw [show ((b : Int) + x.g).toNat = b + x.g.toNat by omega, show b + x.g.toNat - b = x.g.toNat by omega] at he
      have ht : ((T.drop b).take x.g.toNat).length = x.g.toNat := by simp; omega
      rw [← List.append_assoc] at he
      have hx : ((T.drop b).take x.g.toNat ++ x.n).length = x.g.toNat + x.n.length := by rw [List.length_append, ht]
      have hd := drop_of_append he hx
      have hlen := len_of_drop he hc
      rw [List.length_append, hx] at hlen
      obtain ⟨i1, i2, i3⟩ := both_of r T T1 (b + x.g.toNat + x.o.length) (c + x.g.toNat + x.n.length) hv' (by omega) (by omega) (by rw [Nat.add_assoc c]; exact hd) f3
      refine ⟨fun h hh => ?_, i2, ?_⟩
      · rcases List.mem_cons.1 hh with rfl | hh
        · simp only
          rw [show ((b : Int) + x.g).toNat = b + x.g.toNat by omega]
          exact ⟨by omega, f2⟩
        · exact i1 h hh
      · rw [rawS_cut _ T1 c (x.g.toNat + x.n.length) (fun h hh => by have := sel_above0 false true r _ hv' h hh; omega), he, ← hx, List.take_left, hx, bothP, ← Nat.add_assoc, i3, List.append_assoc, List.drop_drop, ← Nat.add_assoc]
    · have hk' : x.k = false := by simpa using hk
      have pc : (c : Int) + x.g + (x.o.length : Int) = ((c + x.g.toNat + x.o.length : Nat) : Int) := by omega
      rw [sel_o hk, pb] at he ⊢
      rw [sel_s hk', pc]
      rw [rawS_cut _ T b (x.g.toNat + x.o.length) (fun h hh => by have := sel_above0 true false r _ hv' h hh; omega)] at he
      have ht : ((T.drop b).take (x.g.toNat + x.o.length)).length = x.g.toNat + x.o.length := by simp; omega
      have hd := drop_of_append he ht
      have hlen := len_of_drop he hc
      rw [List.length_append, ht] at hlen
      obtain ⟨i1, i2, i3⟩ := both_of r T T1 (b + x.g.toNat + x.o.length) (c + x.g.toNat + x.o.length) hv' (by omega) (by omega) (by rw [← Nat.add_assoc, ← Nat.add_assoc] at hd; exact hd) f3
      have hT1 : (T1.drop c).take x.g.toNat = (T.drop b).take x.g.toNat := by
        rw [he, List.take_append_of_le_length (by omega), List.take_take]
        congr 1
        omega
      refine ⟨i1, fun h hh => ?_, ?_⟩
      · rcases List.mem_cons.1 hh with rfl | hh
        · simp only
          rw [show ((c : Int) + x.g).toNat = c + x.g.toNat by omega]
          refine ⟨by omega, ?_⟩
          rw [← List.drop_drop, he, List.drop_append_of_le_length (by omega), List.take_append_of_le_length (by rw [List.length_drop]; omega), List.drop_take, List.take_take, List.drop_drop,
            show min x.o.length (x.g.toNat + x.o.length - x.g.toNat) = x.o.length by omega]
          exact f2
        · exact i2 h hh
      · rw [rawS]
        simp only
        rw [show ((c : Int) + x.g).toNat = c + x.g.toNat by omega, show c + x.g.toNat - c = x.g.toNat by omega, hT1, i3, bothP, List.drop_drop, ← Nat.add_assoc]

theorem fitB_swp : ∀ (m : List Pc) (t : List ByteArray), FitB (m.map swp) t ↔ FitB m t
  | [], _ => Iff.rfl
  | c :: r, t => by
    rw [List.map_cons, FitB, FitB, show (swp c).g = c.g from rfl, show (swp c).o = c.o from rfl, fitB_swp r]
theorem bothP_swp : ∀ (m : List Pc) (t : List ByteArray), bothP (m.map swp) t = bothP m t
  | [], _ => rfl
  | c :: r, t => by
    rw [List.map_cons, bothP, bothP, show (swp c).g = c.g from rfl, show (swp c).o = c.o from rfl, show (swp c).n = c.n from rfl, bothP_swp r]

/-- from the start of the text -/
def dec1 : List Pc → List Pc
  | [] => []
  | c :: r => ⟨c.k, c.g - 1, c.o, c.n⟩ :: r
theorem sel_dec1 (t u : Bool) (m : List Pc) : sel t u ((0 : Nat) : Int) (dec1 m) = sel t u (-1) m := by
  cases m with
  | nil => rfl
  | cons c r =>
    rw [dec1, sel, sel]
    simp only
    rw [show ((0 : Nat) : Int) + (c.g - 1) = -1 + c.g by omega]
theorem val_dec1 {m : List Pc} (h : Val m) : Val0 (dec1 m) := by
  cases m with
  | nil => intro c hc; cases hc
  | cons c r =>
    intro x hx
    rcases List.mem_cons.1 hx with rfl | hx
    · have := h c (by simp); simp only; omega
    · have := h x (List.mem_cons_of_mem _ hx); omega
theorem dec1_swp (m : List Pc) : dec1 (m.map swp) = (dec1 m).map swp := by cases m <;> rfl

/-- moved past one another, two patches do the same -/
theorem commF_effect {p q : Patch} (h1 : (commF p q).2.2.2.Code = 0) (h2 : (commF p q).2.2.1 = true) (T : List ByteArray) (hp : Fits T p.Hunks) (hq : Fits (rawS p.Hunks T 0) q.Hunks) :
    Fits T (commF p q).1.Hunks ∧ Fits (rawS (commF p q).1.Hunks T 0) (commF p q).2.1.Hunks ∧ rawS (commF p q).2.1.Hunks (rawS (commF p q).1.Hunks T 0) 0 = rawS q.Hunks (rawS p.Hunks T 0) 0 := by
  obtain ⟨a1, a2, a3, a4, a5, a6⟩ := commF_made h1 h2
  obtain ⟨m, m1, m2, m3, m4, m5⟩ := comm_pieces a1 a2 a3
  rw [a6]
  simp only
  rw [← sel_dec1] at m2 m3 m4 m5
  have v := val_dec1 m1
  rw [m2] at hp hq ⊢
  rw [m3] at hq ⊢
  have hf := fit_of (dec1 m) T _ 0 0 v (Nat.zero_le _) (Nat.zero_le _) rfl hp hq
  obtain ⟨_, _, b3⟩ := both_of (dec1 m) T _ 0 0 v (Nat.zero_le _) (Nat.zero_le _) rfl hf
  have v' : Val0 ((dec1 m).map swp) := fun c hc => by
    obtain ⟨x, hx, rfl⟩ := List.mem_map.1 hc
    exact v x hx
  obtain ⟨c1, c2, c3⟩ := both_of ((dec1 m).map swp) T _ 0 0 v' (Nat.zero_le _) (Nat.zero_le _) rfl ((fitB_swp _ _).2 hf)
  rw [sel_swp, sel_swp] at c2 c3
  rw [sel_swp] at c1
  rw [bothP_swp] at c3
  rw [m4, m5]
  exact ⟨c1, c2, c3.trans b3.symm⟩
end Go.Dc
