/- The law RenameMatchesSpec. -/
import Derived.Test.YthpkobkngplbbaaGreatDoorDcNG
set_option linter.unusedSimpArgs false
set_option linter.unusedVariables false
namespace Go.Dc
open Go

theorem pairs_refl (l : List Arr2_ByteArray) (h : l.length ≤ 1000000) : changeforgeequal_StringPairs l l = some true := by
  unfold changeforgeequal_StringPairs
  rw [if_neg (by simp), scan0 l (fun _ _ => (Option.none : Option Bool)) ?_ ?_, Option.bind_some]
  · have : scanO (fun _ _ => (Option.none : Option Bool)) 0 l = Option.none := by rw [scanO_none]; intro j hj; rfl
    rw [this]; rfl
  · intro k hk _
    unfold changeforgeequal_StringPairs.l1
    rw [ite_dec, if_pos (by omega), at_nat hk, Option.bind_some, Option.bind_some, if_neg (by simp), ck_eq (by omega) (by omega), Option.bind_some]; rfl
  · unfold changeforgeequal_StringPairs.l1
    rw [ite_dec, if_neg (by omega)]

theorem rename_spec (a b : List ByteArray) (old newer : FileTree) (pc : Int) : changeforgelaw2_RenameMatchesSpec a b old newer pc = some true := by
  obtain ⟨out, e1, h0, h1⟩ := Detect_x old newer pc
  have e2 := Renames_f old newer pc h0 h1
  have hl : out.length ≤ 1000000 := by
    by_cases hc : (detFault old newer pc).Code = 0
    · obtain ⟨ps, D⟩ := h1 hc
      have := D.mem.length_eq
      have := D.grd.len
      have := D.len
      omega
    · rw [h0 hc]; simp
  unfold changeforgelaw2_RenameMatchesSpec
  rw [Sketch_x, Option.bind_some, Similarity_x, Option.bind_some, e1, Option.bind_some, e2, Option.bind_some]
  simp only
  rw [pairs_refl _ hl, Option.bind_some, linesFault_f, TwoFault_f]
  simp only [decide_true, Bool.and_self, Bool.not_true, Bool.false_eq_true, if_false, Option.bind_some]
  have hx : ((if decide ((textFault a).Code = 0) = true then (changeforgeref2_Sketched a).bind fun y8 => (changeforgeequal_Ints (if (textFault a).Code ≠ 0 then [] else if a = [] then [] else nums a) y8).bind fun y9 => some !y9 else some false).bind fun x4 =>
      (if x4 = true then some true else (if (!decide ((textFault a).Code = 0)) = true then some (decide (((if (textFault a).Code ≠ 0 then [] else if a = [] then [] else nums a).length : Int) > 0)) else some false).bind fun x6 => some x6)) = some false := by
    by_cases hc : (textFault a).Code = 0
    · have ho := (okText_iff a).2 ((textFault_zero a).2 hc)
      rw [decide_eq_true hc, if_pos rfl, if_neg (fun hh => hh hc), Sketched_f ho, Option.bind_some, ints_eq _ _ (by split <;> simp [nums_len]), Option.bind_some, decide_eq_true rfl]
      rfl
    · rw [decide_eq_false hc, if_neg Bool.false_ne_true, Option.bind_some, if_pos hc]
      rfl
  rw [← Option.bind_assoc, hx, Option.bind_some, if_neg Bool.false_ne_true, ite_ndec]
  by_cases hb : (bothF a b).Code = 0
  · have hab : OkText a ∧ OkText b := by
      unfold bothF at hb
      by_cases h1 : (textFault a).Code = 0
      · rw [if_neg (fun hh => hh h1)] at hb
        by_cases h2 : (textFault b).Code = 0
        · exact ⟨(okText_iff a).2 ((textFault_zero a).2 h1), (okText_iff b).2 ((textFault_zero b).2 h2)⟩
        · rw [if_neg h2] at hb; exact absurd hb h2
      · rw [if_pos h1] at hb; exact absurd hb h1
    have e : (if (bothF a b).Code ≠ 0 then (0 : Int) else simil a b) = simil a b := if_neg (fun hh => hh hb)
    rw [if_pos hb, Percent_f hab.1 hab.2, Option.bind_some, e, decide_eq_true rfl, if_pos rfl, half_eq]; rfl
  · have e : (if (bothF a b).Code ≠ 0 then (0 : Int) else simil a b) = 0 := if_pos hb
    rw [if_neg hb, e, decide_eq_true rfl, if_pos rfl, half_eq]; rfl
end Go.Dc
