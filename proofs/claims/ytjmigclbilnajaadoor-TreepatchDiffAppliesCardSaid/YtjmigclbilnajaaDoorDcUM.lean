/- How a change makes a tree into another one: the program's and the document's come to the same function. -/
import Derived.Test.YtjmigclbilnajaaDoorDcUL
import Derived.Test.YtjmigclbilnajaaDoorDcUN
set_option linter.unusedSimpArgs false
set_option linter.unusedVariables false
namespace Go.Dc
open Go

def insF (l : List File) (x : File) : List File := l.take (posF l x.Path) ++ [x] ++ l.drop (posF l x.Path)

theorem has_pos {l : List File} (h : TSrt l) {p : ByteArray} (hh : hasF l p = true) : ∃ hp : posF l p < l.length, l[posF l p].Path = p := by
  rw [has_at h] at hh
  split at hh
  · rename_i hp; exact ⟨hp, of_decide_eq_true hh⟩
  · cases hh

theorem pos_of {l : List File} (h : TSrt l) {j : Nat} (hj : j < l.length) : posF l l[j].Path = j ∧ hasF l l[j].Path = true := by
  have hh : hasF l l[j].Path = true := by
    unfold hasF; rw [List.any_eq_true]; exact ⟨_, List.getElem_mem hj, decide_eq_true rfl⟩
  refine ⟨?_, hh⟩
  obtain ⟨hp, he⟩ := has_pos h hh
  rcases Nat.lt_trichotomy (posF l l[j].Path) j with h1 | h1 | h1
  · have := List.pairwise_iff_getElem.1 h _ _ hp hj h1
    rw [he, sLt_irr] at this; cases this
  · exact h1
  · have := List.pairwise_iff_getElem.1 h _ _ hj hp h1
    rw [he, sLt_irr] at this; cases this

theorem rel_has {l : List File} {p : ByteArray} (h : relAny l p = false) : hasF l p = false := by
  unfold relAny at h
  unfold hasF
  rw [List.any_eq_false] at h ⊢
  intro f hf e
  have := h f hf
  rw [of_decide_eq_true e, relB_self] at this
  exact this rfl

theorem ins_len (l : List File) (x : File) : (insF l x).length = l.length + 1 := by
  have := pos_le l x.Path
  unfold insF; simp; omega

theorem ins_srt {l : List File} (h : TSrt l) {x : File} (hn : hasF l x.Path = false) : TSrt (insF l x) := by
  unfold TSrt insF
  have hlow : ∀ f ∈ l.take (posF l x.Path), sLt f.Path x.Path = true := by
    intro f hf
    rw [List.mem_take_iff_getElem] at hf
    obtain ⟨i, hi, rfl⟩ := hf
    rw [pos_lt h x.Path i (by omega)]
    exact decide_eq_true (by omega)
  have hhigh : ∀ f ∈ l.drop (posF l x.Path), sLt x.Path f.Path = true := by
    intro f hf
    obtain ⟨i, hi, rfl⟩ := List.getElem_of_mem hf
    rw [List.length_drop] at hi
    rw [List.getElem_drop]
    have h1 := pos_lt h x.Path (posF l x.Path + i) (by omega)
    rw [decide_eq_false (by omega)] at h1
    rcases sLt_tri x.Path l[posF l x.Path + i].Path with h2 | h2 | h2
    · exact h2
    · unfold hasF at hn
      rw [List.any_eq_false] at hn
      exact absurd (decide_eq_true h2.symm) (hn _ (List.getElem_mem (by omega)))
    · rw [h1] at h2; cases h2
  rw [List.pairwise_append, List.pairwise_append]
  refine ⟨⟨h.sublist (List.take_sublist _ _), List.pairwise_singleton _ _, ?_⟩, h.sublist (List.drop_sublist _ _), ?_⟩
  · intro a ha b hb
    rw [List.mem_singleton] at hb; subst hb
    exact hlow a ha
  · intro a ha b hb
    rcases List.mem_append.1 ha with ha | ha
    · exact sLt_trans (hlow a ha) (hhigh b hb)
    · rw [List.mem_singleton] at ha; subst ha
      exact hhigh b hb

theorem ins_mem {l : List File} {x f : File} : f ∈ insF l x ↔ f = x ∨ f ∈ l := by
  unfold insF
  rw [List.mem_append, List.mem_append, List.mem_singleton]
  conv => rhs; rw [← List.take_append_drop (posF l x.Path) l, List.mem_append]
  constructor
  · rintro ((h | h) | h)
    · exact .inr (.inl h)
    · exact .inl h
    · exact .inr (.inr h)
  · rintro (h | h | h)
    · exact .inl (.inr h)
    · exact .inl (.inl h)
    · exact .inr h

theorem Put_f {l : List File} (h : TSrt l) (hl : l.length ≤ 1000) {p : ByteArray} (hn : hasF l p = false) {L : List ByteArray} (hL : L.length ≤ 1000000) : treepatch_Put ⟨l⟩ p L = some ⟨insF l ⟨p, L⟩⟩ := by
  have hp := pos_le l p
  unfold treepatch_Put
  simp only
  rw [Find_f h (by omega), Option.bind_some, hn, if_pos (by rfl)]
  have e : ins? 40 l ((posF l p : Nat) : Int) [⟨p, []⟩] = some (l.take (posF l p) ++ [⟨p, []⟩] ++ l.drop (posF l p)) := by
    unfold ins?
    simp only
    rw [if_pos (by omega), app_eq (by simp; omega), Option.bind_some, Int.toNat_natCast]
  rw [e, Option.bind_some]
  unfold treepatch_Put.j1
  rw [clone_f _ hL, Option.bind_some]
  simp only
  have hlen : (l.take (posF l p)).length = posF l p := by simp; omega
  rw [at_nat (by simp; omega), Option.bind_some, Option.bind_some, Int.toNat_natCast]
  have e2 : (l.take (posF l p) ++ [(⟨p, []⟩ : File)] ++ l.drop (posF l p))[posF l p]'(by simp; omega) = ⟨p, []⟩ := by
    rw [List.getElem_append_left (by simp; omega), List.getElem_append_right (by omega)]
    simp [hlen]
  rw [e2]
  unfold insF
  congr 2
  rw [List.append_assoc, List.append_assoc, List.set_append_right _ _ (by omega), hlen, Nat.sub_self]
  rfl

theorem del_f (l : List File) {j : Nat} (hj : j < l.length) : del? l (j : Int) ((j + 1 : Nat) : Int) = some (l.eraseIdx j) := by
  unfold del?
  rw [if_pos (by omega), Int.toNat_natCast, Int.toNat_natCast, List.eraseIdx_eq_take_drop_succ]

/-- what a change makes of files -/
def makeF (c : TreeChange) (l : List File) : Int × List File :=
  if c.Kind = 1 then if relAny l c.Path = true then (7, l) else if 24 ≤ l.length then (14, l) else (0, insF l ⟨c.Path, c.Lines⟩)
  else match (if hasF l c.Path = true then l[posF l c.Path]? else Option.none) with
  | Option.none => (6, l)
  | some f =>
    if c.Kind = 2 then if f.Lines ≠ c.Lines then (19, l) else (0, l.eraseIdx (posF l c.Path))
    else if c.Kind = 3 then if relAny (l.eraseIdx (posF l c.Path)) c.To = true then (7, l) else (0, insF (l.eraseIdx (posF l c.Path)) ⟨c.To, f.Lines⟩)
    else if (applyF c.Patch f.Lines).2.Code ≠ 0 then ((applyF c.Patch f.Lines).2.Code, l) else (0, l.set (posF l c.Path) ⟨f.Path, (applyF c.Patch f.Lines).1⟩)

theorem TrOk.text_len {l : List File} (h : TrOk l) {f : File} (hf : f ∈ l) : f.Lines.length ≤ 120 := (h.text f hf).1

theorem make1_f {l : List File} (h : TrOk l) {c : TreeChange} (hc : OkCh c) : treepatch_make1 c ⟨l⟩ = some ((makeF c l).1, ⟨(makeF c l).2⟩) := by
  have hl := h.len
  have hps : ∀ f ∈ l, f.Path.size ≤ 1000000 := fun f hf => by have := pathB_size (h.path f hf); omega
  have hcp := pathB_size hc.path
  have hcl : c.Lines.length ≤ 120 := textFault_len hc.lines
  unfold treepatch_make1 makeF
  simp only
  rw [Find_f h.srt (by omega), Option.bind_some]
  by_cases k1 : c.Kind = 1
  · rw [decide_eq_true k1, if_pos rfl, if_pos k1, clash_f hps (by omega) (by omega), Option.bind_some, clO_all]
    cases hr : relAny l c.Path
    · rw [if_neg Bool.false_ne_true, if_neg Bool.false_ne_true]
      by_cases h24 : 24 ≤ l.length
      · rw [decide_eq_true (by omega), if_pos rfl, if_pos h24]
      · rw [decide_eq_false (by omega), if_neg Bool.false_ne_true, if_neg h24, Put_f h.srt (by omega) (rel_has hr) (by omega), Option.bind_some]
    · rw [if_pos rfl, if_pos rfl]
  rw [decide_eq_false k1, if_neg Bool.false_ne_true, if_neg k1]
  cases hh : hasF l c.Path with
  | false =>
    rw [if_pos (by rfl)]
    simp only [Bool.false_eq_true, if_false]
  | true =>
    obtain ⟨hp, he⟩ := has_pos h.srt hh
    have hfm := List.getElem_mem hp
    have hft := h.text_len hfm
    rw [if_neg (show ¬ ((!true) = true) by decide), at_nat hp, Option.bind_some, if_pos rfl, List.getElem?_eq_getElem hp]
    simp only
    have ez : ckK .i64 (((posF l c.Path : Nat) : Int) + 1) = some ((posF l c.Path + 1 : Nat) : Int) := by
      rw [ck_eq (by omega) (by omega)]; rfl
    by_cases k2 : c.Kind = 2
    · rw [decide_eq_true k2, if_pos rfl, if_pos k2, sequal_f _ _ (by omega), Option.bind_some]
      by_cases ht : l[posF l c.Path].Lines = c.Lines
      · rw [decide_eq_true ht, if_neg (show ¬ ((!true) = true) by decide), if_neg (fun hn => hn ht), ez, Option.bind_some, del_f l hp, Option.bind_some]; rfl
      · rw [decide_eq_false ht, if_pos (by rfl), if_pos ht]
    rw [decide_eq_false k2, if_neg Bool.false_ne_true, if_neg k2]
    by_cases k3 : c.Kind = 3
    · have hto := pathB_size (hc.to k3).1
      have hcl3 := clO_ne (p := c.To) l 0 (posF l c.Path)
      rw [Nat.zero_add] at hcl3
      rw [decide_eq_true k3, if_pos rfl, if_pos k3, clash_f hps (by omega) (by omega), Option.bind_some, hcl3]
      cases hr : relAny (l.eraseIdx (posF l c.Path)) c.To
      · rw [if_neg Bool.false_ne_true, if_neg Bool.false_ne_true, ez, Option.bind_some, del_f l hp, Option.bind_some,
          Put_f (h.srt.sublist (List.eraseIdx_sublist _ _)) (by have := List.length_eraseIdx_le l (posF l c.Path); omega) (rel_has hr) (by omega), Option.bind_some]; rfl
      · rw [if_pos rfl, if_pos rfl]
    · rw [decide_eq_false k3, if_neg Bool.false_ne_true, if_neg k3, apply_f, Option.bind_some]
      by_cases ha : (applyF c.Patch l[posF l c.Path].Lines).2.Code = 0
      · have hi : (applyF c.Patch l[posF l c.Path].Lines).2.Index = 0 := by rw [(applyF_ok ha).2.2.2.2.2]
        rw [decide_eq_true ha, decide_eq_true hi, if_neg (by decide), if_neg (fun hn => hn ha), Option.bind_some, Option.bind_some, Int.toNat_natCast]; rfl
      · rw [if_pos (by simp [ha]), if_pos ha]
end Go.Dc
