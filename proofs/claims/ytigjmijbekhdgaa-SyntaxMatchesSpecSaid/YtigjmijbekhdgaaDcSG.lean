/- Equal trees; the fixed example that each law also checks. -/
import Derived.Test.YtigjmijbekhdgaaDcSF
set_option linter.unusedSimpArgs false
namespace Go.Dc
open Go Fo

theorem ints_refl (a : List Int) (h : a.length ≤ 9223372036854775807) : changeforgeequal_Ints a a = some true := by
  unfold changeforgeequal_Ints
  rw [ite_ndec, if_pos rfl]
  have key : ∀ (rest : List Int) (k : Nat), a.drop k = rest → iter (fun s => changeforgeequal_Ints.l1 a a s) (k : Int) = some (.inr ()) := by
    intro rest
    induction rest with
    | nil =>
      intro k hk
      have := s_drop_end hk
      refine iter_done ?_
      simp only [changeforgeequal_Ints.l1]
      rw [ite_dec, if_neg (by omega)]
    | cons c r ih =>
      intro k hk
      obtain ⟨h1, h2, h3⟩ := s_drop_at hk
      have e : changeforgeequal_Ints.l1 a a (k : Int) = some (Step.next ((k + 1 : Nat) : Int)) := by
        simp only [changeforgeequal_Ints.l1]
        rw [ite_dec, if_pos (by omega), at_nat h1, Option.bind_some, Option.bind_some, ite_ndec, if_pos rfl, ck_eq (by omega) (by omega)]; rfl
      rw [iter_next e]; exact ih (k + 1) h3
  have := key a 0 rfl
  rw [show (((0 : Nat)) : Int) = (0 : Int) from rfl] at this
  rw [this]; rfl

theorem eqS_refl (a : SyntaxTree) (h : a.Nodes.length ≤ 9223372036854775807) (hb : ∀ n ∈ a.Nodes, n.Children.length ≤ 9223372036854775807) : changeforgeequal_Syntax a a = some true := by
  unfold changeforgeequal_Syntax
  rw [ite_ndec, if_pos rfl]
  have key : ∀ (rest : List Node) (k : Nat), a.Nodes.drop k = rest → iter (fun s => changeforgeequal_Syntax.l1 a a s) (k : Int) = some (.inr ()) := by
    intro rest
    induction rest with
    | nil =>
      intro k hk
      have := s_drop_end hk
      refine iter_done ?_
      simp only [changeforgeequal_Syntax.l1]
      rw [ite_dec, if_neg (by omega)]
    | cons c r ih =>
      intro k hk
      obtain ⟨h1, h2, h3⟩ := s_drop_at hk
      have e : changeforgeequal_Syntax.l1 a a (k : Int) = some (Step.next ((k + 1 : Nat) : Int)) := by
        simp only [changeforgeequal_Syntax.l1]
        rw [ite_dec, if_pos (by omega), at_nat h1, Option.bind_some, Option.bind_some, ite_ndec, if_pos rfl, Option.bind_some, Option.bind_some, ints_refl _ (hb _ (List.getElem_mem h1)), Option.bind_some, Option.bind_some, if_neg (by decide), ck_eq (by omega) (by omega)]; rfl
      rw [iter_next e]; exact ih (k + 1) h3
  have := key a.Nodes 0 rfl
  rw [show (((0 : Nat)) : Int) = (0 : Int) from rfl] at this
  rw [this]; rfl

/-- the roots of a part are not more than its nodes -/
theorem fo_kids : ∀ (F : Fo) (b : Nat), ∀ n ∈ fo b F, n.Children.length ≤ sz F
  | .nil, b, n, h => by simp [fo] at h
  | .node l cs r, b, n, h => by
    simp only [fo, List.mem_append, List.mem_cons] at h
    simp only [sz]
    rcases h with h | h | h
    · have := fo_kids cs b n h; omega
    · subst h; have := roots_len_le b cs; simp only []; omega
    · have := fo_kids r _ n h; omega

theorem fo_labs : ∀ (F : Fo) (b : Nat), lab F = true → ∀ n ∈ fo b F, labB n.Label = true
  | .nil, b, _, n, h => by simp [fo] at h
  | .node l cs r, b, hl, n, h => by
    simp only [lab, Bool.and_eq_true] at hl
    simp only [fo, List.mem_append, List.mem_cons] at h
    rcases h with h | h | h
    · exact fo_labs cs b hl.1.2 n h
    · subst h; exact hl.1.1
    · exact fo_labs r _ hl.2 n h

theorem fo_okN {F : Fo} {b : Nat} (hl : lab F = true) (hz : sz F ≤ 9223372036854775807) : OkN (fo b F) := fun n hn => by
  have h1 := lab_len (fo_labs F b hl n hn)
  rw [bts_len] at h1
  exact ⟨by omega, by have := fo_kids F b n hn; omega⟩

theorem okN_nil : OkN [] := fun n h => by cases h

theorem parsed_eq : changeforgelaw2_parsed = some true := by
  have e1 : parseS ⟨#[40, 102, 32, 120, 32, 40, 103, 41, 41]⟩ = (⟨fo 0 (Fo.tr (lbl [102]) (.node (lbl [120]) .nil (Fo.tr (lbl [103]) .nil)))⟩, ⟨0, 0⟩) := by rfl
  unfold changeforgelaw2_parsed
  rw [Parse_f, e1, Option.bind_some]
  have hI : IsT (fo 0 (Fo.tr (lbl [102]) (.node (lbl [120]) .nil (Fo.tr (lbl [103]) .nil)))) (lbl [102]) (.node (lbl [120]) .nil (Fo.tr (lbl [103]) .nil)) := ⟨rfl, ⟨by decide, by decide⟩, by decide⟩
  rw [Print_ok (t := ⟨_⟩) (fo_okN hI.2.1.1 (by decide)) hI, Option.bind_some, if_pos (by decide), if_pos (by decide)]
  have e2 : lbl (txt (lbl [102]) (.node (lbl [120]) .nil (Fo.tr (lbl [103]) .nil))) = ⟨#[40, 102, 32, 120, 32, 103, 41]⟩ := rfl
  simp only []
  rw [e2, ite_dec, if_pos rfl]
  unfold changeforgelaw2_leaf
  rw [Option.bind_some, Option.bind_some, changeforgelaw2_parsed.j2]
  have := eqS_refl ⟨fo 0 (Fo.tr (lbl [102]) (.node (lbl [120]) .nil (Fo.tr (lbl [103]) .nil)))⟩ (by decide) (fun n hn => by have := fo_kids _ _ n hn; simp [sz] at this; omega)
  exact (congrArg (fun o => o.bind fun y5 => changeforgelaw2_parsed.j1 y5) this).trans rfl
end Go.Dc
