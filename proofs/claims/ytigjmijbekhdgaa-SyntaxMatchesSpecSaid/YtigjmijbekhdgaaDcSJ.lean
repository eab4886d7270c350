/- The merge as a whole; laws OneSided, Symmetric, Valid. -/
import Derived.Test.YtigjmijbekhdgaaDcSI
import Derived.Test.YtigjmijbekhdgaaDcSH
set_option linter.unusedSimpArgs false
namespace Go.Dc
open Go Fo

def mfault (b l r : SyntaxTree) : Fault := if (synF b).Code ≠ 0 then synF b else if (synF l).Code ≠ 0 then ⟨(synF l).Code, -2⟩ else ⟨(synF r).Code, -3⟩
abbrev MR := SyntaxTree × List Int × Fault
def resF (M : Fo) (bad : List Int) : MR := if sz M > 80 then (⟨[]⟩, [], ⟨10, -1⟩) else (⟨fo 0 M⟩, bad, ⟨0, 0⟩)

theorem synF_code {t : SyntaxTree} (h : ¬ (synF t).Code ≠ 0) : synF t = ⟨0, 0⟩ ∧ ∃ l cs, IsT t.Nodes l cs := by
  rcases synF_ok t with ⟨h1, _⟩ | h1
  · exact absurd h1 h
  · exact h1

theorem ml_step (b l r t : SyntaxTree) (k : Nat) (hk : k < 3) (ht : [b, l, r][k]? = some t) (hb : OkN t.Nodes) :
    syntax_Merge.l1 b l r (k : Int) = if (synF t).Code ≠ 0 then some (Step.done (.inl (⟨[]⟩, [], ⟨(synF t).Code, if k = 0 then (synF t).Index else -1 - (k : Int)⟩))) else some (Step.next ((k + 1 : Nat) : Int)) := by
  have hlt : k < [b, l, r].length := hk
  have e0 : at? [b, l, r] (k : Int) = some t := by rw [at_nat hlt]; rw [List.getElem?_eq_getElem hlt] at ht; exact ht
  have e1 : ([b, l, r] : List SyntaxTree).length = 3 := rfl
  unfold syntax_Merge.l1 syntax_Merge.j2
  rw [e1, ite_dec, if_pos (by omega), e0, Option.bind_some, Validate_f t hb, Option.bind_some]
  by_cases c : (synF t).Code ≠ 0
  · rw [if_pos c]
    have c' : ((synF t).Code = 0) = False := by simpa using c
    simp only [c', decide_false, Bool.false_and, Bool.not_false, if_true, Option.bind_some]
    by_cases c0 : k = 0
    · subst c0; rfl
    · rw [show decide ((k : Int) > 0) = true from decide_eq_true (by omega), if_pos rfl, ck_eq (by omega) (by omega), Option.bind_some, if_neg c0]
  · rw [if_neg c]
    obtain ⟨h1, _⟩ := synF_code c
    rw [h1]
    simp only []
    rw [if_neg (by decide), Option.bind_some, if_neg (by decide), if_neg (by decide), ck_eq (by omega) (by omega)]; rfl

theorem Merge_bad {b l r : SyntaxTree} (h1 : OkN b.Nodes) (h2 : OkN l.Nodes) (h3 : OkN r.Nodes) (h : (synF b).Code ≠ 0 ∨ (synF l).Code ≠ 0 ∨ (synF r).Code ≠ 0) : syntax_Merge b l r = some (⟨[]⟩, [], mfault b l r) := by
  have s0 := ml_step b l r b 0 (by decide) rfl h1
  have s1 := ml_step b l r l 1 (by decide) rfl h2
  have s2 := ml_step b l r r 2 (by decide) rfl h3
  unfold syntax_Merge mfault
  show (iter (fun s => syntax_Merge.l1 b l r s) ((0 : Nat) : Int)).bind _ = _
  by_cases c0 : (synF b).Code ≠ 0
  · rw [if_pos c0] at s0 ⊢; rw [iter_done s0]; rfl
  · rw [if_neg c0] at s0 ⊢
    rw [iter_next s0]
    by_cases c1 : (synF l).Code ≠ 0
    · rw [if_pos c1] at s1 ⊢; rw [iter_done s1]; rfl
    · rw [if_neg c1] at s1 ⊢
      rw [iter_next s1]
      have c2 : (synF r).Code ≠ 0 := h.elim (fun h => absurd h c0) (fun h => h.elim (fun h => absurd h c1) id)
      rw [if_pos c2] at s2
      rw [iter_done s2]; rfl

theorem Merge_ok {b l r : SyntaxTree} {lo la lb : ByteArray} {xo xa xb : Fo} (h1 : IsT b.Nodes lo xo) (h2 : IsT l.Nodes la xa) (h3 : IsT r.Nodes lb xb) :
    syntax_Merge b l r = some (resF (mrgF (Fo.tr lo xo) (Fo.tr la xa) (Fo.tr lb xb)) (badF 0 (Fo.tr lo xo) (Fo.tr la xa) (Fo.tr lb xb))) := by
  have s0 := ml_step b l r b 0 (by decide) rfl h1.ok
  have s1 := ml_step b l r l 1 (by decide) rfl h2.ok
  have s2 := ml_step b l r r 2 (by decide) rfl h3.ok
  rw [if_neg (by rw [h1.synF]; simp)] at s0
  rw [if_neg (by rw [h2.synF]; simp)] at s1
  rw [if_neg (by rw [h3.synF]; simp)] at s2
  have s3 : syntax_Merge.l1 b l r ((3 : Nat) : Int) = some (Step.done (.inr ())) := by
    unfold syntax_Merge.l1
    rw [show ([b, l, r] : List SyntaxTree).length = 3 from rfl, ite_dec, if_neg (by omega)]
  unfold syntax_Merge
  show (iter (fun s => syntax_Merge.l1 b l r s) ((0 : Nat) : Int)).bind _ = _
  rw [iter_next s0, iter_next s1, iter_next s2, iter_done s3, Option.bind_some]
  simp only []
  have n1 := h1.2.2
  have n2 := h2.2.2
  have n3 := h3.2.2
  have e1 := h1.len
  have e2 := h2.len
  have e3 := h3.len
  have A1 : At b.Nodes 0 (Fo.tr lo xo) := by rw [h1.1]; exact At.self _
  have A2 : At l.Nodes 0 (Fo.tr la xa) := by rw [h2.1]; exact At.self _
  have A3 : At r.Nodes 0 (Fo.tr lb xb) := by rw [h3.1]; exact At.self _
  have hm := merge_m b l r (by omega) (by omega) (by omega) (sz xo + 1) lo la lb xo xa xb 0 0 0 [] [] A1 A2 A3 (by omega) (by simp only [List.length_nil]; omega) (by simp only [List.length_nil]; omega)
  simp only [Nat.zero_add, List.length_nil, List.nil_append] at hm
  unfold syntax_Merge.j1
  rw [ck_eq (by omega) (by omega), Option.bind_some, ck_eq (by omega) (by omega), Option.bind_some, ck_eq (by omega) (by omega), Option.bind_some]
  unfold syntax_merger__merge
  rw [show (b.Nodes.length : Int) - 1 = ((sz xo : Nat) : Int) by omega, show (l.Nodes.length : Int) - 1 = ((sz xa : Nat) : Int) by omega, show (r.Nodes.length : Int) - 1 = ((sz xb : Nat) : Int) by omega, show ((sz xo : Nat) : Int).natAbs = sz xo from rfl, hm, Option.bind_some, ite_dec]
  simp only [fo_len]
  unfold resF
  by_cases c : sz (mrgF (Fo.tr lo xo) (Fo.tr la xa) (Fo.tr lb xb)) > 80
  · rw [if_pos (by omega), if_pos c]
  · rw [if_neg (by omega), if_neg c]

/-! ## one side -/
theorem mrg_oo (lo l : ByteArray) (xo x : Fo) : mrgF (Fo.tr lo xo) (Fo.tr lo xo) (Fo.tr l x) = Fo.tr l x ∧ badF 0 (Fo.tr lo xo) (Fo.tr lo xo) (Fo.tr l x) = [] := by
  simp only [mrgF, badF]
  by_cases h : sameT l x lo xo
  · have h' := h
    obtain ⟨rfl, rfl⟩ := h'
    have hp : sameT l x l x ∨ sameT l x l x := .inl h
    rw [if_pos hp, if_pos hp]; exact ⟨rfl, rfl⟩
  · have hn : ¬ (sameT l x lo xo ∨ sameT l x lo xo) := fun c => c.elim h h
    have hp : sameT lo xo lo xo := ⟨rfl, rfl⟩
    rw [if_neg hn, if_neg hn, if_pos hp, if_pos hp]; exact ⟨rfl, rfl⟩
theorem mrg_to (lo l : ByteArray) (xo x : Fo) : mrgF (Fo.tr lo xo) (Fo.tr l x) (Fo.tr lo xo) = Fo.tr l x ∧ badF 0 (Fo.tr lo xo) (Fo.tr l x) (Fo.tr lo xo) = [] := by
  simp only [mrgF, badF]
  have hp : sameT lo xo lo xo ∨ sameT lo xo l x := .inl ⟨rfl, rfl⟩
  rw [if_pos hp, if_pos hp]; exact ⟨rfl, rfl⟩
theorem mrg_tt (lo l : ByteArray) (xo x : Fo) : mrgF (Fo.tr lo xo) (Fo.tr l x) (Fo.tr l x) = Fo.tr l x ∧ badF 0 (Fo.tr lo xo) (Fo.tr l x) (Fo.tr l x) = [] := by
  simp only [mrgF, badF]
  have hp : sameT l x lo xo ∨ sameT l x l x := .inr ⟨rfl, rfl⟩
  rw [if_pos hp, if_pos hp]; exact ⟨rfl, rfl⟩

theorem resM_other {t : SyntaxTree} {l : ByteArray} {cs : Fo} (h : IsT t.Nodes l cs) : resF (Fo.tr l cs) [] = (t, [], ⟨0, 0⟩) := by
  unfold resF
  have := h.2.2
  rw [if_neg (by simp only [sz]; omega), ← h.1]

theorem mfault_ne {b l r : SyntaxTree} (h : (synF b).Code ≠ 0 ∨ (synF l).Code ≠ 0 ∨ (synF r).Code ≠ 0) : (mfault b l r).Code ≠ 0 := by
  unfold mfault
  by_cases c0 : (synF b).Code ≠ 0
  · rw [if_pos c0]; exact c0
  · rw [if_neg c0]
    by_cases c1 : (synF l).Code ≠ 0
    · rw [if_pos c1]; exact c1
    · rw [if_neg c1]; exact h.elim (fun h => absurd h c0) (fun h => h.elim (fun h => absurd h c1) id)

theorem oneSided (b t : SyntaxTree) (h1 : OkN b.Nodes) (h2 : OkN t.Nodes) : changeforgelaw2_SyntaxMergeOneSided b t = some true := by
  unfold changeforgelaw2_SyntaxMergeOneSided
  by_cases c : (synF b).Code ≠ 0 ∨ (synF t).Code ≠ 0
  · have m1 : (mfault b b t).Code ≠ 0 := mfault_ne (c.elim .inl (fun h => .inr (.inr h)))
    have m2 : (mfault b t b).Code ≠ 0 := mfault_ne (c.elim .inl (fun h => .inr (.inl h)))
    have m3 : (mfault b t t).Code ≠ 0 := mfault_ne (c.elim .inl (fun h => .inr (.inl h)))
    rw [Merge_bad h1 h1 h2 (c.elim .inl (fun h => .inr (.inr h))), Option.bind_some, Merge_bad h1 h2 h1 (c.elim .inl (fun h => .inr (.inl h))), Option.bind_some, Merge_bad h1 h2 h2 (c.elim .inl (fun h => .inr (.inl h))), Option.bind_some, Validate_f b h1, Option.bind_some, Validate_f t h2]
    have e : ((if (!decide ((synF b).Code = 0)) = true then some true else (some (synF t)).bind fun y5 => some !decide (y5.Code = 0)) : Option Bool) = some true := by
      rw [ite_ndec]
      by_cases c0 : (synF b).Code = 0
      · rw [if_pos c0, Option.bind_some]
        have := c.resolve_left (fun h => h c0)
        simp [this]
      · rw [if_neg c0]
    rw [e, Option.bind_some, if_pos rfl]
    simp only [m1, m2, m3, decide_false, Bool.not_false, if_true, Option.bind_some, parsed_eq]
  · have c0 : ¬ (synF b).Code ≠ 0 := fun h => c (.inl h)
    have c1 : ¬ (synF t).Code ≠ 0 := fun h => c (.inr h)
    obtain ⟨f0, lo, xo, I0⟩ := synF_code c0
    obtain ⟨f1, l, x, I1⟩ := synF_code c1
    rw [Merge_ok I0 I0 I1, (mrg_oo lo l xo x).1, (mrg_oo lo l xo x).2, Merge_ok I0 I1 I0, (mrg_to lo l xo x).1, (mrg_to lo l xo x).2, Merge_ok I0 I1 I1, (mrg_tt lo l xo x).1, (mrg_tt lo l xo x).2, resM_other I1, Validate_f b h1, f0, Validate_f t h2, f1]
    simp only [Option.bind_some]
    rw [I1.eqS, parsed_eq]; rfl

/-! ## both ways round -/
theorem mrg_sym : ∀ (o a b : Fo) (p q : Nat), (badF p o a b).length = (badF q o b a).length ∧ (badF p o a b = [] → mrgF o a b = mrgF o b a)
  | .nil, a, b, p, q => by simp [mrgF, badF]
  | .node _ _ _, .nil, .nil, p, q => by simp [mrgF, badF]
  | .node _ _ _, .nil, .node _ _ _, p, q => by simp [mrgF, badF]
  | .node _ _ _, .node _ _ _, .nil, p, q => by simp [mrgF, badF]
  | .node lo xo ro, .node la xa ra, .node lb xb rb, p, q => by
    simp only [mrgF, badF]
    by_cases h1 : sameT la xa lb xb
    · have h1' := h1
      obtain ⟨rfl, rfl⟩ := h1'
      have hp : sameT la xa lo xo ∨ sameT la xa la xa := .inr h1
      simp only [if_pos hp]
      have := mrg_sym ro ra rb (p + sz xa + 1) (q + sz xa + 1)
      exact ⟨this.1, fun h => by rw [this.2 h]⟩
    · have h1s : ¬ sameT lb xb la xa := fun h => h1 ⟨h.1.symm, h.2.symm⟩
      by_cases h2 : sameT lb xb lo xo
      · have h3 : ¬ (sameT la xa lo xo ∨ sameT la xa lb xb) := fun h => h.elim (fun h => h1 ⟨h.1.trans h2.1.symm, h.2.trans h2.2.symm⟩) h1
        have hp : sameT lb xb lo xo ∨ sameT lb xb la xa := .inl h2
        simp only [if_pos hp, if_neg h3, if_pos h2]
        have := mrg_sym ro ra rb (p + sz xa + 1) (q + sz xa + 1)
        exact ⟨this.1, fun h => by rw [this.2 h]⟩
      · have h3 : ¬ (sameT lb xb lo xo ∨ sameT lb xb la xa) := fun h => h.elim h2 h1s
        simp only [if_neg h3]
        by_cases h4 : sameT la xa lo xo
        · have hp : sameT la xa lo xo ∨ sameT la xa lb xb := .inl h4
          simp only [if_pos h4, if_pos hp]
          have := mrg_sym ro ra rb (p + sz xb + 1) (q + sz xb + 1)
          exact ⟨this.1, fun h => by rw [this.2 h]⟩
        · have h5 : ¬ (sameT la xa lo xo ∨ sameT la xa lb xb) := fun h => h.elim h4 h1
          simp only [if_neg h4, if_neg h5, if_neg h2]
          by_cases h6 : fitM lo xo la xa lb xb
          · have h7 : fitM lo xo lb xb la xa := ⟨⟨h6.1.2, h6.1.1⟩, h6.2.elim (fun h => .inr (.inl h)) (fun h => h.elim .inl (fun h => .inr (.inr h.symm)))⟩
            simp only [if_pos h6, if_pos h7]
            have i1 := mrg_sym xo xa xb p q
            have i2 := mrg_sym ro ra rb (p + sz (mrgF xo xa xb) + 1) (q + sz (mrgF xo xb xa) + 1)
            refine ⟨by rw [List.length_append, List.length_append, i1.1, i2.1], fun h => ?_⟩
            obtain ⟨g1, g2⟩ := List.append_eq_nil_iff.1 h
            rw [i1.2 g1, i2.2 g2]
            have : (if la = lo then lb else la) = if lb = lo then la else lb := by
              rcases h6.2 with h | h | h
              · subst h; rw [if_pos rfl]; by_cases hh : lb = lo
                · rw [if_pos hh, hh]
                · rw [if_neg hh]
              · subst h; rw [if_pos rfl]; by_cases hh : la = lo
                · rw [if_pos hh, hh]
                · rw [if_neg hh]
              · subst h; rfl
            rw [this]
          · have h7 : ¬ fitM lo xo lb xb la xa := fun h => h6 ⟨⟨h.1.2, h.1.1⟩, h.2.elim (fun h => .inr (.inl h)) (fun h => h.elim .inl (fun h => .inr (.inr h.symm)))⟩
            simp only [if_neg h6, if_neg h7]
            have := mrg_sym ro ra rb (p + sz xa + 1) (q + sz xb + 1)
            exact ⟨by simp only [List.length_cons, this.1], fun h => by cases h⟩

theorem mrg_lab : ∀ (o a b : Fo), lab a = true → lab b = true → lab (mrgF o a b) = true
  | .nil, a, b, _, _ => rfl
  | .node _ _ _, .nil, b, _, _ => by simp [mrgF, lab]
  | .node _ _ _, .node _ _ _, .nil, _, _ => by simp [mrgF, lab]
  | .node lo xo ro, .node la xa ra, .node lb xb rb, h1, h2 => by
    simp only [lab, Bool.and_eq_true] at h1 h2
    have i1 := mrg_lab xo xa xb h1.1.2 h2.1.2
    have i2 := mrg_lab ro ra rb h1.2 h2.2
    simp only [mrgF]
    split
    · simp only [lab, Bool.and_eq_true]; exact ⟨h1.1, i2⟩
    · split
      · simp only [lab, Bool.and_eq_true]; exact ⟨h2.1, i2⟩
      · split
        · simp only [lab, Bool.and_eq_true]; exact ⟨⟨by split <;> first | exact h2.1.1 | exact h1.1.1, i1⟩, i2⟩
        · simp only [lab, Bool.and_eq_true]; exact ⟨h1.1, i2⟩
theorem mrg_dp : ∀ (o a b : Fo), Fo.dp (mrgF o a b) ≤ max (Fo.dp a) (Fo.dp b)
  | .nil, a, b => by have := dp_nn a; simp only [mrgF, Fo.dp]; omega
  | .node _ _ _, .nil, b => by have := dp_nn b; simp only [mrgF, Fo.dp]; omega
  | .node _ _ _, .node l x r, .nil => by have := dp_nn (.node l x r); simp only [mrgF, Fo.dp] at *; omega
  | .node lo xo ro, .node la xa ra, .node lb xb rb => by
    have i1 := mrg_dp xo xa xb
    have i2 := mrg_dp ro ra rb
    simp only [mrgF]
    split
    · simp only [Fo.dp]; omega
    · split
      · simp only [Fo.dp]; omega
      · split <;> simp only [Fo.dp] <;> omega
theorem mrg_tr (lo la lb : ByteArray) (xo xa xb : Fo) : ∃ l cs, mrgF (Fo.tr lo xo) (Fo.tr la xa) (Fo.tr lb xb) = Fo.tr l cs := by
  simp only [mrgF]; split
  · exact ⟨_, _, rfl⟩
  · split
    · exact ⟨_, _, rfl⟩
    · split <;> exact ⟨_, _, rfl⟩
theorem mrg_IsT {b l r : SyntaxTree} {lo la lb : ByteArray} {xo xa xb : Fo} (h2 : IsT l.Nodes la xa) (h3 : IsT r.Nodes lb xb) (hz : ¬ sz (mrgF (Fo.tr lo xo) (Fo.tr la xa) (Fo.tr lb xb)) > 80) :
    ∃ l cs, IsT (fo 0 (mrgF (Fo.tr lo xo) (Fo.tr la xa) (Fo.tr lb xb))) l cs := by
  obtain ⟨lm, cs, e⟩ := mrg_tr lo la lb xo xa xb
  have h4 := mrg_lab (Fo.tr lo xo) (Fo.tr la xa) (Fo.tr lb xb) h2.2.1.1 h3.2.1.1
  have h5 := mrg_dp (Fo.tr lo xo) (Fo.tr la xa) (Fo.tr lb xb)
  have h6 := h2.2.1.2
  have h7 := h3.2.1.2
  rw [e] at hz h4 h5 ⊢
  exact ⟨lm, cs, rfl, ⟨h4, by omega⟩, by simp only [sz] at hz; omega⟩

theorem symmetric (b l r : SyntaxTree) (h1 : OkN b.Nodes) (h2 : OkN l.Nodes) (h3 : OkN r.Nodes) : changeforgelaw2_SyntaxMergeSymmetric b l r = some true := by
  unfold changeforgelaw2_SyntaxMergeSymmetric
  have bad : ∀ (y1 y2 : MR), (y1.2.2.Code ≠ 0 ∨ y2.2.2.Code ≠ 0) → ((if (!decide (y1.2.2.Code = 0)) = true then some true else some (!decide (y2.2.2.Code = 0))) : Option Bool) = some true := by
    intro y1 y2 h
    rw [ite_ndec]
    by_cases c0 : y1.2.2.Code = 0
    · rw [if_pos c0]; have := h.resolve_left (fun h => h c0); simp [this]
    · rw [if_neg c0]
  by_cases c : (synF b).Code ≠ 0 ∨ (synF l).Code ≠ 0 ∨ (synF r).Code ≠ 0
  · have c' : (synF b).Code ≠ 0 ∨ (synF r).Code ≠ 0 ∨ (synF l).Code ≠ 0 := c.elim .inl (fun h => h.elim (fun h => .inr (.inr h)) (fun h => .inr (.inl h)))
    rw [Merge_bad h1 h2 h3 c, Option.bind_some, Merge_bad h1 h3 h2 c', Option.bind_some, bad _ _ (.inl (mfault_ne c)), parsed_eq]; rfl
  · obtain ⟨_, lo, xo, I0⟩ := synF_code (t := b) (fun h => c (.inl h))
    obtain ⟨_, la, xa, I1⟩ := synF_code (t := l) (fun h => c (.inr (.inl h)))
    obtain ⟨_, lb, xb, I2⟩ := synF_code (t := r) (fun h => c (.inr (.inr h)))
    rw [Merge_ok I0 I1 I2, Option.bind_some, Merge_ok I0 I2 I1, Option.bind_some]
    have hs := mrg_sym (Fo.tr lo xo) (Fo.tr la xa) (Fo.tr lb xb) 0 0
    have hbl := bad_len (Fo.tr lo xo) (Fo.tr la xa) (Fo.tr lb xb) 0
    by_cases z1 : sz (mrgF (Fo.tr lo xo) (Fo.tr la xa) (Fo.tr lb xb)) > 80
    · rw [bad _ _ (.inl (by unfold resF; rw [if_pos z1]; simp)), parsed_eq]; rfl
    · by_cases z2 : sz (mrgF (Fo.tr lo xo) (Fo.tr lb xb) (Fo.tr la xa)) > 80
      · rw [bad _ _ (.inr (by unfold resF; rw [if_pos z2]; simp)), parsed_eq]; rfl
      · obtain ⟨lm, xm, Im⟩ := mrg_IsT (b := b) (lo := lo) (xo := xo) I1 I2 z1
        unfold resF
        rw [if_neg z1, if_neg z2]
        simp only []
        rw [if_neg (by decide), Option.bind_some, if_neg (by decide), hs.1, if_pos (by simp), ite_dec]
        by_cases g : badF 0 (Fo.tr lo xo) (Fo.tr la xa) (Fo.tr lb xb) = []
        · have g2 : (badF 0 (Fo.tr lo xo) (Fo.tr lb xb) (Fo.tr la xa)).length = 0 := by rw [← hs.1, g]; rfl
          rw [if_neg (by omega), ← hs.2 g, (show changeforgeequal_Syntax ⟨fo 0 (mrgF (Fo.tr lo xo) (Fo.tr la xa) (Fo.tr lb xb))⟩ ⟨fo 0 (mrgF (Fo.tr lo xo) (Fo.tr la xa) (Fo.tr lb xb))⟩ = some true from IsT.eqS (t := ⟨_⟩) Im), parsed_eq]; rfl
        · have g2 : (badF 0 (Fo.tr lo xo) (Fo.tr la xa) (Fo.tr lb xb)).length ≠ 0 := fun h => g (List.eq_nil_of_length_eq_zero h)
          rw [hs.1] at g2
          rw [if_pos (by omega), parsed_eq]; rfl

/-! ## what comes out is a tree -/
theorem bad_in : ∀ (o a b : Fo) (p : Nat), (∀ x ∈ badF p o a b, (p : Int) ≤ x ∧ x < (p + sz (mrgF o a b) : Nat)) ∧ (badF p o a b).Pairwise (· < ·)
  | .nil, a, b, p => by simp [badF]
  | .node _ _ _, .nil, b, p => by simp [badF]
  | .node _ _ _, .node _ _ _, .nil, p => by simp [badF]
  | .node lo xo ro, .node la xa ra, .node lb xb rb, p => by
    simp only [badF, mrgF]
    split
    · obtain ⟨i1, i2⟩ := bad_in ro ra rb (p + sz xa + 1)
      refine ⟨fun x hx => ?_, i2⟩
      have := i1 x hx
      simp only [sz]; omega
    · split
      · obtain ⟨i1, i2⟩ := bad_in ro ra rb (p + sz xb + 1)
        refine ⟨fun x hx => ?_, i2⟩
        have := i1 x hx
        simp only [sz]; omega
      · split
        · obtain ⟨i1, i2⟩ := bad_in ro ra rb (p + sz (mrgF xo xa xb) + 1)
          obtain ⟨k1, k2⟩ := bad_in xo xa xb p
          refine ⟨fun x hx => ?_, List.pairwise_append.2 ⟨k2, i2, fun x hx y hy => ?_⟩⟩
          · simp only [sz]
            rcases List.mem_append.1 hx with h | h
            · have := k1 x h; omega
            · have := i1 x h; omega
          · have := k1 x hx; have := i1 y hy; omega
        · obtain ⟨i1, i2⟩ := bad_in ro ra rb (p + sz xa + 1)
          refine ⟨fun x hx => ?_, List.pairwise_cons.2 ⟨fun y hy => ?_, i2⟩⟩
          · simp only [sz]
            rcases List.mem_cons.1 hx with h | h
            · omega
            · have := i1 x h; omega
          · have := i1 y hy; omega

theorem valid_loop (T : SyntaxTree) (bad : List Int) (f : Fault) (hl : bad.length ≤ 1000) (h1 : ∀ x ∈ bad, 0 ≤ x ∧ x < T.Nodes.length) (h2 : bad.Pairwise (· < ·)) : ∀ (rest : List Int) (k : Nat), bad.drop k = rest →
    iter (fun s => changeforgelaw2_SyntaxMergeValid.l1 (T, bad, f) s) (k : Int) = some (.inr ())
  | [], k, hk => by
    have := s_drop_end hk
    refine iter_done ?_
    simp only [changeforgelaw2_SyntaxMergeValid.l1]
    rw [ite_dec, if_neg (by omega)]
  | x :: r, k, hk => by
    obtain ⟨hlt, hx, hr⟩ := s_drop_at hk
    have hb := h1 x (by rw [← hx]; exact List.getElem_mem hlt)
    have hat : at? bad (k : Int) = some x := by rw [at_nat hlt, hx]
    have e3 : ((if decide ((k : Int) > 0) = true then (at? bad (k : Int)).bind fun y7 => (ckK .i64 ((k : Int) - 1)).bind fun z1 => (at? bad z1).bind fun y8 => some (decide (y7 ≤ y8)) else some false) : Option Bool) = some false := by
      rw [ite_dec]
      by_cases c : (k : Int) > 0
      · have hlt2 : k - 1 < bad.length := by omega
        have hlt3 := (List.pairwise_iff_getElem.1 h2) (k - 1) k hlt2 hlt (by omega)
        rw [hx] at hlt3
        rw [if_pos c, hat, Option.bind_some, ck_eq (by omega) (by omega), Option.bind_some, show (k : Int) - 1 = ((k - 1 : Nat) : Int) by omega, at_nat hlt2, Option.bind_some]
        congr 1; exact decide_eq_false (by omega)
      · rw [if_neg c]
    have e : changeforgelaw2_SyntaxMergeValid.l1 (T, bad, f) (k : Int) = some (Step.next ((k + 1 : Nat) : Int)) := by
      simp only [changeforgelaw2_SyntaxMergeValid.l1]
      rw [ite_dec, if_pos (by omega), e3, hat, Option.bind_some, ite_dec, if_neg (by omega), Option.bind_some, show decide (x ≥ (T.Nodes.length : Int)) = false from decide_eq_false (by omega), Option.bind_some, if_neg (by decide), Option.bind_some, Option.bind_some, if_neg (by decide), ck_eq (by omega) (by omega)]; rfl
    rw [iter_next e]
    exact valid_loop T bad f hl h1 h2 r (k + 1) hr

theorem valid (b l r : SyntaxTree) (h1 : OkN b.Nodes) (h2 : OkN l.Nodes) (h3 : OkN r.Nodes) : changeforgelaw2_SyntaxMergeValid b l r = some true := by
  unfold changeforgelaw2_SyntaxMergeValid
  by_cases c : (synF b).Code ≠ 0 ∨ (synF l).Code ≠ 0 ∨ (synF r).Code ≠ 0
  · rw [Merge_bad h1 h2 h3 c, Option.bind_some, ite_ndec, if_neg (mfault_ne c), parsed_eq]; rfl
  · obtain ⟨_, lo, xo, I0⟩ := synF_code (t := b) (fun h => c (.inl h))
    obtain ⟨_, la, xa, I1⟩ := synF_code (t := l) (fun h => c (.inr (.inl h)))
    obtain ⟨_, lb, xb, I2⟩ := synF_code (t := r) (fun h => c (.inr (.inr h)))
    rw [Merge_ok I0 I1 I2, Option.bind_some]
    by_cases z1 : sz (mrgF (Fo.tr lo xo) (Fo.tr la xa) (Fo.tr lb xb)) > 80
    · unfold resF; rw [if_pos z1, ite_ndec, if_neg (by simp), parsed_eq]; rfl
    · obtain ⟨lm, xm, Im⟩ := mrg_IsT (b := b) (lo := lo) (xo := xo) I1 I2 z1
      obtain ⟨b1, b2⟩ := bad_in (Fo.tr lo xo) (Fo.tr la xa) (Fo.tr lb xb) 0
      have hbl := bad_len (Fo.tr lo xo) (Fo.tr la xa) (Fo.tr lb xb) 0
      have := I1.2.2
      simp only [sz] at hbl
      unfold resF
      rw [if_neg z1]
      simp only []
      have hv := valid_loop ⟨fo 0 (mrgF (Fo.tr lo xo) (Fo.tr la xa) (Fo.tr lb xb))⟩ _ ⟨0, 0⟩ (by omega) (fun x hx => by have := b1 x hx; simp only [fo_len]; omega) b2 (badF 0 (Fo.tr lo xo) (Fo.tr la xa) (Fo.tr lb xb)) 0 rfl
      rw [show (((0 : Nat)) : Int) = (0 : Int) from rfl] at hv
      rw [if_neg (by decide), hv, Option.bind_some]
      simp only [changeforgelaw2_SyntaxMergeValid.j1]
      rw [Validate_f _ Im.ok, IsT.synF (t := ⟨_⟩) Im, parsed_eq]; rfl
end Go.Dc
