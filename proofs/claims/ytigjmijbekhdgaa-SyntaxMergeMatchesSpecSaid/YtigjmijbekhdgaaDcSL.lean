/- The reference's merge; law MergeMatchesSpec. -/
import Derived.Test.YtigjmijbekhdgaaDcSK
set_option linter.unusedSimpArgs false
namespace Go.Dc
open Go Fo

theorem lbl_eq_iff {a b : List UInt8} : lbl a = lbl b ↔ a = b := ⟨lbl_inj, fun h => by rw [h]⟩

theorem merged_m (o a b : SyntaxTree) (hO : o.Nodes.length ≤ 80) (hL : a.Nodes.length ≤ 80) (hR : b.Nodes.length ≤ 80) : ∀ (k : Nat) (lo la lb : ByteArray) (xo xa xb : Fo) (p q r : Nat) (out : List Node) (bad : List Int),
    At o.Nodes p (Fo.tr lo xo) → At a.Nodes q (Fo.tr la xa) → At b.Nodes r (Fo.tr lb xb) → GoodF (Fo.tr lo xo) → GoodF (Fo.tr la xa) → GoodF (Fo.tr lb xb) → sz xo < k → out.length + sz xa + sz xb ≤ 2000 → bad.length + sz xa ≤ 2000 →
    changeforgeref2_merged.m k ⟨out, bad⟩ o ((p + sz xo : Nat) : Int) a ((q + sz xa : Nat) : Int) b ((r + sz xb : Nat) : Int) = some ⟨out ++ fo out.length (mrgF (Fo.tr lo xo) (Fo.tr la xa) (Fo.tr lb xb)), bad ++ badF out.length (Fo.tr lo xo) (Fo.tr la xa) (Fo.tr lb xb)⟩
  | 0, lo, la, lb, xo, xa, xb, p, q, r, out, bad, _, _, _, _, _, _, h, _, _ => absurd h (by omega)
  | k + 1, lo, la, lb, xo, xa, xb, p, q, r, out, bad, hA, hB, hC, fA, fB, fC, hk, ho, hb => by
    have ih := merged_m o a b hO hL hR k
    have gA := hA.get
    have gB := hB.get
    have gC := hC.get
    have leA := hA.le
    have leB := hB.le
    have leC := hC.le
    simp only [sz] at leA leB leC
    have c1 := cnt_sz xo
    have c2 := cnt_sz xa
    have c3 := cnt_sz xb
    have key : ∀ (Go Ga Gb : Fo) (p' q' r' j : Nat) (x22 : List Int) (out : List Node) (bad : List Int), (roots p xo).drop j = roots p' Go → (roots q xa).drop j = roots q' Ga → (roots r xb).drop j = roots r' Gb → cnt Go = cnt Ga → cnt Go = cnt Gb →
        At o.Nodes p' Go → At a.Nodes q' Ga → At b.Nodes r' Gb → GoodF Go → GoodF Ga → GoodF Gb → sz Go ≤ k → out.length + sz Ga + sz Gb ≤ 2000 → bad.length + sz Ga ≤ 2000 → x22.length + cnt Go ≤ 2000 →
        iter (fun s => changeforgeref2_merged.l1 o ((p + sz xo : Nat) : Int) a ((q + sz xa : Nat) : Int) b ((r + sz xb : Nat) : Int) (changeforgeref2_merged.m k) ⟨lo, roots p xo⟩ s.1 s.2.1 s.2.2.1 s.2.2.2) ((j : Int), x22, out, bad) =
          some (x22 ++ roots out.length (mrgF Go Ga Gb), out ++ fo out.length (mrgF Go Ga Gb), bad ++ badF out.length Go Ga Gb) := by
      intro Go
      induction Go with
      | nil =>
        intro Ga Gb p' q' r' j x22 out bad hd _ _ _ _ _ _ _ _ _ _ _ _ _ _
        have := s_drop_end hd
        refine iter_done ?_
        simp only [changeforgeref2_merged.l1]
        rw [ite_dec, if_neg (by omega)]
        simp [mrgF, badF, roots, fo]
      | node lo' xo' ro _ ihr =>
        intro Ga Gb p' q' r' j x22 out bad hd hd2 hd3 hc hc2 hA' hB' hC' f1 f2 f3 hz ho2 hb2 hx
        cases Ga with
        | nil => simp [cnt] at hc
        | node la' xa' ra =>
        cases Gb with
        | nil => simp [cnt] at hc2
        | node lb' xb' rb =>
        obtain ⟨h1, h2, h3⟩ := kid hd
        obtain ⟨_, h5, h6⟩ := kid hd2
        obtain ⟨_, h8, h9⟩ := kid hd3
        rw [roots_len] at h1
        simp only [sz] at hz ho2 hb2
        simp only [cnt, Nat.add_right_cancel_iff] at hc hc2 hx
        have sp : ∀ (l : ByteArray) (cs r : Fo), GoodF (.node l cs r) → GoodF (Fo.tr l cs) ∧ GoodF r := by
          intro l cs r h
          have h1 := h.1
          have h2 := h.2
          simp only [lab, Bool.and_eq_true] at h1
          simp only [Fo.dp] at h2
          have := dp_nn cs
          exact ⟨⟨by simp only [lab, Bool.and_eq_true, Bool.and_true]; exact h1.1, by simp only [Fo.dp]; omega⟩, ⟨h1.2, by omega⟩⟩
        have hi := ih lo' la' lb' xo' xa' xb' p' q' r' out bad hA'.tr hB'.tr hC'.tr (sp _ _ _ f1).1 (sp _ _ _ f2).1 (sp _ _ _ f3).1 (by omega) (by omega) (by omega)
        have hms := mrg_sz (Fo.tr lo' xo') (Fo.tr la' xa') (Fo.tr lb' xb')
        have hbs := bad_len (Fo.tr lo' xo') (Fo.tr la' xa') (Fo.tr lb' xb') out.length
        simp only [sz] at hms hbs
        obtain ⟨lm, xm, em⟩ := mrg_tr lo' la' lb' xo' xa' xb'
        have em2 : mrgF (.node lo' xo' ro) (.node la' xa' ra) (.node lb' xb' rb) = .node lm xm (mrgF ro ra rb) := by
          simp only [mrgF] at em ⊢; split
          · rename_i h; rw [if_pos h] at em; injection em with e1 e2; rw [e1, e2]
          · rename_i h; rw [if_neg h] at em; split
            · rename_i h; rw [if_pos h] at em; injection em with e1 e2; rw [e1, e2]
            · rename_i h; rw [if_neg h] at em; split
              · rename_i h; rw [if_pos h] at em; injection em with e1 e2; rw [e1, e2]
              · rename_i h; rw [if_neg h] at em; injection em with e1 e2; rw [e1, e2]
        have eb2 : badF out.length (.node lo' xo' ro) (.node la' xa' ra) (.node lb' xb' rb) = badF out.length (Fo.tr lo' xo') (Fo.tr la' xa') (Fo.tr lb' xb') ++ badF (out.length + sz xm + 1) ro ra rb := by
          simp only [mrgF] at em
          simp only [badF]; split
          · rename_i h; rw [if_pos h] at em; injection em with e1 e2; rw [e2]; simp
          · rename_i h; rw [if_neg h] at em; split
            · rename_i h; rw [if_pos h] at em; injection em with e1 e2; rw [e2]; simp
            · rename_i h; rw [if_neg h] at em; split
              · rename_i h; rw [if_pos h] at em; injection em with e1 e2; rw [e2]; simp
              · rename_i h; rw [if_neg h] at em; injection em with e1 e2; rw [e2]; simp
        rw [em] at hi hms
        simp only [sz] at hms
        have hlen : (out ++ fo out.length (Fo.tr lm xm)).length = out.length + sz xm + 1 := by simp [sz]; omega
        have e1 : changeforgeref2_merged.l1 o ((p + sz xo : Nat) : Int) a ((q + sz xa : Nat) : Int) b ((r + sz xb : Nat) : Int) (changeforgeref2_merged.m k) ⟨lo, roots p xo⟩ (j : Int) x22 out bad = some (Step.next (((j + 1 : Nat) : Int), x22 ++ [((out.length + sz xm : Nat) : Int)], out ++ fo out.length (Fo.tr lm xm), bad ++ badF out.length (Fo.tr lo' xo') (Fo.tr la' xa') (Fo.tr lb' xb'))) := by
          simp only [changeforgeref2_merged.l1]
          rw [ite_dec, if_pos (by rw [roots_len]; omega), gA, Option.bind_some]
          simp only []
          rw [h2, Option.bind_some, gB, Option.bind_some]
          simp only []
          rw [h5, Option.bind_some, gC, Option.bind_some]
          simp only []
          rw [h8, Option.bind_some, hi, Option.bind_some]
          simp only []
          rw [hlen, ck_eq (by omega) (by omega), Option.bind_some, app_eq (by simp; omega), Option.bind_some, ck_eq (by omega) (by omega), show (((out.length + sz xm + 1 : Nat) : Int) - 1) = ((out.length + sz xm : Nat) : Int) by omega]
          rfl
        rw [iter_next e1, ihr ra rb _ _ _ (j + 1) _ _ _ h3 h6 h9 hc hc2 hA'.r hB'.r hC'.r (sp _ _ _ f1).2 (sp _ _ _ f2).2 (sp _ _ _ f3).2 (by omega) (by rw [hlen]; omega) (by rw [List.length_append]; omega) (by simp; omega), hlen, em2, eb2]
        simp [roots, fo]
    have tA := Printed_f hO hA fA.1
    have tB := Printed_f hL hB fB.1
    have tC := Printed_f hR hC fC.1
    have dA := fA.2
    have dB := fB.2
    have dC := fC.2
    simp only [Fo.dp] at dA dB dC
    have i1 : txt lb xb = txt lo xo ↔ sameT lb xb lo xo := txt_inj fC.1 fA.1 (by omega) (by omega) (by omega)
    have i2 : txt la xa = txt lb xb ↔ sameT la xa lb xb := txt_inj fB.1 fC.1 (by omega) (by omega) (by omega)
    have i3 : txt la xa = txt lo xo ↔ sameT la xa lo xo := txt_inj fB.1 fA.1 (by omega) (by omega) (by omega)
    have cpA := copied_f (m := ⟨out, bad⟩) hL hB (by simp only []; omega)
    have cpB := copied_f (m := ⟨out, bad⟩) hR hC (by simp only []; omega)
    simp only [] at cpA cpB
    show changeforgeref2_merged.body (changeforgeref2_merged.m k) ⟨out, bad⟩ o _ a _ b _ = _
    unfold changeforgeref2_merged.body
    rw [tA, Option.bind_some, tB, Option.bind_some, tC, Option.bind_some]
    simp only [mrgF, badF]
    have e12 : ((if decide (lbl (txt lb xb) = lbl (txt lo xo)) = true then some true else some (decide (lbl (txt la xa) = lbl (txt lb xb)))) : Option Bool) = some (decide (sameT lb xb lo xo ∨ sameT lb xb la xa)) := by
      have i2' : lbl (txt la xa) = lbl (txt lb xb) ↔ sameT lb xb la xa := by rw [lbl_eq_iff, i2]; exact ⟨fun h => ⟨h.1.symm, h.2.symm⟩, fun h => ⟨h.1.symm, h.2.symm⟩⟩
      have i1' : lbl (txt lb xb) = lbl (txt lo xo) ↔ sameT lb xb lo xo := by rw [lbl_eq_iff, i1]
      rw [ite_dec]
      by_cases h : sameT lb xb lo xo
      · rw [if_pos (i1'.2 h), decide_eq_true (Or.inl h)]
      · rw [if_neg (fun c => h (i1'.1 c))]
        congr 1
        exact decide_eq_decide.2 ⟨fun c => .inr (i2'.1 c), fun c => i2'.2 (c.resolve_left h)⟩
    rw [e12, Option.bind_some, ite_dec]
    by_cases q1 : sameT lb xb lo xo ∨ sameT lb xb la xa
    · rw [if_pos q1, if_pos q1, if_pos q1, cpA, Option.bind_some, List.append_nil]
    · rw [if_neg q1, if_neg q1, if_neg q1, ite_dec]
      have i3' : lbl (txt la xa) = lbl (txt lo xo) ↔ sameT la xa lo xo := by rw [lbl_eq_iff, i3]
      by_cases q2 : sameT la xa lo xo
      · rw [if_pos (i3'.2 q2), if_pos q2, if_pos q2, cpB, Option.bind_some, List.append_nil]
      · rw [if_neg (fun c => q2 (i3'.1 c)), if_neg q2, if_neg q2, gA, Option.bind_some, gB, Option.bind_some, gC, Option.bind_some, Option.bind_some, Option.bind_some]
        simp only [roots_len]
        have e3 : ((if (!decide ((cnt xa : Int) = (cnt xo : Int))) = true then some true else (some (⟨lb, roots r xb⟩ : Node)).bind fun y11 => some (!decide ((y11.Children.length : Int) = (cnt xo : Int)))) : Option Bool) = some (!decide (cnt xo = cnt xa ∧ cnt xo = cnt xb)) := by
          simp only [Option.bind_some, roots_len]
          rw [ite_ndec]
          by_cases h : cnt xo = cnt xa
          · rw [if_pos (by omega)]
            congr 2
            exact decide_eq_decide.2 (by omega)
          · rw [if_neg (by omega), decide_eq_false (fun c => h c.1)]; rfl
        rw [e3, Option.bind_some]
        have e4 : ((if (!decide (cnt xo = cnt xa ∧ cnt xo = cnt xb)) = true then some true else
            ((if (!decide (la = lb)) = true then some (!decide (la = lo)) else some false) : Option Bool).bind fun x4 => (if x4 = true then some (!decide (lb = lo)) else some false).bind fun x5 => some x5) : Option Bool) = some (!decide (fitM lo xo la xa lb xb)) := by
          by_cases h : cnt xo = cnt xa ∧ cnt xo = cnt xb
          · rw [ite_ndec, if_pos h, show decide (fitM lo xo la xa lb xb) = decide (lo = la ∨ lo = lb ∨ la = lb) from decide_eq_decide.2 ⟨fun h' => h'.2, fun h' => ⟨h, h'⟩⟩]
            by_cases h1 : la = lb
            · simp [h1]
            · by_cases h2 : la = lo
              · simp [h2]
              · by_cases h3 : lb = lo
                · simp [h1, h2, h3]
                · have h2' : ¬ lo = la := fun c => h2 c.symm
                  have h3' : ¬ lo = lb := fun c => h3 c.symm
                  simp [h1, h2, h3, h2', h3']
          · rw [ite_ndec, if_neg h, show decide (fitM lo xo la xa lb xb) = false from decide_eq_false (fun c => h c.1)]; rfl
        rw [e4, Option.bind_some, ite_ndec]
        by_cases q3 : fitM lo xo la xa lb xb
        · rw [if_pos q3, if_pos q3, if_pos q3]
          have gd : ∀ (l : ByteArray) (cs : Fo), GoodF (Fo.tr l cs) → GoodF cs := by
            intro l cs h
            have h1 := h.1
            have h2 := h.2
            simp only [lab, Bool.and_eq_true] at h1
            simp only [Fo.dp] at h2
            have := dp_nn cs
            exact ⟨h1.1.2, by omega⟩
          have hk2 := key xo xa xb p q r 0 [] out bad rfl rfl rfl q3.1.1 q3.1.2 hA.cs hB.cs hC.cs (gd _ _ fA) (gd _ _ fB) (gd _ _ fC) (by omega) (by omega) (by omega) (by simp only [List.length_nil]; omega)
          rw [show (((0 : Nat)) : Int) = (0 : Int) from rfl] at hk2
          have hms := mrg_sz xo xa xb
          have j1 : ∀ x6, changeforgeref2_merged.j1 ⟨out, bad⟩ o ((p + sz xo : Nat) : Int) a ((q + sz xa : Nat) : Int) b ((r + sz xb : Nat) : Int) (changeforgeref2_merged.m k) ⟨lo, roots p xo⟩ x6 = some ⟨out ++ fo out.length (.node x6 (mrgF xo xa xb) .nil), bad ++ badF out.length xo xa xb⟩ := by
            intro x6
            unfold changeforgeref2_merged.j1
            simp only []
            rw [hk2, Option.bind_some, changeforgeref2_merged.j2, app_eq (by simp; omega), Option.bind_some]
            simp [fo]
          rw [ite_dec, j1, j1, List.append_nil]
          by_cases h : la = lo
          · rw [if_pos h, if_pos h]
          · rw [if_neg h, if_neg h]
        · rw [if_neg q3, if_neg q3, if_neg q3, cpA, Option.bind_some]
          simp only []
          have hlen : (out ++ fo out.length (Fo.tr la xa)).length = out.length + sz xa + 1 := by simp [sz]; omega
          rw [hlen, ck_eq (by omega) (by omega), Option.bind_some, app_eq (by simp; omega), Option.bind_some, show (((out.length + sz xa + 1 : Nat) : Int) - 1) = ((out.length + sz xa : Nat) : Int) by omega]

theorem RMerge_f {b l r : SyntaxTree} (h1 : OkN b.Nodes) (h2 : OkN l.Nodes) (h3 : OkN r.Nodes) : changeforgeref2_MergeSyntax b l r = syntax_Merge b l r := by
  have e : changeforgeref2_MergeSyntax b l r = if (synF b).Code ≠ 0 then changeforgeref2_MergeSyntax.j2 b l r (synF b).Code (synF b).Index else if (synF l).Code ≠ 0 then changeforgeref2_MergeSyntax.j2 b l r (synF l).Code (-2)
      else if (synF r).Code ≠ 0 then changeforgeref2_MergeSyntax.j2 b l r (synF r).Code (-3) else changeforgeref2_MergeSyntax.j2 b l r (synF b).Code (synF b).Index := by
    unfold changeforgeref2_MergeSyntax changeforgeref2_MergeSyntax.j1 changeforgeref1_At
    rw [SyntaxFault_f b h1, SyntaxFault_f l h2, SyntaxFault_f r h3]
    simp only [Option.bind_some]
    by_cases c0 : (synF b).Code = 0
    · by_cases c1 : (synF l).Code = 0
      · by_cases c2 : (synF r).Code = 0
        · simp [c0, c1, c2]
        · simp [c0, c1, c2]
      · simp [c0, c1]
    · simp [c0]
  by_cases c : (synF b).Code ≠ 0 ∨ (synF l).Code ≠ 0 ∨ (synF r).Code ≠ 0
  · rw [Merge_bad h1 h2 h3 c, e]
    unfold mfault changeforgeref2_MergeSyntax.j2
    by_cases c0 : (synF b).Code ≠ 0
    · rw [if_pos c0, if_pos c0, ite_ndec, if_neg c0]
    · rw [if_neg c0, if_neg c0]
      by_cases c1 : (synF l).Code ≠ 0
      · rw [if_pos c1, if_pos c1, ite_ndec, if_neg c1]
      · rw [if_neg c1, if_neg c1]
        have c2 : (synF r).Code ≠ 0 := c.elim (fun h => absurd h c0) (fun h => h.elim (fun h => absurd h c1) id)
        rw [if_pos c2, ite_ndec, if_neg c2]
  · obtain ⟨z0, lo, xo, I0⟩ := synF_code (t := b) (fun h => c (.inl h))
    obtain ⟨z1, la, xa, I1⟩ := synF_code (t := l) (fun h => c (.inr (.inl h)))
    obtain ⟨z2, lb, xb, I2⟩ := synF_code (t := r) (fun h => c (.inr (.inr h)))
    rw [Merge_ok I0 I1 I2, e, z0, z1, z2]
    simp only [ne_eq, not_true_eq_false, if_false]
    unfold changeforgeref2_MergeSyntax.j2
    have n1 := I0.2.2
    have n2 := I1.2.2
    have n3 := I2.2.2
    have e1 := I0.len
    have e2 := I1.len
    have e3 := I2.len
    have A1 : At b.Nodes 0 (Fo.tr lo xo) := by rw [I0.1]; exact At.self _
    have A2 : At l.Nodes 0 (Fo.tr la xa) := by rw [I1.1]; exact At.self _
    have A3 : At r.Nodes 0 (Fo.tr lb xb) := by rw [I2.1]; exact At.self _
    have hm := merged_m b l r (by omega) (by omega) (by omega) (sz xo + 1) lo la lb xo xa xb 0 0 0 [] [] A1 A2 A3 I0.2.1 I1.2.1 I2.2.1 (by omega) (by simp only [List.length_nil]; omega) (by simp only [List.length_nil]; omega)
    simp only [Nat.zero_add, List.length_nil, List.nil_append] at hm
    unfold changeforgeref2_merged changeforgeref1_At
    rw [if_neg (by decide), ck_eq (by omega) (by omega), Option.bind_some, ck_eq (by omega) (by omega), Option.bind_some, ck_eq (by omega) (by omega), Option.bind_some,
      show (b.Nodes.length : Int) - 1 = ((sz xo : Nat) : Int) by omega, show (l.Nodes.length : Int) - 1 = ((sz xa : Nat) : Int) by omega, show (r.Nodes.length : Int) - 1 = ((sz xb : Nat) : Int) by omega, show ((sz xo : Nat) : Int).natAbs = sz xo from rfl, hm, Option.bind_some, ite_dec]
    simp only [fo_len]
    unfold resF
    by_cases c : sz (mrgF (Fo.tr lo xo) (Fo.tr la xa) (Fo.tr lb xb)) > 80
    · rw [if_pos (by omega), if_pos c]; rfl
    · rw [if_neg (by omega), if_neg c]

theorem matches_spec (b l r : SyntaxTree) (h1 : OkN b.Nodes) (h2 : OkN l.Nodes) (h3 : OkN r.Nodes) : changeforgelaw2_SyntaxMergeMatchesSpec b l r = some true := by
  have fin : ∀ y : MR, changeforgeequal_Syntax y.1 y.1 = some true → changeforgeequal_Ints y.2.1 y.2.1 = some true → syntax_Merge b l r = some y → changeforgelaw2_SyntaxMergeMatchesSpec b l r = some true := by
    intro y e1 e2 e3
    unfold changeforgelaw2_SyntaxMergeMatchesSpec
    rw [RMerge_f h1 h2 h3, e3, Option.bind_some, Option.bind_some, e1, Option.bind_some, if_pos rfl, e2]
    simp [parsed_eq]
  by_cases c : (synF b).Code ≠ 0 ∨ (synF l).Code ≠ 0 ∨ (synF r).Code ≠ 0
  · exact fin _ (eqS_refl _ (by simp) (fun n hn => by cases hn)) (ints_refl _ (by simp)) (Merge_bad h1 h2 h3 c)
  · obtain ⟨_, lo, xo, I0⟩ := synF_code (t := b) (fun h => c (.inl h))
    obtain ⟨_, la, xa, I1⟩ := synF_code (t := l) (fun h => c (.inr (.inl h)))
    obtain ⟨_, lb, xb, I2⟩ := synF_code (t := r) (fun h => c (.inr (.inr h)))
    refine fin _ ?_ ?_ (Merge_ok I0 I1 I2)
    · by_cases z1 : sz (mrgF (Fo.tr lo xo) (Fo.tr la xa) (Fo.tr lb xb)) > 80
      · unfold resF; rw [if_pos z1]; exact eqS_refl _ (by simp) (fun n hn => by cases hn)
      · obtain ⟨lm, xm, Im⟩ := mrg_IsT (b := b) (lo := lo) (xo := xo) I1 I2 z1
        unfold resF; rw [if_neg z1]; exact IsT.eqS (t := ⟨_⟩) Im
    · have hbl := bad_len (Fo.tr lo xo) (Fo.tr la xa) (Fo.tr lb xb) 0
      have := I1.2.2
      simp only [sz] at hbl
      by_cases z1 : sz (mrgF (Fo.tr lo xo) (Fo.tr la xa) (Fo.tr lb xb)) > 80
      · unfold resF; rw [if_pos z1]; exact ints_refl _ (by simp)
      · unfold resF; rw [if_neg z1]; exact ints_refl _ (by show (badF 0 (Fo.tr lo xo) (Fo.tr la xa) (Fo.tr lb xb)).length ≤ _; omega)
end Go.Dc
