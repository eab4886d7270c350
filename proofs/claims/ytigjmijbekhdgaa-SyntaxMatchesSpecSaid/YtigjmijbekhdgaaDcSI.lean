/- Comparing, copying and merging trees: the program's side. -/
import Derived.Test.YtigjmijbekhdgaaDcSG
set_option linter.unusedSimpArgs false
namespace Go.Dc
open Go Fo

deriving instance DecidableEq for Fo

def Fo.cnt : Fo → Nat | .nil => 0 | .node _ _ r => cnt r + 1
@[simp] theorem roots_len : ∀ (F : Fo) (b : Nat), (roots b F).length = cnt F
  | .nil, b => rfl
  | .node l cs r, b => by simp [roots, cnt, roots_len r]
theorem cnt_sz : ∀ F : Fo, cnt F ≤ sz F
  | .nil => Nat.le_refl _
  | .node l cs r => by simp only [cnt, sz]; have := cnt_sz r; omega

/-! ## equal -/
theorem equal_m (s t : SyntaxTree) (hs : s.Nodes.length ≤ 80) (ht : t.Nodes.length ≤ 80) : ∀ (k : Nat) (l l' : ByteArray) (cs cs' : Fo) (b b' : Nat), At s.Nodes b (Fo.tr l cs) → At t.Nodes b' (Fo.tr l' cs') → sz cs < k →
    syntax_equal.m k s ((b + sz cs : Nat) : Int) t ((b' + sz cs' : Nat) : Int) = some (decide (l = l' ∧ cs = cs'))
  | 0, l, l', cs, cs', b, b', _, _, h => absurd h (by omega)
  | k + 1, l, l', cs, cs', b, b', hA, hA', hk => by
    have ih := equal_m s t hs ht k
    have hg := hA.get
    have hg' := hA'.get
    have hle := hA.le
    have hle' := hA'.le
    simp only [sz] at hle hle'
    have c1 := cnt_sz cs
    have c2 := cnt_sz cs'
    have key : ∀ (G G' : Fo) (c c' j : Nat), (roots b cs).drop j = roots c G → (roots b' cs').drop j = roots c' G' → cnt G = cnt G' → At s.Nodes c G → At t.Nodes c' G' → sz G ≤ k →
        iter (fun x => syntax_equal.l1 s t (syntax_equal.m k) ⟨l, roots b cs⟩ ⟨l', roots b' cs'⟩ x) (j : Int) = some (if G = G' then .inr () else .inl false) := by
      intro G
      induction G with
      | nil =>
        intro G' c c' j hd _ hc _ _ _
        have : G' = .nil := by cases G' with | nil => rfl | node a b d => simp [cnt] at hc
        subst this
        have := s_drop_end hd
        refine iter_done ?_
        simp only [syntax_equal.l1]
        rw [ite_dec, if_neg (by omega)]; simp
      | node la xa ra _ ihr =>
        intro G' c c' j hd hd' hc hB hB' hz
        cases G' with
        | nil => simp [cnt] at hc
        | node lb xb rb =>
          obtain ⟨h1, h2, h3⟩ := kid hd
          obtain ⟨h1', h2', h3'⟩ := kid hd'
          simp only [sz] at hz
          simp only [cnt, Nat.add_right_cancel_iff] at hc
          have hi := ih la lb xa xb c c' hB.tr hB'.tr (by omega)
          have e1 : syntax_equal.l1 s t (syntax_equal.m k) ⟨l, roots b cs⟩ ⟨l', roots b' cs'⟩ (j : Int) = if la = lb ∧ xa = xb then some (Step.next ((j + 1 : Nat) : Int)) else some (Step.done (.inl false)) := by
            rw [roots_len] at h1
            simp only [syntax_equal.l1]
            rw [ite_dec, if_pos (by rw [roots_len]; omega), h2, Option.bind_some, h2', Option.bind_some, hi, Option.bind_some, ite_ndec]
            by_cases q : la = lb ∧ xa = xb
            · rw [if_pos q, if_pos q, ck_eq (by omega) (by omega)]; rfl
            · rw [if_neg q, if_neg q]
          by_cases q : la = lb ∧ xa = xb
          · rw [if_pos q] at e1
            rw [iter_next e1, ihr rb _ _ (j + 1) h3 h3' hc hB.r hB'.r (by omega)]
            obtain ⟨rfl, rfl⟩ := q
            by_cases q2 : ra = rb
            · rw [if_pos q2, if_pos (by rw [q2])]
            · rw [if_neg q2, if_neg (fun h => q2 (by injection h))]
          · rw [if_neg q] at e1
            rw [iter_done e1, if_neg (fun h => q (by injection h with h1 h2; exact ⟨h1, h2⟩))]
    show syntax_equal.body (syntax_equal.m k) s _ t _ = _
    unfold syntax_equal.body syntax_equal.j1
    rw [hg, Option.bind_some, hg', Option.bind_some, ite_ndec]
    by_cases q : l = l'
    · rw [if_pos q, Option.bind_some]
      simp only [roots_len]
      by_cases qc : cnt cs = cnt cs'
      · have := key cs cs' b b' 0 rfl rfl qc hA.cs hA'.cs (by omega)
        rw [show (((0 : Nat)) : Int) = (0 : Int) from rfl] at this
        rw [show (!decide ((cnt cs : Int) = (cnt cs' : Int))) = false by simp [qc], if_neg (by decide), this, Option.bind_some]
        by_cases q2 : cs = cs'
        · rw [if_pos q2, decide_eq_true ⟨q, q2⟩]; rfl
        · rw [if_neg q2, decide_eq_false (fun h => q2 h.2)]
      · rw [show (!decide ((cnt cs : Int) = (cnt cs' : Int))) = true by simp; omega, if_pos rfl, decide_eq_false (fun h => qc (by rw [h.2]))]
    · rw [if_neg q, Option.bind_some, if_pos rfl, decide_eq_false (fun h => q h.1)]

theorem equal_f {s t : SyntaxTree} (hs : s.Nodes.length ≤ 80) (ht : t.Nodes.length ≤ 80) {l l' : ByteArray} {cs cs' : Fo} {b b' : Nat} (hA : At s.Nodes b (Fo.tr l cs)) (hA' : At t.Nodes b' (Fo.tr l' cs')) :
    syntax_equal s ((b + sz cs : Nat) : Int) t ((b' + sz cs' : Nat) : Int) = some (decide (l = l' ∧ cs = cs')) :=
  equal_m s t hs ht _ l l' cs cs' b b' hA hA' (by omega)

/-! ## copy -/
theorem copy_m (t : SyntaxTree) (ht : t.Nodes.length ≤ 80) : ∀ (k : Nat) (l : ByteArray) (cs : Fo) (b : Nat) (m : Merger_syntax), At t.Nodes b (Fo.tr l cs) → sz cs < k → m.out.length + sz cs ≤ 5000 →
    syntax_merger__copy.m k m t ((b + sz cs : Nat) : Int) = some { m with out := m.out ++ fo m.out.length (Fo.tr l cs) }
  | 0, l, cs, b, m, _, h, _ => absurd h (by omega)
  | k + 1, l, cs, b, m, hA, hk, ho => by
    have ih := copy_m t ht k
    have hg := hA.get
    have hle := hA.le
    simp only [sz] at hle
    have c1 := cnt_sz cs
    have key : ∀ (G : Fo) (c j : Nat) (x8 : List Int) (B L R out : List Node) (bad : List Int), (roots b cs).drop j = roots c G → At t.Nodes c G → sz G ≤ k → out.length + sz G ≤ 5000 → x8.length + cnt G ≤ 5000 →
        iter (fun x => syntax_merger__copy.l1 t (syntax_merger__copy.m k) ⟨l, roots b cs⟩ x.1 x.2.1 x.2.2.1 x.2.2.2.1 x.2.2.2.2.1 x.2.2.2.2.2.1 x.2.2.2.2.2.2) ((j : Int), x8, B, L, R, out, bad) = some (x8 ++ roots out.length G, B, L, R, out ++ fo out.length G, bad) := by
      intro G
      induction G with
      | nil =>
        intro c j x8 B L R out bad hd _ _ _ _
        have := s_drop_end hd
        refine iter_done ?_
        simp only [syntax_merger__copy.l1]
        rw [ite_dec, if_neg (by omega)]
        simp [roots, fo]
      | node la xa ra _ ihr =>
        intro c j x8 B L R out bad hd hB hz ho2 hx
        obtain ⟨h1, h2, h3⟩ := kid hd
        rw [roots_len] at h1
        simp only [sz] at hz ho2
        simp only [cnt] at hx
        have hi := ih la xa c ⟨⟨B⟩, ⟨L⟩, ⟨R⟩, out, bad⟩ hB.tr (by omega) (by simp only []; omega)
        have hlen : (out ++ fo out.length (Fo.tr la xa)).length = out.length + sz xa + 1 := by simp [sz]; omega
        have e1 : syntax_merger__copy.l1 t (syntax_merger__copy.m k) ⟨l, roots b cs⟩ (j : Int) x8 B L R out bad = some (Step.next (((j + 1 : Nat) : Int), x8 ++ [((out.length + sz xa : Nat) : Int)], B, L, R, out ++ fo out.length (Fo.tr la xa), bad)) := by
          simp only [syntax_merger__copy.l1]
          rw [ite_dec, if_pos (by rw [roots_len]; omega), h2, Option.bind_some, hi, Option.bind_some]
          simp only []
          rw [hlen, ck_eq (by omega) (by omega), Option.bind_some, app_eq (by simp; omega), Option.bind_some, ck_eq (by omega) (by omega), show (((out.length + sz xa + 1 : Nat) : Int) - 1) = ((out.length + sz xa : Nat) : Int) by omega]
          rfl
        rw [iter_next e1, ihr _ (j + 1) _ B L R _ bad h3 hB.r (by omega) (by rw [hlen]; omega) (by simp; omega), hlen]
        simp [roots, fo]
    have hk2 := key cs b 0 [] m.base.Nodes m.left.Nodes m.right.Nodes m.out m.bad rfl hA.cs (by omega) (by omega) (by simp only [List.length_nil]; omega)
    show syntax_merger__copy.body (syntax_merger__copy.m k) m t _ = _
    unfold syntax_merger__copy.body
    rw [hg, Option.bind_some, Option.bind_some]
    rw [show (((0 : Nat)) : Int) = (0 : Int) from rfl] at hk2
    rw [hk2, Option.bind_some, syntax_merger__copy.j1, app_eq (by simp; omega), Option.bind_some]
    simp [fo]

theorem copy_f {t : SyntaxTree} (ht : t.Nodes.length ≤ 80) {l : ByteArray} {cs : Fo} {b : Nat} {m : Merger_syntax} (hA : At t.Nodes b (Fo.tr l cs)) (ho : m.out.length + sz cs ≤ 5000) :
    syntax_merger__copy m t ((b + sz cs : Nat) : Int) = some { m with out := m.out ++ fo m.out.length (Fo.tr l cs) } :=
  copy_m t ht _ l cs b m hA (by omega) ho

/-! ## merge -/
def sameT (l : ByteArray) (cs : Fo) (l' : ByteArray) (cs' : Fo) : Prop := l = l' ∧ cs = cs'
instance (l : ByteArray) (cs : Fo) (l' : ByteArray) (cs' : Fo) : Decidable (sameT l cs l' cs') := by unfold sameT; exact inferInstance
/-- both may be merged child by child -/
def fitM (lo : ByteArray) (xo : Fo) (la : ByteArray) (xa : Fo) (lb : ByteArray) (xb : Fo) : Prop := (cnt xo = cnt xa ∧ cnt xo = cnt xb) ∧ (lo = la ∨ lo = lb ∨ la = lb)
instance (lo : ByteArray) (xo : Fo) (la : ByteArray) (xa : Fo) (lb : ByteArray) (xb : Fo) : Decidable (fitM lo xo la xa lb xb) := by unfold fitM; exact inferInstance

def mrgF : Fo → Fo → Fo → Fo
  | .node lo xo ro, .node la xa ra, .node lb xb rb =>
    if sameT lb xb lo xo ∨ sameT lb xb la xa then .node la xa (mrgF ro ra rb)
    else if sameT la xa lo xo then .node lb xb (mrgF ro ra rb)
    else if fitM lo xo la xa lb xb then .node (if la = lo then lb else la) (mrgF xo xa xb) (mrgF ro ra rb)
    else .node la xa (mrgF ro ra rb)
  | _, _, _ => .nil
def badF (b : Nat) : Fo → Fo → Fo → List Int
  | .node lo xo ro, .node la xa ra, .node lb xb rb =>
    if sameT lb xb lo xo ∨ sameT lb xb la xa then badF (b + sz xa + 1) ro ra rb
    else if sameT la xa lo xo then badF (b + sz xb + 1) ro ra rb
    else if fitM lo xo la xa lb xb then badF b xo xa xb ++ badF (b + sz (mrgF xo xa xb) + 1) ro ra rb
    else ((b + sz xa : Nat) : Int) :: badF (b + sz xa + 1) ro ra rb
  | _, _, _ => []

theorem mrg_sz : ∀ o a b : Fo, sz (mrgF o a b) ≤ sz a + sz b
  | .node lo xo ro, .node la xa ra, .node lb xb rb => by
    have h1 := mrg_sz xo xa xb
    have h2 := mrg_sz ro ra rb
    rw [mrgF]
    split
    · simp only [sz]; omega
    · split
      · simp only [sz]; omega
      · split <;> simp only [sz] <;> omega
  | .nil, a, b => by simp [mrgF, sz]
  | .node _ _ _, .nil, b => by simp [mrgF, sz]
  | .node _ _ _, .node _ _ _, .nil => by simp [mrgF, sz]
theorem bad_len : ∀ (o a b : Fo) (p : Nat), (badF p o a b).length ≤ sz a
  | .node lo xo ro, .node la xa ra, .node lb xb rb, p => by
    rw [badF]
    have h1 := bad_len xo xa xb p
    split
    · have := bad_len ro ra rb (p + sz xa + 1); simp only [sz]; omega
    · split
      · have := bad_len ro ra rb (p + sz xb + 1); simp only [sz]; omega
      · split
        · have := bad_len ro ra rb (p + sz (mrgF xo xa xb) + 1); simp only [sz, List.length_append]; omega
        · have := bad_len ro ra rb (p + sz xa + 1); simp only [sz, List.length_cons]; omega
  | .nil, a, b, p => by simp [badF]
  | .node _ _ _, .nil, b, p => by simp [badF]
  | .node _ _ _, .node _ _ _, .nil, p => by simp [badF]
theorem mrg_cnt : ∀ o a b : Fo, cnt o = cnt a → cnt o = cnt b → cnt (mrgF o a b) = cnt o
  | .node lo xo ro, .node la xa ra, .node lb xb rb, h1, h2 => by
    simp only [cnt, Nat.add_right_cancel_iff] at h1 h2
    have := mrg_cnt ro ra rb h1 h2
    rw [mrgF]
    split
    · simp only [cnt, this]
    · split
      · simp only [cnt, this]
      · split <;> simp only [cnt, this]
  | .nil, a, b, _, _ => rfl
  | .node _ _ _, .nil, b, h, _ => by simp [cnt] at h
  | .node _ _ _, .node _ _ _, .nil, _, h => by simp [cnt] at h

theorem merge_m (o a b : SyntaxTree) (hO : o.Nodes.length ≤ 80) (hL : a.Nodes.length ≤ 80) (hR : b.Nodes.length ≤ 80) : ∀ (k : Nat) (lo la lb : ByteArray) (xo xa xb : Fo) (p q r : Nat) (out : List Node) (bad : List Int),
    At o.Nodes p (Fo.tr lo xo) → At a.Nodes q (Fo.tr la xa) → At b.Nodes r (Fo.tr lb xb) → sz xo < k → out.length + sz xa + sz xb ≤ 4000 → bad.length + sz xa ≤ 4000 →
    syntax_merger__merge.m k ⟨o, a, b, out, bad⟩ ((p + sz xo : Nat) : Int) ((q + sz xa : Nat) : Int) ((r + sz xb : Nat) : Int) = some ⟨o, a, b, out ++ fo out.length (mrgF (Fo.tr lo xo) (Fo.tr la xa) (Fo.tr lb xb)), bad ++ badF out.length (Fo.tr lo xo) (Fo.tr la xa) (Fo.tr lb xb)⟩
  | 0, lo, la, lb, xo, xa, xb, p, q, r, out, bad, _, _, _, h, _, _ => absurd h (by omega)
  | k + 1, lo, la, lb, xo, xa, xb, p, q, r, out, bad, hA, hB, hC, hk, ho, hb => by
    have ih := merge_m o a b hO hL hR k
    have gA := hA.get
    have gB := hB.get
    have gC := hC.get
    have leA := hA.le
    have leB := hB.le
    have leC := hC.le
    simp only [sz] at leA leB leC
    have c1 := cnt_sz xo
    have c2 := cnt_sz xa
    have c3 := cnt_sz xb
    have key : ∀ (Go Ga Gb : Fo) (p' q' r' j : Nat) (x22 : List Int) (out : List Node) (bad : List Int), (roots p xo).drop j = roots p' Go → (roots q xa).drop j = roots q' Ga → (roots r xb).drop j = roots r' Gb → cnt Go = cnt Ga → cnt Go = cnt Gb →
        At o.Nodes p' Go → At a.Nodes q' Ga → At b.Nodes r' Gb → sz Go ≤ k → out.length + sz Ga + sz Gb ≤ 4000 → bad.length + sz Ga ≤ 4000 → x22.length + cnt Go ≤ 4000 →
        iter (fun s => syntax_merger__merge.l1 (syntax_merger__merge.m k) ⟨lo, roots p xo⟩ ⟨la, roots q xa⟩ ⟨lb, roots r xb⟩ s.1 s.2.1 s.2.2.1 s.2.2.2.1 s.2.2.2.2.1 s.2.2.2.2.2.1 s.2.2.2.2.2.2) ((j : Int), x22, o.Nodes, a.Nodes, b.Nodes, out, bad) =
          some (x22 ++ roots out.length (mrgF Go Ga Gb), o.Nodes, a.Nodes, b.Nodes, out ++ fo out.length (mrgF Go Ga Gb), bad ++ badF out.length Go Ga Gb) := by
      intro Go
      induction Go with
      | nil =>
        intro Ga Gb p' q' r' j x22 out bad hd _ _ _ _ _ _ _ _ _ _ _
        have := s_drop_end hd
        refine iter_done ?_
        simp only [syntax_merger__merge.l1]
        rw [ite_dec, if_neg (by omega)]
        simp [mrgF, badF, roots, fo]
      | node lo' xo' ro _ ihr =>
        intro Ga Gb p' q' r' j x22 out bad hd hd2 hd3 hc hc2 hA' hB' hC' hz ho2 hb2 hx
        cases Ga with
        | nil => simp [cnt] at hc
        | node la' xa' ra =>
        cases Gb with
        | nil => simp [cnt] at hc2
        | node lb' xb' rb =>
        obtain ⟨h1, h2, h3⟩ := kid hd
        obtain ⟨_, h5, h6⟩ := kid hd2
        obtain ⟨_, h8, h9⟩ := kid hd3
        rw [roots_len] at h1
        simp only [sz] at hz ho2 hb2
        simp only [cnt, Nat.add_right_cancel_iff] at hc hc2 hx
        have hi := ih lo' la' lb' xo' xa' xb' p' q' r' out bad hA'.tr hB'.tr hC'.tr (by omega) (by omega) (by omega)
        have hms := mrg_sz (Fo.tr lo' xo') (Fo.tr la' xa') (Fo.tr lb' xb')
        have hbs := bad_len (Fo.tr lo' xo') (Fo.tr la' xa') (Fo.tr lb' xb') out.length
        simp only [sz] at hms hbs
        -- the merged tree
        obtain ⟨lm, xm, em⟩ : ∃ lm xm, mrgF (Fo.tr lo' xo') (Fo.tr la' xa') (Fo.tr lb' xb') = Fo.tr lm xm := by
          simp only [mrgF]; split
          · exact ⟨_, _, rfl⟩
          · split
            · exact ⟨_, _, rfl⟩
            · split <;> exact ⟨_, _, rfl⟩
        have em2 : mrgF (.node lo' xo' ro) (.node la' xa' ra) (.node lb' xb' rb) = .node lm xm (mrgF ro ra rb) := by
          simp only [mrgF] at em ⊢; split
          · rename_i h; rw [if_pos h] at em; injection em with e1 e2; rw [e1, e2]
          · rename_i h; rw [if_neg h] at em; split
            · rename_i h; rw [if_pos h] at em; injection em with e1 e2; rw [e1, e2]
            · rename_i h; rw [if_neg h] at em; split
              · rename_i h; rw [if_pos h] at em; injection em with e1 e2; rw [e1, e2]
              · rename_i h; rw [if_neg h] at em; injection em with e1 e2; rw [e1, e2]
        have eb2 : badF out.length (.node lo' xo' ro) (.node la' xa' ra) (.node lb' xb' rb) = badF out.length (Fo.tr lo' xo') (Fo.tr la' xa') (Fo.tr lb' xb') ++ badF (out.length + sz xm + 1) ro ra rb := by
          simp only [mrgF] at em
          simp only [badF]; split
          · rename_i h; rw [if_pos h] at em; injection em with e1 e2; rw [e2]; simp
          · rename_i h; rw [if_neg h] at em; split
            · rename_i h; rw [if_pos h] at em; injection em with e1 e2; rw [e2]; simp
            · rename_i h; rw [if_neg h] at em; split
              · rename_i h; rw [if_pos h] at em; injection em with e1 e2; rw [e2]; simp
              · rename_i h; rw [if_neg h] at em; injection em with e1 e2; rw [e2]; simp
        rw [em] at hi hms
        simp only [sz] at hms
        have hlen : (out ++ fo out.length (Fo.tr lm xm)).length = out.length + sz xm + 1 := by simp [sz]; omega
        have e1 : syntax_merger__merge.l1 (syntax_merger__merge.m k) ⟨lo, roots p xo⟩ ⟨la, roots q xa⟩ ⟨lb, roots r xb⟩ (j : Int) x22 o.Nodes a.Nodes b.Nodes out bad = some (Step.next (((j + 1 : Nat) : Int), x22 ++ [((out.length + sz xm : Nat) : Int)], o.Nodes, a.Nodes, b.Nodes, out ++ fo out.length (Fo.tr lm xm), bad ++ badF out.length (Fo.tr lo' xo') (Fo.tr la' xa') (Fo.tr lb' xb'))) := by
          simp only [syntax_merger__merge.l1]
          rw [ite_dec, if_pos (by rw [roots_len]; omega), h2, Option.bind_some, h5, Option.bind_some, h8, Option.bind_some, show (⟨⟨o.Nodes⟩, ⟨a.Nodes⟩, ⟨b.Nodes⟩, out, bad⟩ : Merger_syntax) = ⟨o, a, b, out, bad⟩ from rfl, hi, Option.bind_some]
          simp only []
          rw [hlen, ck_eq (by omega) (by omega), Option.bind_some, app_eq (by simp; omega), Option.bind_some, ck_eq (by omega) (by omega), show (((out.length + sz xm + 1 : Nat) : Int) - 1) = ((out.length + sz xm : Nat) : Int) by omega]
          rfl
        rw [iter_next e1, ihr ra rb _ _ _ (j + 1) _ _ _ h3 h6 h9 hc hc2 hA'.r hB'.r hC'.r (by omega) (by rw [hlen]; omega) (by rw [List.length_append]; omega) (by simp; omega), hlen, em2, eb2]
        simp [roots, fo]
    have eq1 := equal_m b o hR hO (r + sz xb + 1) lb lo xb xo r p hC hA (by omega)
    have eq1' : syntax_equal b ((r + sz xb : Nat) : Int) o ((p + sz xo : Nat) : Int) = some (decide (sameT lb xb lo xo)) := equal_f hR hO hC hA
    have eq2' : syntax_equal b ((r + sz xb : Nat) : Int) a ((q + sz xa : Nat) : Int) = some (decide (sameT lb xb la xa)) := equal_f hR hL hC hB
    have eq3' : syntax_equal a ((q + sz xa : Nat) : Int) o ((p + sz xo : Nat) : Int) = some (decide (sameT la xa lo xo)) := equal_f hL hO hB hA
    clear eq1
    have cpA := copy_f (m := ⟨o, a, b, out, bad⟩) hL hB (by simp only []; omega)
    have cpB := copy_f (m := ⟨o, a, b, out, bad⟩) hR hC (by simp only []; omega)
    show syntax_merger__merge.body (syntax_merger__merge.m k) ⟨o, a, b, out, bad⟩ _ _ _ = _
    unfold syntax_merger__merge.body syntax_merger__merge.j1
    simp only []
    rw [gA, Option.bind_some, gB, Option.bind_some, gC, Option.bind_some, eq1', Option.bind_some]
    simp only [mrgF, badF]
    have e12 : ((if decide (sameT lb xb lo xo) = true then some true else (syntax_equal b ((r + sz xb : Nat) : Int) a ((q + sz xa : Nat) : Int)).bind fun y5 => some y5) : Option Bool) = some (decide (sameT lb xb lo xo ∨ sameT lb xb la xa)) := by
      rw [eq2']
      by_cases h : sameT lb xb lo xo <;> simp [h]
    rw [e12, Option.bind_some, ite_dec]
    by_cases q1 : sameT lb xb lo xo ∨ sameT lb xb la xa
    · rw [if_pos q1, if_pos q1, if_pos q1, cpA, Option.bind_some]
      simp [syntax_merger__merge.j2]
    · rw [if_neg q1, if_neg q1, if_neg q1, eq3', Option.bind_some, ite_dec]
      by_cases q2 : sameT la xa lo xo
      · rw [if_pos q2, if_pos q2, if_pos q2, cpB, Option.bind_some]
        simp [syntax_merger__merge.j2]
      · rw [if_neg q2, if_neg q2, if_neg q2]
        have e3 : ((if decide (((roots p xo).length : Int) = ((roots q xa).length : Int)) = true then some (decide (((roots p xo).length : Int) = ((roots r xb).length : Int))) else some false) : Option Bool) = some (decide (cnt xo = cnt xa ∧ cnt xo = cnt xb)) := by
          simp only [roots_len]
          by_cases h : cnt xo = cnt xa
          · rw [ite_dec, if_pos (by omega)]; congr 1; exact decide_eq_decide.2 (by omega)
          · rw [ite_dec, if_neg (by omega)]; congr 1; exact (decide_eq_false (fun h' => h h'.1)).symm
        rw [e3, Option.bind_some]
        have e4 : ((if decide (cnt xo = cnt xa ∧ cnt xo = cnt xb) = true then (if decide (lo = la) = true then some true else some (decide (lo = lb))).bind fun x12 => (if x12 = true then some true else some (decide (la = lb))).bind fun x13 => some x13 else some false) : Option Bool) = some (decide (fitM lo xo la xa lb xb)) := by
          unfold fitM
          by_cases h : cnt xo = cnt xa ∧ cnt xo = cnt xb
          · rw [ite_dec, if_pos h, show decide ((cnt xo = cnt xa ∧ cnt xo = cnt xb) ∧ (lo = la ∨ lo = lb ∨ la = lb)) = decide (lo = la ∨ lo = lb ∨ la = lb) from decide_eq_decide.2 ⟨fun h' => h'.2, fun h' => ⟨h, h'⟩⟩]
            by_cases h1 : lo = la
            · simp [h1]
            · by_cases h2 : lo = lb
              · simp [h2]
              · simp [h1, h2]
          · rw [ite_dec, if_neg h]; congr 1; exact (decide_eq_false (fun h' => h h'.1)).symm
        rw [e4, Option.bind_some, ite_dec]
        by_cases q3 : fitM lo xo la xa lb xb
        · rw [if_pos q3, if_pos q3, if_pos q3]
          have hk2 := key xo xa xb p q r 0 [] out bad rfl rfl rfl q3.1.1 q3.1.2 hA.cs hB.cs hC.cs (by omega) (by omega) (by omega) (by simp only [List.length_nil]; omega)
          rw [show (((0 : Nat)) : Int) = (0 : Int) from rfl] at hk2
          have hms := mrg_sz xo xa xb
          have j3 : ∀ x14, syntax_merger__merge.j3 ⟨o, a, b, out, bad⟩ (syntax_merger__merge.m k) ⟨lo, roots p xo⟩ ⟨la, roots q xa⟩ ⟨lb, roots r xb⟩ x14 = some ⟨o, a, b, out ++ fo out.length (.node x14 (mrgF xo xa xb) .nil), bad ++ badF out.length xo xa xb⟩ := by
            intro x14
            unfold syntax_merger__merge.j3
            simp only []
            rw [hk2, Option.bind_some, syntax_merger__merge.j4, app_eq (by simp; omega), Option.bind_some]
            simp [syntax_merger__merge.j2, fo]
          have e5 : ((if (!decide (lb = lo)) = true then some (!decide (lb = la)) else some false) : Option Bool) = some (decide (lb ≠ lo ∧ lb ≠ la)) := by
            by_cases h : lb = lo <;> simp [h]
          rw [e5, Option.bind_some, ite_dec, j3, j3]
          have e6 : (if lb ≠ lo ∧ lb ≠ la then lb else la) = if la = lo then lb else la := by
            have h3 := q3.2
            by_cases h : la = lo
            · rw [if_pos h]
              by_cases h' : lb = lo
              · rw [if_neg (fun c => c.1 h'), h, h']
              · rw [if_pos ⟨h', fun c => h' (c.trans h)⟩]
            · rw [if_neg h]
              refine if_neg (fun c => ?_)
              rcases h3 with h3 | h3 | h3
              · exact h h3.symm
              · exact c.1 h3.symm
              · exact c.2 h3.symm
          rw [← e6]
          have e7 : badF (out.length + sz (mrgF xo xa xb) + 1) .nil .nil .nil = [] := rfl
          by_cases h : lb ≠ lo ∧ lb ≠ la
          · rw [if_pos h, if_pos h, List.append_nil]
          · rw [if_neg h, if_neg h, List.append_nil]
        · rw [if_neg q3, if_neg q3, if_neg q3, cpA, Option.bind_some]
          simp only []
          have hlen : (out ++ fo out.length (Fo.tr la xa)).length = out.length + sz xa + 1 := by simp [sz]; omega
          rw [hlen, ck_eq (by omega) (by omega), Option.bind_some, app_eq (by simp; omega), Option.bind_some, show (((out.length + sz xa + 1 : Nat) : Int) - 1) = ((out.length + sz xa : Nat) : Int) by omega]
          rfl
end Go.Dc
