/- Subtrees: their sizes, depths; the reference's check is the program's. -/
import Derived.Test.YtigjmijbekhdgaaDcSB
set_option linter.unusedSimpArgs false
namespace Go.Dc
open Go Fo

/-- a forest lies at b -/
def At (ns : List Node) (b : Nat) (F : Fo) : Prop := ∃ p q, ns = p ++ (fo b F ++ q) ∧ p.length = b

theorem At.le {ns : List Node} {b : Nat} {F : Fo} (h : At ns b F) : b + sz F ≤ ns.length := by
  obtain ⟨p, q, h1, h2⟩ := h
  rw [h1]; simp; omega
theorem At.cs {ns : List Node} {b : Nat} {l : ByteArray} {cs r : Fo} (h : At ns b (.node l cs r)) : At ns b cs := by
  obtain ⟨p, q, h1, h2⟩ := h
  exact ⟨p, ⟨l, roots b cs⟩ :: fo (b + sz cs + 1) r ++ q, by rw [h1]; simp [fo], h2⟩
theorem At.r {ns : List Node} {b : Nat} {l : ByteArray} {cs r : Fo} (h : At ns b (.node l cs r)) : At ns (b + sz cs + 1) r := by
  obtain ⟨p, q, h1, h2⟩ := h
  exact ⟨p ++ (fo b cs ++ [⟨l, roots b cs⟩]), q, by rw [h1]; simp [fo], by simp; omega⟩
theorem At.tr {ns : List Node} {b : Nat} {l : ByteArray} {cs r : Fo} (h : At ns b (.node l cs r)) : At ns b (Fo.tr l cs) := by
  obtain ⟨p, q, h1, h2⟩ := h
  exact ⟨p, fo (b + sz cs + 1) r ++ q, by rw [h1]; simp [fo], h2⟩
theorem At.get {ns : List Node} {b : Nat} {l : ByteArray} {cs r : Fo} (h : At ns b (.node l cs r)) : at? ns ((b + sz cs : Nat) : Int) = some ⟨l, roots b cs⟩ := by
  have hl := h.le
  obtain ⟨p, q, h1, h2⟩ := h
  have hb : b + sz cs < ns.length := by simp only [sz] at hl; omega
  rw [at_nat hb]
  congr 1
  have e : ns = (p ++ fo b cs) ++ ⟨l, roots b cs⟩ :: (fo (b + sz cs + 1) r ++ q) := by rw [h1]; simp [fo]
  have : ns[b + sz cs]? = some ⟨l, roots b cs⟩ := by
    rw [e, List.getElem?_append_right (by simp; omega)]
    simp [h2]
  rw [List.getElem?_eq_getElem hb] at this
  exact Option.some.inj this
theorem At.app {ns : List Node} {b : Nat} {F G : Fo} (h : At ns b (.app F G)) : At ns b F ∧ At ns (b + sz F) G := by
  obtain ⟨p, q, h1, h2⟩ := h
  rw [fo_app] at h1
  exact ⟨⟨p, fo (b + sz F) G ++ q, by rw [h1]; simp, h2⟩, ⟨p ++ fo b F, q, by rw [h1]; simp, by simp; omega⟩⟩
theorem At.self (F : Fo) : At (fo 0 F) 0 F := ⟨[], [], by simp, rfl⟩
theorem At.grow {ns : List Node} {b : Nat} {F : Fo} (h : At ns b F) (m : List Node) : At (ns ++ m) b F := by
  obtain ⟨p, q, h1, h2⟩ := h
  exact ⟨p, q ++ m, by rw [h1]; simp, h2⟩

/-- the children that are left -/
theorem kid {ch : List Int} {j b : Nat} {l : ByteArray} {cs r : Fo} (h : ch.drop j = roots b (.node l cs r)) :
    j < ch.length ∧ at? ch (j : Int) = some ((b + sz cs : Nat) : Int) ∧ ch.drop (j + 1) = roots (b + sz cs + 1) r := by
  obtain ⟨h1, h2, h3⟩ := s_drop_at (by rw [h]; rfl)
  exact ⟨h1, by rw [at_nat h1, h2], h3⟩

/-! ## Size -/
theorem Size_m (t : SyntaxTree) (hN : t.Nodes.length ≤ 80) : ∀ (k : Nat) (l : ByteArray) (cs : Fo) (b : Nat), At t.Nodes b (Fo.tr l cs) → sz cs < k → changeforgeref2_Size.m k t ((b + sz cs : Nat) : Int) = some ((sz cs + 1 : Nat) : Int)
  | 0, l, cs, b, _, h => absurd h (by omega)
  | k + 1, l, cs, b, hA, hk => by
    have ih := Size_m t hN k
    have hg := hA.get
    have key : ∀ (F : Fo) (b' j : Nat) (acc : Nat), (roots b cs).drop j = roots b' F → At t.Nodes b' F → sz F ≤ k → acc + sz F ≤ 200 →
        iter (fun s => changeforgeref2_Size.l1 t ((b + sz cs : Nat) : Int) (changeforgeref2_Size.m k) s.1 s.2) ((j : Int), (acc : Int)) = some ((acc + sz F : Nat) : Int) := by
      intro F
      induction F with
      | nil =>
        intro b' j acc hd _ _ _
        refine iter_done ?_
        have := s_drop_end hd
        simp only [changeforgeref2_Size.l1]
        rw [hg, Option.bind_some, ite_dec, if_neg (by simp only []; omega)]
        simp [sz]
      | node l' cs' r _ ihr =>
        intro b' j acc hd hA' hs ha
        obtain ⟨h1, h2, h3⟩ := kid hd
        have hle := hA'.le
        simp only [sz] at hs ha hle
        have e1 : changeforgeref2_Size.l1 t ((b + sz cs : Nat) : Int) (changeforgeref2_Size.m k) (j : Int) (acc : Int) = some (Step.next (((j + 1 : Nat) : Int), ((acc + (sz cs' + 1) : Nat) : Int))) := by
          have hrl := roots_len_le b cs
          have hle2 := hA.le
          simp only [sz] at hle2
          simp only [changeforgeref2_Size.l1]
          rw [hg, Option.bind_some, ite_dec, if_pos (by simp only []; omega), Option.bind_some]
          simp only []
          rw [h2, Option.bind_some, ih l' cs' b' hA'.tr (by omega), Option.bind_some, ck_eq (by omega) (by omega), Option.bind_some, ck_eq (by omega) (by omega)]
          rfl
        rw [iter_next e1]
        rw [ihr (b' + sz cs' + 1) (j + 1) (acc + (sz cs' + 1)) h3 hA'.r (by omega) (by omega)]
        simp only [sz]; congr 2; omega
    have hle := hA.le
    simp only [sz] at hle
    have := key cs b 0 1 rfl hA.cs (by omega) (by omega)
    show changeforgeref2_Size.body (changeforgeref2_Size.m k) t _ = _
    unfold changeforgeref2_Size.body changeforgeref2_Size.j1
    rw [show ((0 : Int), (1 : Int)) = (((0 : Nat) : Int), ((1 : Nat) : Int)) from rfl, this, Option.bind_some]
    congr 2; omega

theorem Size_f {t : SyntaxTree} (hN : t.Nodes.length ≤ 80) {l : ByteArray} {cs : Fo} {b : Nat} (hA : At t.Nodes b (Fo.tr l cs)) : changeforgeref2_Size t ((b + sz cs : Nat) : Int) = some ((sz cs + 1 : Nat) : Int) :=
  Size_m t hN _ l cs b hA (by omega)

/-! ## Depth -/
theorem Depth_m (t : SyntaxTree) (hN : t.Nodes.length ≤ 80) : ∀ (k : Nat) (l : ByteArray) (cs : Fo) (b : Nat), At t.Nodes b (Fo.tr l cs) → Fo.dp cs ≤ 100 → sz cs < k → changeforgeref2_Depth.m k t ((b + sz cs : Nat) : Int) = some (Fo.dp cs + 1)
  | 0, l, cs, b, _, _, h => absurd h (by omega)
  | k + 1, l, cs, b, hA, hD, hk => by
    have ih := Depth_m t hN k
    have hg := hA.get
    have hn := dp_nn cs
    have key : ∀ (F : Fo) (b' j : Nat) (acc : Int), (roots b cs).drop j = roots b' F → At t.Nodes b' F → sz F ≤ k → Fo.dp F ≤ 100 → 0 ≤ acc →
        iter (fun s => changeforgeref2_Depth.l1 t ((b + sz cs : Nat) : Int) (changeforgeref2_Depth.m k) s.1 s.2) ((j : Int), acc) = some (max acc (Fo.dp F)) := by
      intro F
      induction F with
      | nil =>
        intro b' j acc hd _ _ _ h0
        refine iter_done ?_
        have := s_drop_end hd
        simp only [changeforgeref2_Depth.l1]
        rw [hg, Option.bind_some, ite_dec, if_neg (by simp only []; omega)]
        simp only [Fo.dp]; congr 2; omega
      | node l' cs' r _ ihr =>
        intro b' j acc hd hA' hs ha h0
        obtain ⟨h1, h2, h3⟩ := kid hd
        have hle := hA'.le
        simp only [sz] at hs hle
        simp only [Fo.dp] at ha
        have hn1 := dp_nn cs'
        have hn2 := dp_nn r
        have e1 : changeforgeref2_Depth.l1 t ((b + sz cs : Nat) : Int) (changeforgeref2_Depth.m k) (j : Int) acc = some (Step.next (((j + 1 : Nat) : Int), max acc (Fo.dp cs' + 1))) := by
          have hrl := roots_len_le b cs
          have hle2 := hA.le
          simp only [sz] at hle2
          simp only [changeforgeref2_Depth.l1]
          rw [hg, Option.bind_some, ite_dec, if_pos (by simp only []; omega), Option.bind_some]
          simp only []
          rw [h2, Option.bind_some, ih l' cs' b' hA'.tr (by omega) (by omega), Option.bind_some, ite_dec]
          by_cases c : Fo.dp cs' + 1 > acc
          · rw [if_pos c, changeforgeref2_Depth.j2, ck_eq (by omega) (by omega), Option.bind_some, show max acc (Fo.dp cs' + 1) = Fo.dp cs' + 1 by omega]; rfl
          · rw [if_neg c, changeforgeref2_Depth.j2, ck_eq (by omega) (by omega), Option.bind_some, show max acc (Fo.dp cs' + 1) = acc by omega]; rfl
        rw [iter_next e1]
        rw [ihr (b' + sz cs' + 1) (j + 1) _ h3 hA'.r (by omega) (by omega) (by omega)]
        simp only [Fo.dp]
        congr 1; omega
    have := key cs b 0 0 rfl hA.cs (by omega) (by omega) (Int.le_refl _)
    show changeforgeref2_Depth.body (changeforgeref2_Depth.m k) t _ = _
    unfold changeforgeref2_Depth.body changeforgeref2_Depth.j1
    rw [show ((0 : Int), (0 : Int)) = (((0 : Nat) : Int), (0 : Int)) from rfl, this, Option.bind_some]
    rw [show max 0 (Fo.dp cs) = Fo.dp cs by omega, ck_eq (by omega) (by omega)]; rfl

theorem Depth_f {t : SyntaxTree} (hN : t.Nodes.length ≤ 80) {l : ByteArray} {cs : Fo} {b : Nat} (hA : At t.Nodes b (Fo.tr l cs)) (hD : Fo.dp cs ≤ 100) : changeforgeref2_Depth t ((b + sz cs : Nat) : Int) = some (Fo.dp cs + 1) :=
  Depth_m t hN _ l cs b hA hD (by omega)

/-! ## the reference's check -/
theorem sf_l2 {t : SyntaxTree} (hN : t.Nodes.length ≤ 80) (i : Int) (n : Node) (hn : n.Children.length ≤ 9223372036854775807) : ∀ (m : Nat) (F1 H : Fo) (d : Int), m ≤ n.Children.length → 1 ≤ d → At t.Nodes 0 F1 →
    iter (fun s => changeforgeref2_SyntaxFault.l2 t i n s.1 s.2) ((m : Int) - 1, (sz F1 : Int)) = some (match wc (stl 0 (app F1 H)) (dpl (app F1 H)) (n.Children.take m).reverse (sz F1 : Nat) d with | Option.none => .inl ⟨5, i⟩ | some _ => .inr ())
  | 0, F1, H, d, hm, hd, hA => by
    refine iter_done ?_
    simp only [changeforgeref2_SyntaxFault.l2]
    rw [ite_dec, if_neg (by omega)]; rfl
  | m + 1, F1, H, d, hm, hd, hA => by
    have hlt : m < n.Children.length := by omega
    have hle := hA.le
    rw [List.take_add_one, show n.Children[m]? = some n.Children[m] from List.getElem?_eq_getElem hlt, Option.toList_some, List.reverse_append, List.reverse_singleton, List.singleton_append, wc]
    by_cases c : n.Children[m] = (sz F1 : Int) - 1 ∧ 0 ≤ n.Children[m]
    · rw [if_pos c]
      rcases Fo.snoc F1 with e | ⟨G, l, k, e⟩
      · subst e; simp [sz] at c; omega
      · subst e
        have hcz : n.Children[m] = ((sz G + sz k : Nat) : Int) := by have := c.1; simp [sz] at this; omega
        have hA2 := hA.app.2
        rw [Nat.zero_add] at hA2
        simp only [sz_app, sz] at hle
        have e1 : changeforgeref2_SyntaxFault.l2 t i n (((m + 1 : Nat) : Int) - 1) (sz (app G (Fo.tr l k)) : Int) = some (Step.next ((m : Int) - 1, (sz G : Int))) := by
          unfold changeforgeref2_SyntaxFault.l2
          rw [show (((m + 1 : Nat) : Int) - 1) = (m : Int) by omega, ite_dec, if_pos (by omega), at_nat hlt, Option.bind_some, ite_dec, if_neg (by omega), Option.bind_some, ck_eq (by omega) (by omega), Option.bind_some, Option.bind_some,
            ite_ndec, if_pos c.1, Option.bind_some, hcz, Size_f hN hA2, Option.bind_some, ck_eq (by omega) (by simp only [sz_app, sz]; omega), Option.bind_some, ck_eq (by omega) (by omega)]
          simp [sz]
        rw [iter_next e1]
        rw [sf_l2 hN i n hn m G (app (Fo.tr l k) H) _ (by omega) _ hA.app.1, hcz, show (((sz G + sz k : Nat) : Int)).toNat = sz G + sz k by omega, stl_root, dpl_root, app_assoc]
        have := dp_nn k
        omega
    · rw [if_neg c]
      refine iter_done ?_
      simp only [changeforgeref2_SyntaxFault.l2, changeforgeref1_At]
      rw [show (((m + 1 : Nat) : Int) - 1) = (m : Int) by omega, ite_dec, if_pos (by omega), at_nat hlt, Option.bind_some, ite_dec]
      by_cases c0 : n.Children[m] < 0
      · rw [if_pos c0]; rfl
      · rw [if_neg c0, Option.bind_some, ck_eq (by omega) (by omega), Option.bind_some, Option.bind_some, ite_ndec, if_neg (by omega)]; rfl

theorem sf_l1 {t : SyntaxTree} (hb : OkN t.Nodes) (hN : t.Nodes.length ≤ 80) : ∀ (rest : List Node) (F : Fo), t.Nodes = fo 0 F ++ rest → GoodF F →
    iter (fun s => changeforgeref2_SyntaxFault.l1 t s) (sz F : Int) = some (match vscan rest (sz F : Int) (stl 0 F) (dpl F) with | .inl f => .inl f | .inr _ => .inr ())
  | [], F, h, hF => by
    have hlen : t.Nodes.length = sz F := by rw [h]; simp
    refine iter_done ?_
    simp only [changeforgeref2_SyntaxFault.l1]
    rw [ite_dec, if_neg (by omega)]; rfl
  | n :: r, F, h, hF => by
    have hlt : sz F < t.Nodes.length := by rw [h]; simp
    have hn : at? t.Nodes (sz F : Int) = some n := by
      rw [at_nat hlt]
      have : t.Nodes[sz F]? = some n := by rw [h, List.getElem?_append_right (by simp)]; simp
      rw [List.getElem?_eq_getElem hlt] at this
      exact this
    have hbn := hb n (by rw [h]; simp)
    have hA : At t.Nodes 0 F := ⟨[], n :: r, by rw [h]; rfl, rfl⟩
    rw [vscan]
    simp only [stl_len]
    cases hl : labB n.Label with
    | false =>
      rw [if_pos rfl]
      refine iter_done ?_
      simp only [changeforgeref2_SyntaxFault.l1, changeforgeref1_At]
      rw [ite_dec, if_pos (by omega), hn, Option.bind_some, labelValid_f _ hbn.1, hl, Option.bind_some]; rfl
    | true =>
      rw [if_neg (by decide)]
      have e2 := sf_l2 hN (sz F : Int) n hbn.2 n.Children.length F .nil 1 (Nat.le_refl _) (Int.le_refl _) hA
      rw [app_nil, List.take_length] at e2
      have e3 : changeforgeref2_SyntaxFault.l1 t (sz F : Int) = (match wc (stl 0 F) (dpl F) n.Children.reverse (sz F : Nat) 1 with | Option.none => some (Step.done (.inl ⟨5, (sz F : Int)⟩)) | some _ => changeforgeref2_SyntaxFault.j3 t (sz F : Int)) := by
        simp only [changeforgeref2_SyntaxFault.l1]
        rw [ite_dec, if_pos (by omega), hn, Option.bind_some, labelValid_f _ hbn.1, hl, Option.bind_some, if_neg (by decide), Option.bind_some, ck_eq (by omega) (by omega), Option.bind_some, e2, Option.bind_some]
        cases wc (stl 0 F) (dpl F) n.Children.reverse (sz F : Nat) 1 <;> rfl
      rcases wc_none_or F n.Children with ⟨h1, _⟩ | ⟨G1, G2, e4, e5, h1⟩
      · rw [h1] at e3 ⊢
        exact iter_done e3
      · rw [h1] at e3 ⊢
        simp only at e3 ⊢
        have hsz : sz F = sz G1 + sz G2 := by rw [e4, sz_app]
        have hns : t.Nodes = fo 0 (app G1 (Fo.tr n.Label G2)) ++ r := by rw [push_fo, ← e4, ← e5, h]; simp
        have hA2 : At t.Nodes (sz G1) (Fo.tr n.Label G2) := by
          have : At t.Nodes 0 (app G1 (Fo.tr n.Label G2)) := ⟨[], r, by rw [hns]; rfl, rfl⟩
          have := this.app.2
          rwa [Nat.zero_add] at this
        have hdF := hF.2
        rw [e4, dp_app] at hdF
        have hD := Depth_f hN hA2 (by omega)
        rw [← hsz] at hD
        rw [changeforgeref2_SyntaxFault.j3, hD, Option.bind_some, ite_dec] at e3
        by_cases c : Fo.dp G2 + 1 > 12
        · rw [if_pos c] at e3 ⊢
          exact iter_done e3
        · rw [if_neg c, changeforgeref2_SyntaxFault.j2, ck_eq (by omega) (by omega), Option.bind_some] at e3
          rw [if_neg c, iter_next e3]
          have hg : GoodF (app G1 (Fo.tr n.Label G2)) := by
            have h3 := hF.1
            rw [e4, lab_app] at h3
            simp only [Bool.and_eq_true] at h3
            refine ⟨by rw [lab_app]; simp only [lab, Bool.and_true]; rw [h3.1, h3.2, hl]; rfl, ?_⟩
            rw [dp_app]; simp only [Fo.dp]; have := dp_nn G2; omega
          have := sf_l1 hb hN r _ hns hg
          rw [push_stl, push_dpl, ← e4] at this
          have e6 : (sz (app G1 (Fo.tr n.Label G2)) : Int) = (sz F : Int) + 1 := by rw [sz_app]; simp [sz]; omega
          rw [e6] at this
          exact this

theorem SyntaxFault_f (t : SyntaxTree) (hb : OkN t.Nodes) : changeforgeref2_SyntaxFault t = some (synF t) := by
  unfold changeforgeref2_SyntaxFault synF changeforgeref1_At
  by_cases h0 : t.Nodes.length = 0 ∨ t.Nodes.length > 80
  · rw [if_pos h0]
    rcases h0 with h | h
    · rw [ite_dec, if_pos (by omega)]; rfl
    · rw [ite_dec, if_neg (by omega), show decide ((t.Nodes.length : Int) > 80) = true from decide_eq_true (by omega)]; rfl
  · rw [if_neg h0, ite_dec, if_neg (by omega), show decide ((t.Nodes.length : Int) > 80) = false from decide_eq_false (by omega), Option.bind_some, if_neg (by decide)]
    have key := sf_l1 hb (by omega) t.Nodes .nil (by simp [fo]) ⟨rfl, by simp [Fo.dp]⟩
    simp only [sz, stl, dpl] at key
    rw [show (((0 : Nat)) : Int) = (0 : Int) from rfl] at key
    rw [key, Option.bind_some]
    cases hv : vscan t.Nodes 0 [] [] with
    | inl f => rfl
    | inr p =>
      obtain ⟨st, dp⟩ := p
      obtain ⟨G, h1, h2, h3⟩ := vscan_only t.Nodes 0 .nil st dp ⟨rfl, by simp [Fo.dp]⟩ hv
      simp only [fo, List.nil_append] at h3
      have hlen : t.Nodes.length = sz G := by rw [h3]; simp
      rcases Fo.snoc G with e | ⟨G', l, cs, e⟩
      · rw [e] at hlen; have : t.Nodes.length = 0 := hlen; exact absurd (.inl this) h0
      · have hA : At t.Nodes (sz G') (Fo.tr l cs) := by
          have h := (At.self (app G' (Fo.tr l cs))).app.2
          rwa [← e, ← h3, Nat.zero_add] at h
        have hS := Size_f (by omega) hA
        have hl2 : t.Nodes.length = sz G' + (sz cs + 1) := by rw [hlen, e, sz_app]; rfl
        simp only [changeforgeref2_SyntaxFault.j1]
        rw [ck_eq (by omega) (by omega), Option.bind_some, show (t.Nodes.length : Int) - 1 = ((sz G' + sz cs : Nat) : Int) by omega, hS, Option.bind_some, ite_ndec]
        have hs : st.getD (t.Nodes.length - 1) 0 = (sz G' : Int) := by rw [hlen, h2, e]; exact stl_last G' l cs
        by_cases c : sz G' = 0
        · rw [if_pos (by omega), if_pos (by rw [hs]; omega)]
        · rw [if_neg (by omega), if_neg (by rw [hs]; omega)]; rfl
end Go.Dc
