/- Forests without nesting, their nodes in a row, and which rows the check passes. -/
import Derived.Test.YtigjmijbekhdgaaDcSA
set_option linter.unusedSimpArgs false
namespace Go.Dc
open Go

inductive Fo where
  | nil
  | node (l : ByteArray) (cs r : Fo)

namespace Fo
def sz : Fo → Nat | nil => 0 | node _ cs r => sz cs + 1 + sz r
def dp : Fo → Int | nil => 0 | node _ cs r => max (dp cs + 1) (dp r)
def roots (b : Nat) : Fo → List Int | nil => [] | node _ cs r => ((b + sz cs : Nat) : Int) :: roots (b + sz cs + 1) r
/-- the nodes behind b others -/
def fo (b : Nat) : Fo → List Node | nil => [] | node l cs r => fo b cs ++ ⟨l, roots b cs⟩ :: fo (b + sz cs + 1) r
def stl (b : Nat) : Fo → List Int | nil => [] | node _ cs r => stl b cs ++ (b : Int) :: stl (b + sz cs + 1) r
def dpl : Fo → List Int | nil => [] | node _ cs r => dpl cs ++ (dp cs + 1) :: dpl r
def app : Fo → Fo → Fo | nil, g => g | node l cs r, g => node l cs (app r g)
def lab : Fo → Bool | nil => true | node l cs r => labB l && lab cs && lab r
abbrev tr (l : ByteArray) (cs : Fo) : Fo := node l cs nil

@[simp] theorem sz_app : ∀ F G : Fo, sz (app F G) = sz F + sz G
  | nil, G => by simp [app, sz]
  | node l cs r, G => by simp [app, sz, sz_app r G]; omega
@[simp] theorem app_nil : ∀ F : Fo, app F nil = F
  | nil => rfl
  | node l cs r => by simp [app, app_nil r]
theorem app_assoc : ∀ F G H : Fo, app (app F G) H = app F (app G H)
  | nil, G, H => rfl
  | node l cs r, G, H => by simp [app, app_assoc r G H]
theorem dp_app : ∀ F G : Fo, dp (app F G) = max (dp F) (dp G)
  | nil, G => by
    have : ∀ F : Fo, 0 ≤ dp F := fun F => by induction F with | nil => exact Int.le_refl _ | node l cs r h1 h2 => simp only [dp]; omega
    have := this G
    simp only [app, dp]; omega
  | node l cs r, G => by simp only [app, dp, dp_app r G]; omega
theorem dp_nn : ∀ F : Fo, 0 ≤ dp F
  | nil => Int.le_refl _
  | node l cs r => by simp only [dp]; have := dp_nn cs; have := dp_nn r; omega
theorem roots_app : ∀ (b : Nat) (F G : Fo), roots b (app F G) = roots b F ++ roots (b + sz F) G
  | b, nil, G => by simp [app, roots, sz]
  | b, node l cs r, G => by simp only [app, roots, roots_app _ r G, sz, List.cons_append]; rw [show b + sz cs + 1 + sz r = b + (sz cs + 1 + sz r) by omega]
theorem fo_app : ∀ (b : Nat) (F G : Fo), fo b (app F G) = fo b F ++ fo (b + sz F) G
  | b, nil, G => by simp [app, fo, sz]
  | b, node l cs r, G => by simp only [app, fo, fo_app _ r G, sz, List.append_assoc, List.cons_append]; rw [show b + sz cs + 1 + sz r = b + (sz cs + 1 + sz r) by omega]
theorem stl_app : ∀ (b : Nat) (F G : Fo), stl b (app F G) = stl b F ++ stl (b + sz F) G
  | b, nil, G => by simp [app, stl, sz]
  | b, node l cs r, G => by simp only [app, stl, stl_app _ r G, sz, List.append_assoc, List.cons_append]; rw [show b + sz cs + 1 + sz r = b + (sz cs + 1 + sz r) by omega]
theorem dpl_app : ∀ (F G : Fo), dpl (app F G) = dpl F ++ dpl G
  | nil, G => by simp [app, dpl]
  | node l cs r, G => by simp only [app, dpl, dpl_app r G, List.append_assoc, List.cons_append]
theorem lab_app : ∀ (F G : Fo), lab (app F G) = (lab F && lab G)
  | nil, G => by simp [app, lab]
  | node l cs r, G => by simp only [app, lab, lab_app r G, Bool.and_assoc]
@[simp] theorem fo_len : ∀ (b : Nat) (F : Fo), (fo b F).length = sz F
  | b, nil => rfl
  | b, node l cs r => by simp [fo, sz, fo_len b cs, fo_len _ r]; omega
@[simp] theorem stl_len : ∀ (b : Nat) (F : Fo), (stl b F).length = sz F
  | b, nil => rfl
  | b, node l cs r => by simp [stl, sz, stl_len b cs, stl_len _ r]; omega
@[simp] theorem dpl_len : ∀ (F : Fo), (dpl F).length = sz F
  | nil => rfl
  | node l cs r => by simp [dpl, sz, dpl_len cs, dpl_len r]; omega
theorem roots_len_le : ∀ (b : Nat) (F : Fo), (roots b F).length ≤ sz F
  | b, nil => by simp [roots, sz]
  | b, node l cs r => by have := roots_len_le (b + sz cs + 1) r; simp [roots, sz]; omega
theorem roots_eq_nil {b : Nat} {F : Fo} : roots b F = [] ↔ F = nil := by cases F <;> simp [roots]

/-- the last tree -/
theorem snoc : ∀ F : Fo, F = nil ∨ ∃ G l cs, F = app G (tr l cs)
  | nil => .inl rfl
  | node l cs r => by
    rcases snoc r with h | ⟨G, l', cs', h⟩
    · exact .inr ⟨nil, l, cs, by rw [h]; rfl⟩
    · exact .inr ⟨node l cs G, l', cs', by rw [h]; rfl⟩

theorem getD_mid {l r : List Int} {x : Int} {k : Nat} (h : k = l.length) : (l ++ x :: r).getD k 0 = x := by subst h; simp [List.getD_eq_getElem?_getD]

/-- at the last root of the first part -/
theorem stl_root (G : Fo) (l : ByteArray) (cs H : Fo) : (stl 0 (app (app G (tr l cs)) H)).getD (sz G + sz cs) 0 = (sz G : Int) := by
  rw [app_assoc, stl_app]
  simp only [app, stl, Nat.zero_add]
  rw [← List.append_assoc]
  exact getD_mid (by simp)
theorem dpl_root (G : Fo) (l : ByteArray) (cs H : Fo) : (dpl (app (app G (tr l cs)) H)).getD (sz G + sz cs) 0 = dp cs + 1 := by
  rw [app_assoc, dpl_app]
  simp only [app, dpl]
  rw [← List.append_assoc]
  exact getD_mid (by simp)
end Fo
open Fo

theorem wc_append {st dp : List Int} : ∀ (a b : List Int) (s d : Int), wc st dp (a ++ b) s d = (wc st dp a s d).bind fun p => wc st dp b p.1 p.2
  | [], b, s, d => rfl
  | c :: a, b, s, d => by
    simp only [List.cons_append, wc]
    split
    · exact wc_append a b _ _
    · rfl

theorem wc_roots : ∀ (G2 G1 H : Fo) (d : Int), 1 ≤ d → wc (stl 0 (app (app G1 G2) H)) (dpl (app (app G1 G2) H)) (roots (sz G1) G2).reverse (sz G1 + sz G2 : Nat) d = some (((sz G1 : Nat) : Int), max d (Fo.dp G2 + 1))
  | .nil, G1, H, d, hd => by simp [roots, wc, sz, Fo.dp]; omega
  | .node l cs r, G1, H, d, hd => by
    have ih := wc_roots r (app G1 (tr l cs)) H d hd
    have e : app (app G1 (tr l cs)) r = app G1 (.node l cs r) := by rw [app_assoc]; rfl
    rw [e, sz_app] at ih
    simp only [sz, Nat.add_zero] at ih
    rw [show sz G1 + (sz cs + 1) = sz G1 + sz cs + 1 by omega] at ih
    simp only [roots, sz, List.reverse_cons]
    rw [wc_append, show sz G1 + (sz cs + 1 + sz r) = sz G1 + sz cs + 1 + sz r by omega, ih, Option.bind_some]
    simp only [wc]
    rw [if_pos ⟨by omega, by omega⟩, show (((sz G1 + sz cs : Nat) : Int)).toNat = sz G1 + sz cs by omega]
    have e2 : app (app G1 (.node l cs r)) H = app (app G1 (tr l cs)) (app r H) := by rw [← e, app_assoc (app G1 (tr l cs))]
    rw [e2, stl_root, dpl_root]
    simp only [Fo.dp]
    congr 2; omega

theorem wc_only : ∀ (cs : List Int) (F1 H : Fo) (d s' d' : Int), 1 ≤ d → wc (stl 0 (app F1 H)) (dpl (app F1 H)) cs (sz F1 : Nat) d = some (s', d') →
    ∃ G1 G2, F1 = app G1 G2 ∧ cs = (roots (sz G1) G2).reverse
  | [], F1, H, d, s', d', hd, h => ⟨F1, .nil, by simp, rfl⟩
  | c :: cs, F1, H, d, s', d', hd, h => by
    simp only [wc] at h
    split at h
    · rename_i hc
      rcases Fo.snoc F1 with e | ⟨G, l, k, e⟩
      · subst e; simp [sz] at hc; omega
      · subst e
        have hcz : c = ((sz G + sz k : Nat) : Int) := by have := hc.1; simp [sz] at this; omega
        rw [hcz, show (((sz G + sz k : Nat) : Int)).toNat = sz G + sz k by omega, stl_root, dpl_root] at h
        rw [app_assoc] at h
        have hn := dp_nn k
        obtain ⟨G1, G2, e1, e2⟩ := wc_only cs G (app (tr l k) H) _ s' d' (by omega) h
        refine ⟨G1, app G2 (tr l k), by rw [e1, app_assoc], ?_⟩
        rw [roots_app, List.reverse_append, ← e2, hcz, e1]
        simp [roots, Nat.add_assoc]
    · cases h

/-- a node behind a forest -/
theorem wc_none_or (F : Fo) (cs : List Int) : (wc (stl 0 F) (dpl F) cs.reverse (sz F : Nat) 1 = Option.none ∧ ∀ G1 G2, F = app G1 G2 → cs ≠ roots (sz G1) G2) ∨
    ∃ G1 G2, F = app G1 G2 ∧ cs = roots (sz G1) G2 ∧ wc (stl 0 F) (dpl F) cs.reverse (sz F : Nat) 1 = some (((sz G1 : Nat) : Int), Fo.dp G2 + 1) := by
  have pos : ∀ G1 G2, F = app G1 G2 → cs = roots (sz G1) G2 → wc (stl 0 F) (dpl F) cs.reverse (sz F : Nat) 1 = some (((sz G1 : Nat) : Int), Fo.dp G2 + 1) := by
    intro G1 G2 e1 e2
    have := wc_roots G2 G1 .nil 1 (by omega)
    rw [app_nil, ← e1] at this
    rw [e2, show sz F = sz G1 + sz G2 by rw [e1, sz_app], this]
    have := dp_nn G2
    congr 2; omega
  cases h : wc (stl 0 F) (dpl F) cs.reverse (sz F : Nat) 1 with
  | none => exact .inl ⟨rfl, fun G1 G2 e1 e2 => by rw [pos G1 G2 e1 e2] at h; cases h⟩
  | some p =>
    obtain ⟨G1, G2, e1, e2⟩ := wc_only cs.reverse F .nil 1 p.1 p.2 (by omega) (by rw [app_nil]; exact h)
    have e3 : cs = roots (sz G1) G2 := by rw [← List.reverse_reverse cs, e2, List.reverse_reverse]
    exact .inr ⟨G1, G2, e1, e3, by rw [← h]; exact pos G1 G2 e1 e3⟩

/-- the forest with a node behind it -/
theorem push_fo (G1 G2 : Fo) (l : ByteArray) : fo 0 (app G1 (tr l G2)) = fo 0 (app G1 G2) ++ [⟨l, roots (sz G1) G2⟩] := by rw [fo_app, fo_app]; simp [fo]
theorem push_stl (G1 G2 : Fo) (l : ByteArray) : stl 0 (app G1 (tr l G2)) = stl 0 (app G1 G2) ++ [(sz G1 : Int)] := by rw [stl_app, stl_app]; simp [stl]
theorem push_dpl (G1 G2 : Fo) (l : ByteArray) : dpl (app G1 (tr l G2)) = dpl (app G1 G2) ++ [Fo.dp G2 + 1] := by rw [dpl_app, dpl_app]; simp [dpl]

/-- good forests: labels, depth -/
def GoodF (F : Fo) : Prop := lab F = true ∧ Fo.dp F ≤ 12

theorem vscan_only : ∀ (ns : List Node) (i : Int) (F : Fo) (st' dp' : List Int), GoodF F → vscan ns i (stl 0 F) (dpl F) = .inr (st', dp') →
    ∃ G, GoodF G ∧ st' = stl 0 G ∧ fo 0 F ++ ns = fo 0 G
  | [], i, F, st', dp', hF, h => by
    simp only [vscan, Sum.inr.injEq, Prod.mk.injEq] at h
    exact ⟨F, hF, h.1.symm, by simp⟩
  | n :: r, i, F, st', dp', hF, h => by
    simp only [vscan, stl_len] at h
    split at h
    · cases h
    · rename_i hl
      rcases wc_none_or F n.Children with ⟨h1, _⟩ | ⟨G1, G2, e1, e2, h1⟩
      · rw [h1] at h; cases h
      · rw [h1] at h
        simp only at h
        split at h
        · cases h
        · rename_i hd
          have eF := e1
          subst eF
          rw [← push_stl G1 G2 n.Label, ← push_dpl G1 G2 n.Label] at h
          have hg : GoodF (app G1 (tr n.Label G2)) := by
            have h3 := hF.1
            have h4 := hF.2
            rw [lab_app] at h3
            rw [dp_app] at h4
            refine ⟨?_, ?_⟩
            · rw [lab_app]; simp only [lab, Bool.and_true]
              simp only [Bool.and_eq_true] at h3
              rw [h3.1, h3.2]; simpa using hl
            · rw [dp_app]; simp only [Fo.dp]; have := dp_nn G2; omega
          obtain ⟨G, h5, h6, h7⟩ := vscan_only r (i + 1) _ st' dp' hg h
          refine ⟨G, h5, h6, ?_⟩
          rw [← h7, push_fo, ← e2]; simp

theorem vscan_fo : ∀ (G : Fo) (F : Fo) (i : Int) (rest : List Node), GoodF G → vscan (fo (sz F) G ++ rest) i (stl 0 F) (dpl F) = vscan rest (i + sz G) (stl 0 (app F G)) (dpl (app F G))
  | .nil, F, i, rest, hG => by simp [fo, sz]
  | .node l cs r, F, i, rest, hG => by
    have h1 := hG.1
    have h2 := hG.2
    simp only [lab, Bool.and_eq_true] at h1
    simp only [Fo.dp] at h2
    simp only [fo, List.append_assoc, List.cons_append]
    rw [vscan_fo cs F i _ ⟨h1.1.2, by omega⟩, vscan]
    simp only [stl_len]
    rw [if_neg (by rw [h1.1.1]; decide)]
    have hw := wc_roots cs F .nil 1 (by omega)
    rw [app_nil] at hw
    rw [sz_app, hw]
    simp only
    have hn := dp_nn cs
    rw [if_neg (by omega), show max 1 (Fo.dp cs + 1) = Fo.dp cs + 1 by omega, ← push_stl F cs l, ← push_dpl F cs l]
    have := vscan_fo r (app F (tr l cs)) (i + sz cs + 1) rest ⟨h1.2, by omega⟩
    rw [sz_app] at this
    simp only [sz, Nat.add_zero] at this
    rw [show sz F + sz cs + 1 = sz F + (sz cs + 1) by omega, this, app_assoc]
    simp only [app, sz]
    congr 1; omega

theorem stl_last (G : Fo) (l : ByteArray) (cs : Fo) : (stl 0 (app G (tr l cs))).getD (sz (app G (tr l cs)) - 1) 0 = (sz G : Int) := by
  have := stl_root G l cs .nil
  rw [app_nil] at this
  rw [sz_app]
  simp only [sz]
  exact this

/-- which trees pass the check -/
def IsT (ns : List Node) (l : ByteArray) (cs : Fo) : Prop := ns = fo 0 (tr l cs) ∧ GoodF (tr l cs) ∧ sz cs + 1 ≤ 80

theorem vscan_code : ∀ (ns : List Node) (i : Int) (st dp : List Int) (f : Fault), vscan ns i st dp = .inl f → f.Code ≠ 0
  | [], i, st, dp, f, h => by simp [vscan] at h
  | n :: r, i, st, dp, f, h => by
    simp only [vscan] at h
    split at h
    · cases h; exact fun h => by cases h
    · split at h
      · cases h; exact fun h => by cases h
      · split at h
        · cases h; exact fun h => by cases h
        · exact vscan_code r _ _ _ f h

theorem synF_ok (t : SyntaxTree) : ((synF t).Code ≠ 0 ∧ ∀ l cs, ¬ IsT t.Nodes l cs) ∨ (synF t = ⟨0, 0⟩ ∧ ∃ l cs, IsT t.Nodes l cs) := by
  have pos : ∀ l cs, IsT t.Nodes l cs → synF t = ⟨0, 0⟩ := by
    intro l cs ⟨h1, h2, h3⟩
    have hlen : t.Nodes.length = sz cs + 1 := by rw [h1]; simp [sz]
    unfold synF
    rw [if_neg (by omega)]
    have := vscan_fo (tr l cs) .nil 0 [] h2
    simp only [sz, List.append_nil, vscan, stl, dpl] at this
    rw [← h1] at this
    rw [this]
    simp only
    have e := stl_last .nil l cs
    rw [hlen, show sz cs + 1 - 1 = sz (tr l cs) - 1 by simp [sz]]
    exact if_pos e
  by_cases hc : (synF t).Code = 0
  · refine .inr ?_
    unfold synF at hc
    by_cases h0 : t.Nodes.length = 0 ∨ t.Nodes.length > 80
    · rw [if_pos h0] at hc; cases hc
    · rw [if_neg h0] at hc
      cases hv : vscan t.Nodes 0 [] [] with
      | inl f => rw [hv] at hc; exact absurd hc (vscan_code _ _ _ _ _ hv)
      | inr p =>
        obtain ⟨st, dp⟩ := p
        rw [hv] at hc
        simp only at hc
        obtain ⟨G, h1, h2, h3⟩ := vscan_only t.Nodes 0 .nil st dp ⟨rfl, by simp [Fo.dp]⟩ hv
        simp only [fo, List.nil_append] at h3
        have hlen : t.Nodes.length = sz G := by rw [h3]; simp
        split at hc
        · rename_i hs
          rcases Fo.snoc G with e | ⟨G', l, cs, e⟩
          · rw [e] at hlen; have : t.Nodes.length = 0 := hlen; exact absurd (.inl this) h0
          · rw [hlen, h2, e, stl_last] at hs
            have : G' = .nil := by cases G' with | nil => rfl | node a b c => simp [sz] at hs; omega
            subst this
            have hi : IsT t.Nodes l cs := ⟨by rw [h3, e]; rfl, by rw [e] at h1; exact h1, by rw [e] at hlen; simp [app, sz] at hlen; omega⟩
            exact ⟨pos l cs hi, l, cs, hi⟩
        · cases hc
  · exact .inl ⟨hc, fun l cs h => hc (by rw [pos l cs h])⟩
end Go.Dc
