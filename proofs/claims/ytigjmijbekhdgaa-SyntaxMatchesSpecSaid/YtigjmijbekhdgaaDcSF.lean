/- The text of a tree. -/
import Derived.Test.YtigjmijbekhdgaaDcSC
import Derived.Test.YtigjmijbekhdgaaDcSE
set_option linter.unusedSimpArgs false
namespace Go.Dc
open Go Fo

theorem bts_lbl (a : List UInt8) : bts (lbl a) = a := by simp [bts, lbl]
theorem lbl_bts (s : ByteArray) : lbl (bts s) = s := by cases s; simp [bts, lbl]
theorem lbl_size (a : List UInt8) : (lbl a).size = a.length := by rw [← bts_len, bts_lbl]
theorem lbl_app (a b : List UInt8) : lbl a ++ lbl b = lbl (a ++ b) := by
  refine ByteArray.ext ?_
  simp [lbl, ByteArray.data_append]
theorem lbl_inj {a b : List UInt8} (h : lbl a = lbl b) : a = b := by rw [← bts_lbl a, h, bts_lbl]
theorem cat_lbl {a b : List UInt8} (h : a.length + b.length ≤ 9223372036854775807) : cat? (lbl a) (lbl b) = some (lbl (a ++ b)) := by
  unfold cat?
  rw [lbl_size, lbl_size, if_pos h, lbl_app]

def wrp (l : ByteArray) (cs : Fo) (bd : List UInt8) : List UInt8 := match cs with | .nil => bts l | _ => 40 :: (bts l ++ bd ++ [41])
def body : Fo → List UInt8 | .nil => [] | .node l cs r => 32 :: (wrp l cs (body cs) ++ body r)
def txt (l : ByteArray) (cs : Fo) : List UInt8 := wrp l cs (body cs)
def txl : Fo → List (List UInt8) | .nil => [] | .node l cs r => txl cs ++ txt l cs :: txl r

theorem txl_app : ∀ F G : Fo, txl (app F G) = txl F ++ txl G
  | .nil, G => rfl
  | .node l cs r, G => by simp [app, txl, txl_app r G]
@[simp] theorem txl_len : ∀ F : Fo, (txl F).length = sz F
  | .nil => rfl
  | .node l cs r => by simp [txl, sz, txl_len cs, txl_len r]; omega
theorem lab_len {s : ByteArray} (h : labB s = true) : 1 ≤ (bts s).length ∧ (bts s).length ≤ 20 := by
  unfold labB at h
  simp only [Bool.and_eq_true, decide_eq_true_eq] at h
  exact ⟨h.1.2, h.2⟩
theorem wrp_le (l : ByteArray) (cs : Fo) (bd : List UInt8) : (wrp l cs bd).length ≤ (bts l).length + bd.length + 2 := by
  unfold wrp; split
  · omega
  · simp only [List.length_cons, List.length_append, List.length_nil]; omega
theorem body_len : ∀ F : Fo, lab F = true → (body F).length ≤ 23 * sz F
  | .nil, _ => by simp [body]
  | .node l cs r, h => by
    simp only [lab, Bool.and_eq_true] at h
    have h1 := body_len cs h.1.2
    have h2 := body_len r h.2
    have h3 := lab_len h.1.1
    have h4 := wrp_le l cs (body cs)
    simp [body, sz]; omega
theorem txt_len {l : ByteArray} {cs : Fo} (h : lab (Fo.tr l cs) = true) : (txt l cs).length ≤ 23 * (sz cs + 1) := by
  simp only [lab, Bool.and_eq_true] at h
  have h1 := body_len cs h.1.2
  have h3 := lab_len h.1.1
  have h4 := wrp_le l cs (body cs)
  unfold txt; omega

/-- the texts of a forest lie at b -/
def AtX (tx : List ByteArray) (b : Nat) (F : Fo) : Prop := ∃ p q, tx = p ++ ((txl F).map lbl ++ q) ∧ p.length = b
theorem AtX.cs {tx : List ByteArray} {b : Nat} {l : ByteArray} {cs r : Fo} (h : AtX tx b (.node l cs r)) : AtX tx b cs := by
  obtain ⟨p, q, h1, h2⟩ := h
  exact ⟨p, lbl (txt l cs) :: (txl r).map lbl ++ q, by rw [h1]; simp [txl], h2⟩
theorem AtX.r {tx : List ByteArray} {b : Nat} {l : ByteArray} {cs r : Fo} (h : AtX tx b (.node l cs r)) : AtX tx (b + sz cs + 1) r := by
  obtain ⟨p, q, h1, h2⟩ := h
  exact ⟨p ++ ((txl cs).map lbl ++ [lbl (txt l cs)]), q, by rw [h1]; simp [txl], by simp; omega⟩
theorem AtX.get {tx : List ByteArray} {b : Nat} {l : ByteArray} {cs r : Fo} (h : AtX tx b (.node l cs r)) : at? tx ((b + sz cs : Nat) : Int) = some (lbl (txt l cs)) := by
  obtain ⟨p, q, h1, h2⟩ := h
  have e : tx = (p ++ (txl cs).map lbl) ++ lbl (txt l cs) :: ((txl r).map lbl ++ q) := by rw [h1]; simp [txl]
  have hb : b + sz cs < tx.length := by rw [e]; simp; omega
  rw [at_nat hb]
  have : tx[b + sz cs]? = some (lbl (txt l cs)) := by
    rw [e, List.getElem?_append_right (by simp; omega)]
    simp [h2]
  rw [List.getElem?_eq_getElem hb] at this
  rw [this]

theorem at_mid {α : Type} {p q : List α} {x : α} {k : Nat} (h : k = p.length) : at? (p ++ x :: q) (k : Int) = some x := by
  subst h
  rw [at_nat (by simp)]
  simp
theorem set_mid {α : Type} {p q : List α} {x y : α} {k : Nat} (h : k = p.length) : (p ++ x :: q).set ((k : Int)).toNat y = p ++ y :: q := by
  subst h
  simp

/-! ## printing -/
theorem pr_l2 {t : SyntaxTree} (hN : t.Nodes.length ≤ 80) (n : Node) (i : Nat) (pre post : List ByteArray) (hi : i = pre.length) : ∀ (G : Fo) (b j : Nat) (cur : List UInt8), n.Children.drop j = roots b G → AtX pre b G → lab G = true → cur.length + (body G).length ≤ 5000 → sz G ≤ 80 → n.Children.length ≤ 80 →
    iter (fun s => syntax_Print.l2 (i : Int) n s.1 s.2) ((j : Int), pre ++ lbl cur :: post) = some (pre ++ lbl (cur ++ body G) :: post)
  | .nil, b, j, cur, hd, _, _, _, _, _ => by
    have := s_drop_end hd
    refine iter_done ?_
    simp only [syntax_Print.l2]
    rw [ite_dec, if_neg (by omega)]; simp [body]
  | .node l cs r, b, j, cur, hd, hA, hl, hc, hz, hn => by
    obtain ⟨h1, h2, h3⟩ := kid hd
    have hl' := hl
    simp only [lab, Bool.and_eq_true] at hl'
    simp only [sz] at hz
    have ht := txt_len (l := l) (cs := cs) (by simp only [lab, Bool.and_true, Bool.and_eq_true]; exact hl'.1)
    have hbd : (body (.node l cs r)).length = (txt l cs).length + (body r).length + 1 := by simp [body, txt]
    have hg := hA.get
    have hlt : b + sz cs < pre.length := by
      obtain ⟨p, q, e1, e2⟩ := hA
      rw [e1]; simp [sz]; omega
    have hg2 : at? (pre ++ lbl cur :: post) ((b + sz cs : Nat) : Int) = some (lbl (txt l cs)) := by
      rw [at_nat hlt] at hg
      rw [at_nat (by simp; omega), ← hg, List.getElem_append_left hlt]
    have e1 : syntax_Print.l2 (i : Int) n (j : Int) (pre ++ lbl cur :: post) = some (Step.next (((j + 1 : Nat) : Int), pre ++ lbl (cur ++ 32 :: txt l cs) :: post)) := by
      simp only [syntax_Print.l2]
      rw [ite_dec, if_pos (by omega), h2, Option.bind_some, at_mid hi, Option.bind_some, hg2, Option.bind_some, show (⟨#[32]⟩ : ByteArray) = lbl [32] from rfl, cat_lbl (by simp; omega), Option.bind_some, cat_lbl (by simp; omega), Option.bind_some, Option.bind_some, set_mid hi, Option.bind_some, ck_eq (by omega) (by omega)]
      rfl
    rw [iter_next e1, pr_l2 hN n i pre post hi r _ (j + 1) _ h3 hA.r hl'.2 (by simp; omega) (by omega) hn]
    simp [body, txt]

theorem pr_node {t : SyntaxTree} (hN : t.Nodes.length ≤ 80) (F cs : Fo) (l : ByteArray) (post : List ByteArray) (hl : lab (Fo.tr l cs) = true) (hA : At t.Nodes (sz F) (Fo.tr l cs)) (y : ByteArray) :
    syntax_Print.l1 t ((sz F + sz cs : Nat) : Int) ((txl (app F cs)).map lbl ++ y :: post) = some (Step.next (((sz F + sz cs + 1 : Nat) : Int), (txl (app F (Fo.tr l cs))).map lbl ++ post)) := by
  have hg := hA.get
  have hle := hA.le
  simp only [sz] at hle
  have hi : sz F + sz cs = ((txl (app F cs)).map lbl).length := by simp
  have hl' := hl
  simp only [lab, Bool.and_eq_true, Bool.and_true] at hl'
  have h3 := lab_len hl'.1
  have hrl := roots_len_le (sz F) cs
  have hb := body_len cs hl'.2
  have e0 : (txl (app F (Fo.tr l cs))).map lbl ++ post = (txl (app F cs)).map lbl ++ lbl (txt l cs) :: post := by simp [txl_app, txl]
  rw [e0]
  simp only [syntax_Print.l1]
  rw [ite_dec, if_pos (by omega), hg, Option.bind_some, at_mid hi, Option.bind_some, set_mid hi, Option.bind_some, ite_dec]
  cases cs with
  | nil =>
    rw [if_pos (by simp [roots]), syntax_Print.j2, ck_eq (by omega) (by omega), Option.bind_some]
    simp only [txt, wrp]
    rw [lbl_bts]
    rfl
  | node l2 cs2 r2 =>
    rw [if_neg (by simp [roots]; omega)]
    have hX : AtX ((txl (app F (.node l2 cs2 r2))).map lbl) (sz F) (.node l2 cs2 r2) := ⟨(txl F).map lbl, [], by simp [txl_app], by simp⟩
    have e2 := pr_l2 hN (⟨l, roots (sz F) (.node l2 cs2 r2)⟩ : Node) (sz F + sz (.node l2 cs2 r2)) ((txl (app F (.node l2 cs2 r2))).map lbl) post hi (.node l2 cs2 r2) (sz F) 0 (bts l) rfl hX hl'.2 (by omega) (by omega) (by simp only []; omega)
    rw [lbl_bts] at e2
    rw [show ((0 : Int), (txl (app F (.node l2 cs2 r2))).map lbl ++ l :: post) = (((0 : Nat) : Int), (txl (app F (.node l2 cs2 r2))).map lbl ++ l :: post) from rfl, e2, Option.bind_some, syntax_Print.j3, at_mid hi, Option.bind_some, show (⟨#[40]⟩ : ByteArray) = lbl [40] from rfl, show (⟨#[41]⟩ : ByteArray) = lbl [41] from rfl,
      cat_lbl (by simp; omega), Option.bind_some, cat_lbl (by simp; omega), Option.bind_some, Option.bind_some, set_mid hi, Option.bind_some, syntax_Print.j2, ck_eq (by omega) (by omega), Option.bind_some]
    simp only [txt, wrp]
    simp

theorem pr_l1 {t : SyntaxTree} (hN : t.Nodes.length ≤ 80) : ∀ (G F : Fo) (post : List ByteArray), lab G = true → At t.Nodes (sz F) G → sz G ≤ post.length →
    iter (fun s => syntax_Print.l1 t s.1 s.2) ((sz F : Int), (txl F).map lbl ++ post) = iter (fun s => syntax_Print.l1 t s.1 s.2) (((sz F + sz G : Nat) : Int), (txl (app F G)).map lbl ++ post.drop (sz G))
  | .nil, F, post, _, _, _ => by simp [sz]
  | .node l cs r, F, post, hl, hA, hp => by
    have hl' := hl
    simp only [lab, Bool.and_eq_true] at hl'
    simp only [sz] at hp
    rw [pr_l1 hN cs F post hl'.1.2 hA.cs (by omega)]
    have hlt : sz cs < post.length := by omega
    rw [List.drop_eq_getElem_cons hlt]
    have e1 := pr_node hN F cs l (post.drop (sz cs + 1)) (by simp only [lab, Bool.and_eq_true, Bool.and_true]; exact hl'.1) hA.tr post[sz cs]
    rw [iter_next e1]
    have hsz : sz (app F (Fo.tr l cs)) = sz F + sz cs + 1 := by simp [sz]; omega
    have := pr_l1 hN r (app F (Fo.tr l cs)) (post.drop (sz cs + 1)) hl'.2 (by rw [hsz]; exact hA.r) (by simp; omega)
    rw [hsz] at this
    rw [this, app_assoc]
    simp only [app, sz, List.drop_drop]
    rw [show sz F + sz cs + 1 + sz r = sz F + (sz cs + 1 + sz r) by omega]

theorem Print_ok {t : SyntaxTree} {l : ByteArray} {cs : Fo} (hb : OkN t.Nodes) (h : IsT t.Nodes l cs) : syntax_Print t = some (lbl (txt l cs), ⟨0, 0⟩) := by
  have hS := synF_ok t
  have hok : synF t = ⟨0, 0⟩ := by
    rcases hS with ⟨_, h2⟩ | ⟨h1, _⟩
    · exact absurd h (h2 l cs)
    · exact h1
  obtain ⟨h1, h2, h3⟩ := h
  have hlen : t.Nodes.length = sz cs + 1 := by rw [h1]; simp [sz]
  unfold syntax_Print
  rw [Validate_f t hb, Option.bind_some, hok, if_neg (by decide), mk_eq (by omega) (by omega), Option.bind_some]
  have hA : At t.Nodes (sz .nil) (Fo.tr l cs) := by rw [h1]; exact At.self _
  have key := pr_l1 (by omega) (Fo.tr l cs) .nil (List.replicate ((t.Nodes.length : Int)).toNat ByteArray.empty) h2.1 hA (by simp [sz]; omega)
  simp only [txl, List.map_nil, List.nil_append, sz, Nat.zero_add, Nat.add_zero, app] at key
  rw [show (((0 : Nat)) : Int) = (0 : Int) from rfl] at key
  rw [key]
  have hd : (List.replicate ((t.Nodes.length : Int)).toNat ByteArray.empty).drop (sz cs + 1) = [] := List.drop_eq_nil_of_le (by simp; omega)
  rw [hd, List.append_nil]
  have e : iter (fun s => syntax_Print.l1 t s.1 s.2) (((sz cs + 1 : Nat) : Int), List.map lbl (txl cs ++ [txt l cs])) = some (List.map lbl (txl cs ++ [txt l cs])) := by
    refine iter_done ?_
    simp only [syntax_Print.l1]
    rw [ite_dec, if_neg (by omega)]
  rw [e, Option.bind_some, syntax_Print.j1, ck_eq (by simp only [List.length_map, List.length_append, txl_len, List.length_singleton]; omega) (by simp only [List.length_map, List.length_append, txl_len, List.length_singleton]; omega), Option.bind_some, List.map_append]
  have hat : at? (List.map lbl (txl cs) ++ List.map lbl [txt l cs]) (((List.map lbl (txl cs) ++ List.map lbl [txt l cs]).length : Int) - 1) = some (lbl (txt l cs)) := by
    rw [show (((List.map lbl (txl cs) ++ List.map lbl [txt l cs]).length : Int) - 1) = ((sz cs : Nat) : Int) by simp]
    exact at_mid (by simp)
  rw [hat, Option.bind_some]

theorem Print_no {t : SyntaxTree} (hb : OkN t.Nodes) (h : (synF t).Code ≠ 0) : syntax_Print t = some (⟨#[]⟩, synF t) := by
  unfold syntax_Print
  rw [Validate_f t hb, Option.bind_some, if_pos (by simp [h])]
end Go.Dc
