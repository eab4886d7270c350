/- The reference's merge is the program's; law MergeMatchesSpec. -/
import Derived.Test.YtigjmijbekhdgaaDcSJ
set_option linter.unusedSimpArgs false
namespace Go.Dc
open Go Fo

/-! ## texts tell trees apart -/
theorem fo_tr_inj {l l' : ByteArray} {cs cs' : Fo} (h : fo 0 (Fo.tr l cs) = fo 0 (Fo.tr l' cs')) (hz : sz cs + 1 ≤ 80) : l = l' ∧ cs = cs' := by
  have hlen : sz cs = sz cs' := by have := congrArg List.length h; simp [sz] at this; exact this
  have A1 : At (⟨fo 0 (Fo.tr l cs)⟩ : SyntaxTree).Nodes 0 (Fo.tr l cs) := At.self _
  have A2 : At (⟨fo 0 (Fo.tr l cs)⟩ : SyntaxTree).Nodes 0 (Fo.tr l' cs') := by show At (fo 0 (Fo.tr l cs)) 0 _; rw [h]; exact At.self _
  have hN : (⟨fo 0 (Fo.tr l cs)⟩ : SyntaxTree).Nodes.length ≤ 80 := by simp [sz]; omega
  have e1 := equal_f hN hN A1 A1
  have e2 := equal_f hN hN A1 A2
  rw [← hlen, e1] at e2
  have := Option.some.inj e2
  exact of_decide_eq_true (this.symm.trans (decide_eq_true ⟨rfl, rfl⟩))

theorem txt_inj {l l' : ByteArray} {cs cs' : Fo} (h1 : lab (Fo.tr l cs) = true) (h2 : lab (Fo.tr l' cs') = true) (d1 : Fo.dp cs ≤ 12) (d2 : Fo.dp cs' ≤ 12) (hz : sz cs + 1 ≤ 80) :
    txt l cs = txt l' cs' ↔ sameT l cs l' cs' := by
  refine ⟨fun h => ?_, fun h => by rw [h.1, h.2]⟩
  have e1 := node_txt 13 l cs [] [] h1 (by omega) (fun c h => by cases h)
  have e2 := node_txt 13 l' cs' [] [] h2 (by omega) (fun c h => by cases h)
  rw [List.append_nil] at e1 e2
  rw [h, e2] at e1
  have := congrArg (fun p : PS => p.2.2) e1
  simp only [List.nil_append, List.length_nil] at this
  exact fo_tr_inj this.symm hz

/-! ## Printed -/
theorem Printed_m (t : SyntaxTree) (hN : t.Nodes.length ≤ 80) : ∀ (k : Nat) (l : ByteArray) (cs : Fo) (b : Nat), At t.Nodes b (Fo.tr l cs) → lab (Fo.tr l cs) = true → sz cs < k → changeforgeref2_Printed.m k t ((b + sz cs : Nat) : Int) = some (lbl (txt l cs))
  | 0, l, cs, b, _, _, h => absurd h (by omega)
  | k + 1, l, cs, b, hA, hl, hk => by
    have ih := Printed_m t hN k
    have hg := hA.get
    have hle := hA.le
    simp only [sz] at hle
    have c1 := cnt_sz cs
    have hl' := hl
    simp only [lab, Bool.and_eq_true, Bool.and_true] at hl'
    have h3 := lab_len hl'.1
    have hbl := body_len cs hl'.2
    have key : ∀ (G : Fo) (c j : Nat) (cur : List UInt8), (roots b cs).drop j = roots c G → At t.Nodes c G → lab G = true → sz G ≤ k → cur.length + (body G).length ≤ 5000 →
        iter (fun s => changeforgeref2_Printed.l1 t (changeforgeref2_Printed.m k) ⟨l, roots b cs⟩ s.1 s.2) ((j : Int), lbl cur) = some (lbl (cur ++ body G)) := by
      intro G
      induction G with
      | nil =>
        intro c j cur hd _ _ _ _
        have := s_drop_end hd
        refine iter_done ?_
        simp only [changeforgeref2_Printed.l1]
        rw [ite_dec, if_neg (by omega)]; simp [body]
      | node la xa ra _ ihr =>
        intro c j cur hd hB hlb hz hc
        obtain ⟨h1, h2, h3⟩ := kid hd
        rw [roots_len] at h1
        simp only [sz] at hz
        have hlb' := hlb
        simp only [lab, Bool.and_eq_true] at hlb'
        have hbd : (body (.node la xa ra)).length = (txt la xa).length + (body ra).length + 1 := by simp [body, txt]
        have hi := ih la xa c hB.tr (by simp only [lab, Bool.and_eq_true, Bool.and_true]; exact hlb'.1) (by omega)
        have e1 : changeforgeref2_Printed.l1 t (changeforgeref2_Printed.m k) ⟨l, roots b cs⟩ (j : Int) (lbl cur) = some (Step.next (((j + 1 : Nat) : Int), lbl (cur ++ 32 :: txt la xa))) := by
          simp only [changeforgeref2_Printed.l1]
          rw [ite_dec, if_pos (by rw [roots_len]; omega), show (⟨#[32]⟩ : ByteArray) = lbl [32] from rfl, cat_lbl (by simp; omega), Option.bind_some, h2, Option.bind_some, hi, Option.bind_some, cat_lbl (by simp; omega), Option.bind_some, ck_eq (by omega) (by omega)]
          simp
        rw [iter_next e1, ihr _ (j + 1) _ h3 hB.r hlb'.2 (by omega) (by simp; omega)]
        simp [body, txt]
    show changeforgeref2_Printed.body (changeforgeref2_Printed.m k) t _ = _
    unfold changeforgeref2_Printed.body changeforgeref2_Printed.j1
    rw [hg, Option.bind_some, ite_dec]
    cases cs with
    | nil => rw [if_pos (by simp [roots]), Option.bind_some]; simp only [txt, wrp]; rw [lbl_bts]
    | node l2 cs2 r2 =>
      have hk2 := key (.node l2 cs2 r2) b 0 (40 :: bts l) rfl hA.cs hl'.2 (by omega) (by simp only [List.length_cons]; omega)
      rw [if_neg (by simp [roots]; omega), Option.bind_some, show (⟨#[40]⟩ : ByteArray) = lbl [40] from rfl, show (⟨#[41]⟩ : ByteArray) = lbl [41] from rfl]
      simp only []
      have e0 : cat? (lbl [40]) l = some (lbl (40 :: bts l)) := by
        have := cat_lbl (a := [40]) (b := bts l) (by simp; omega)
        rwa [lbl_bts] at this
      rw [show (((0 : Nat)) : Int) = (0 : Int) from rfl] at hk2
      rw [e0, Option.bind_some, hk2, Option.bind_some, cat_lbl (by simp; omega), Option.bind_some]
      simp [txt, wrp]

theorem Printed_f {t : SyntaxTree} (hN : t.Nodes.length ≤ 80) {l : ByteArray} {cs : Fo} {b : Nat} (hA : At t.Nodes b (Fo.tr l cs)) (hl : lab (Fo.tr l cs) = true) : changeforgeref2_Printed t ((b + sz cs : Nat) : Int) = some (lbl (txt l cs)) :=
  Printed_m t hN _ l cs b hA hl (by omega)

/-! ## copied -/
def shN (z : Int) (n : Node) : Node := ⟨n.Label, n.Children.map (· + z)⟩
theorem roots_sh : ∀ (F : Fo) (b c : Nat) (z : Int), (c : Int) = b + z → (roots b F).map (· + z) = roots c F
  | .nil, b, c, z, h => rfl
  | .node l cs r, b, c, z, h => by
    simp only [roots, List.map_cons]
    rw [roots_sh r (b + sz cs + 1) (c + sz cs + 1) z (by omega)]
    congr 1; omega
theorem fo_sh : ∀ (F : Fo) (b c : Nat) (z : Int), (c : Int) = b + z → (fo b F).map (shN z) = fo c F
  | .nil, b, c, z, h => rfl
  | .node l cs r, b, c, z, h => by
    simp only [fo, List.map_append, List.map_cons]
    rw [fo_sh cs b c z h, fo_sh r (b + sz cs + 1) (c + sz cs + 1) z (by omega)]
    simp only [shN]
    rw [roots_sh cs b c z h]
theorem roots_bd : ∀ (F : Fo) (b : Nat), ∀ x ∈ roots b F, (b : Int) ≤ x ∧ x ≤ b + sz F
  | .nil, b, x, h => by simp [roots] at h
  | .node l cs r, b, x, h => by
    simp only [roots, List.mem_cons] at h
    simp only [sz]
    rcases h with h | h
    · omega
    · have := roots_bd r _ x h; omega
theorem fo_bd : ∀ (F : Fo) (b : Nat), ∀ n ∈ fo b F, ∀ x ∈ n.Children, (b : Int) ≤ x ∧ x ≤ b + sz F
  | .nil, b, n, h, x, hx => by simp [fo] at h
  | .node l cs r, b, n, h, x, hx => by
    simp only [fo, List.mem_append, List.mem_cons] at h
    simp only [sz]
    rcases h with h | h | h
    · have := fo_bd cs b n h x hx; omega
    · subst h; have := roots_bd cs b x hx; omega
    · have := fo_bd r _ n h x hx; omega

theorem cp_l2 {t : SyntaxTree} {z i : Int} {n : Node} (hat : at? t.Nodes i = some n) (hz : -10000 ≤ z ∧ z ≤ 10000) (hn : n.Children.length ≤ 1000) (hb : ∀ x ∈ n.Children, 0 ≤ x ∧ x ≤ 1000) : ∀ (rest : List Int) (j : Nat) (acc : List Int), n.Children.drop j = rest → acc.length + rest.length ≤ 1000 →
    iter (fun s => changeforgeref2_copied.l2 t z i s.1 s.2) ((j : Int), acc) = some (acc ++ rest.map (· + z))
  | [], j, acc, hd, _ => by
    have := s_drop_end hd
    refine iter_done ?_
    simp only [changeforgeref2_copied.l2]
    rw [hat, Option.bind_some, ite_dec, if_neg (by omega)]; simp
  | x :: r, j, acc, hd, ha => by
    obtain ⟨h1, h2, h3⟩ := s_drop_at hd
    have hx := hb x (by rw [← h2]; exact List.getElem_mem h1)
    simp only [List.length_cons] at ha
    have e1 : changeforgeref2_copied.l2 t z i (j : Int) acc = some (Step.next (((j + 1 : Nat) : Int), acc ++ [x + z])) := by
      simp only [changeforgeref2_copied.l2]
      rw [hat, Option.bind_some, ite_dec, if_pos (by omega), Option.bind_some, at_nat h1, h2, Option.bind_some, ck_eq (by omega) (by omega), Option.bind_some, app_eq (by simp; omega), Option.bind_some, ck_eq (by omega) (by omega)]
      rfl
    rw [iter_next e1, cp_l2 hat hz hn hb r (j + 1) _ h3 (by simp; omega)]
    simp

theorem cp_l1 {t : SyntaxTree} {z i : Int} (hN : t.Nodes.length ≤ 80) (hz : -10000 ≤ z ∧ z ≤ 10000) : ∀ (rest q : List Node) (x : Nat) (out : List Node), t.Nodes.drop x = rest ++ q → i = x + rest.length - 1 → (∀ n ∈ rest, n.Children.length ≤ 80 ∧ ∀ x ∈ n.Children, 0 ≤ x ∧ x ≤ 1000) → out.length + rest.length ≤ 5000 →
    iter (fun s => changeforgeref2_copied.l1 t i z s.1 s.2) ((x : Int), out) = some (out ++ rest.map (shN z))
  | [], q, x, out, hd, hi, _, _ => by
    refine iter_done ?_
    simp only [changeforgeref2_copied.l1]
    simp only [List.length_nil] at hi
    rw [ite_dec, if_neg (by omega)]; simp
  | n :: r, q, x, out, hd, hi, hb, ho => by
    obtain ⟨h1, h2, h3⟩ := s_drop_at hd
    simp only [List.length_cons] at hi ho
    have hat : at? t.Nodes (x : Int) = some n := by rw [at_nat h1, h2]
    have hbn := hb n (by simp)
    have k2 := cp_l2 hat hz (by omega) hbn.2 n.Children 0 [] rfl (by simp; omega)
    rw [show (((0 : Nat)) : Int) = (0 : Int) from rfl, List.nil_append] at k2
    have e1 : changeforgeref2_copied.l1 t i z (x : Int) out = some (Step.next (((x + 1 : Nat) : Int), out ++ [shN z n])) := by
      simp only [changeforgeref2_copied.l1]
      rw [ite_dec, if_pos (by omega), k2, Option.bind_some, changeforgeref2_copied.j3, hat, Option.bind_some, app_eq (by simp; omega), Option.bind_some, changeforgeref2_copied.j2, ck_eq (by omega) (by omega)]
      rfl
    rw [iter_next e1, cp_l1 hN hz r q (x + 1) _ h3 (by omega) (fun m hm => hb m (by simp [hm])) (by simp; omega)]
    simp

theorem copied_f {t : SyntaxTree} (hN : t.Nodes.length ≤ 80) {l : ByteArray} {cs : Fo} {b : Nat} {m : SyntaxMerge_changeforgeref2} (hA : At t.Nodes b (Fo.tr l cs)) (ho : m.Nodes.length + sz cs ≤ 4000) :
    changeforgeref2_copied m t ((b + sz cs : Nat) : Int) = some ⟨m.Nodes ++ fo m.Nodes.length (Fo.tr l cs), m.Conflicts⟩ := by
  have hle := hA.le
  simp only [sz] at hle
  unfold changeforgeref2_copied changeforgeref2_copied.j1
  rw [ck_eq (by omega) (by omega), Option.bind_some, Size_f hN hA, Option.bind_some, ck_eq (by omega) (by omega), Option.bind_some, ck_eq (by omega) (by omega), Option.bind_some]
  rw [show ((b + sz cs : Nat) : Int) + 1 - ((sz cs + 1 : Nat) : Int) = (b : Int) by omega]
  have hd : ∃ q, t.Nodes.drop b = fo b (Fo.tr l cs) ++ q := by
    obtain ⟨p, q, h1, h2⟩ := hA
    exact ⟨q, by rw [h1, ← h2]; simp⟩
  obtain ⟨q, hd⟩ := hd
  have k1 := cp_l1 (i := ((b + sz cs : Nat) : Int)) hN (z := (m.Nodes.length : Int) - b) (by omega) (fo b (Fo.tr l cs)) q b m.Nodes hd (by simp [sz]; omega) (fun n hn => by
    have h1 := fo_kids _ _ n hn
    have h2 := fo_bd _ _ n hn
    simp only [sz] at h1 h2
    exact ⟨by omega, fun x hx => by have := h2 x hx; omega⟩) (by simp [sz]; omega)
  rw [k1, Option.bind_some, fo_sh (Fo.tr l cs) b m.Nodes.length _ (by omega)]
end Go.Dc
