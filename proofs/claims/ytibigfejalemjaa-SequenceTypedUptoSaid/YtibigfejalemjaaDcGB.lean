/- Replicated sequences: the tree of insertions, walked depth first, is the row that grows by one insertion after the other. -/
import Derived.Test.YtibigfejalemjaaDcGA
import Derived.Test.YtibigfejalemjaaDcR
set_option linter.unusedSimpArgs false
set_option linter.unusedVariables false
namespace Go.Dc
open Go

/-- what was inserted behind an element, the latest first -/
def chi (A : List SeqOp) (e : K2) : List SeqOp := A.reverse.filter fun o => decide (aft o = e)

def dfs (A : List SeqOp) : Nat → K2 → List SeqOp
  | 0, _ => []
  | n + 1, e => (chi A e).flatMap fun o => o :: dfs A n (own o)

/-- so many steps are enough -/
def Good (A : List SeqOp) : Nat → K2 → Prop
  | 0, _ => False
  | n + 1, e => ∀ o ∈ chi A e, Good A n (own o)

def insA (p : K2) (x : SeqOp) (l : List SeqOp) : List SeqOp := l.flatMap fun o => if own o = p then [o, x] else [o]
def insX (p : K2) (x : SeqOp) (l : List SeqOp) : List SeqOp := (if p = (0, 0) then [x] else []) ++ insA p x l
def rowF (A : List SeqOp) : List SeqOp := A.foldl (fun row x => insX (aft x) x row) []

theorem rowF_snoc (A : List SeqOp) (x : SeqOp) : rowF (A ++ [x]) = insX (aft x) x (rowF A) := by simp [rowF, List.foldl_append]

theorem insA_cons (p : K2) (x o : SeqOp) (l : List SeqOp) : insA p x (o :: l) = (if own o = p then [o, x] else [o]) ++ insA p x l := by simp [insA]
theorem insA_append (p : K2) (x : SeqOp) (a b : List SeqOp) : insA p x (a ++ b) = insA p x a ++ insA p x b := by simp [insA]
theorem insA_none {p : K2} {x : SeqOp} : ∀ {l : List SeqOp}, (∀ o ∈ l, own o ≠ p) → insA p x l = l
  | [], _ => rfl
  | o :: l, h => by rw [insA_cons, if_neg (h o (by simp)), insA_none fun o' ho => h o' (by simp [ho])]; rfl

theorem mem_chi {A : List SeqOp} {e : K2} {o : SeqOp} : o ∈ chi A e ↔ o ∈ A ∧ aft o = e := by simp [chi]

theorem chi_snoc (A : List SeqOp) (x : SeqOp) (e : K2) : chi (A ++ [x]) e = if aft x = e then x :: chi A e else chi A e := by
  unfold chi
  rw [List.reverse_append, List.reverse_singleton, List.singleton_append, List.filter_cons]
  by_cases h : aft x = e <;> simp [h]

theorem flat_insA {p : K2} {x : SeqOp} {f g : SeqOp → List SeqOp} : ∀ {L : List SeqOp}, (∀ o ∈ L, f o = insA p x (g o)) → L.flatMap f = insA p x (L.flatMap g)
  | [], _ => rfl
  | o :: L, h => by
    rw [List.flatMap_cons, List.flatMap_cons, insA_append, h o (by simp), flat_insA fun o' ho => h o' (by simp [ho])]

theorem dfs_snoc {A : List SeqOp} {x : SeqOp} (hA : ∀ o ∈ A, aft o ≠ own x) (hx : aft x ≠ own x) : ∀ (n : Nat) (e : K2), Good (A ++ [x]) n e → dfs (A ++ [x]) n e = (if aft x = e then [x] else []) ++ insA (aft x) x (dfs A n e)
  | 0, _, h => h.elim
  | n + 1, e, h => by
    have hself : dfs (A ++ [x]) n (own x) = [] := by
      cases n with
      | zero => rfl
      | succ n =>
        have hc : chi (A ++ [x]) (own x) = [] := by
          rw [chi_snoc, if_neg hx]
          refine List.eq_nil_iff_forall_not_mem.2 fun o ho => ?_
          exact hA o (mem_chi.1 ho).1 (mem_chi.1 ho).2
        simp [dfs, hc]
    have hch : ∀ o ∈ chi A e, o :: dfs (A ++ [x]) n (own o) = insA (aft x) x (o :: dfs A n (own o)) := by
      intro o ho
      have hg : Good (A ++ [x]) n (own o) := h o (by rw [chi_snoc]; split; · exact List.mem_cons_of_mem _ ho
                                                     · exact ho)
      rw [dfs_snoc hA hx n _ hg, insA_cons]
      by_cases hp : own o = aft x
      · rw [if_pos hp.symm, if_pos hp]; rfl
      · rw [if_neg (fun e => hp e.symm), if_neg hp]; rfl
    have hfm := flat_insA hch
    simp only [dfs]
    rw [chi_snoc]
    by_cases hp : aft x = e
    · rw [if_pos hp, if_pos hp, List.flatMap_cons, hself, hfm]
    · rw [if_neg hp, if_neg hp, hfm]; rfl

theorem cntP_lt {α : Type} {l : List α} {p q : α → Bool} (h : ∀ k ∈ l, p k = true → q k = true) (hx : ∃ k ∈ l, q k = true ∧ p k = false) : l.countP p < l.countP q := by
  induction l with
  | nil => obtain ⟨k, hk, _⟩ := hx; cases hk
  | cons a l ih =>
    have hmono : l.countP p ≤ l.countP q := List.countP_mono_left fun k hk => h k (by simp [hk])
    rw [List.countP_cons, List.countP_cons]
    obtain ⟨k, hk, hq, hp⟩ := hx
    rcases List.mem_cons.1 hk with rfl | hk
    · rw [hq, hp]; simp; omega
    · have := ih (fun k hk => h k (by simp [hk])) ⟨k, hk, hq, hp⟩
      have ha := h a (by simp)
      cases hpa : p a <;> cases hqa : q a <;> simp <;> first | omega | (rw [hpa] at ha; have := ha rfl; rw [hqa] at this; cases this)

theorem good_of {A : List SeqOp} (hlt : ∀ o ∈ A, kLt (aft o) (own o) = true) : ∀ (n : Nat) (e : K2), (A.countP fun o => kLt e (own o)) < n → Good A n e
  | 0, _, h => absurd h (by omega)
  | n + 1, e, h => by
    intro o ho
    obtain ⟨ha, he⟩ := mem_chi.1 ho
    refine good_of hlt n _ ?_
    have hl := hlt o ha
    rw [he] at hl
    have := cntP_lt (l := A) (p := fun x => kLt (own o) (own x)) (q := fun x => kLt e (own x)) (fun k _ hk => kLt_trans hl hk) ⟨o, ha, hl, kLt_irr _⟩
    omega

theorem dfs_more {A : List SeqOp} : ∀ (n : Nat) (e : K2), Good A n e → dfs A (n + 1) e = dfs A n e
  | 0, _, h => h.elim
  | n + 1, e, h => by
    show (chi A e).flatMap (fun o => o :: dfs A (n + 1) (own o)) = (chi A e).flatMap (fun o => o :: dfs A n (own o))
    have : ∀ L : List SeqOp, (∀ o ∈ L, Good A n (own o)) → L.flatMap (fun o => o :: dfs A (n + 1) (own o)) = L.flatMap (fun o => o :: dfs A n (own o)) := by
      intro L
      induction L with
      | nil => intro _; rfl
      | cons o L ih =>
        intro hL
        rw [List.flatMap_cons, List.flatMap_cons, dfs_more n _ (hL o (by simp)), ih fun o' ho => hL o' (by simp [ho])]
    exact this _ h

theorem good_more {A : List SeqOp} : ∀ (n : Nat) (e : K2), Good A n e → Good A (n + 1) e
  | 0, _, h => h.elim
  | n + 1, e, h => fun o ho => good_more n _ (h o ho)

theorem dfs_plus {A : List SeqOp} (n : Nat) (e : K2) (h : Good A n e) : ∀ j, dfs A (n + j) e = dfs A n e ∧ Good A (n + j) e
  | 0 => ⟨rfl, h⟩
  | j + 1 => by
    obtain ⟨h1, h2⟩ := dfs_plus n e h j
    exact ⟨(dfs_more _ _ h2).trans h1, good_more _ _ h2⟩

/-- insertions in rising order -/
structure Asc (A : List SeqOp) : Prop where
  up : A.Pairwise fun a b => kLt (own a) (own b) = true
  lt : ∀ o ∈ A, kLt (aft o) (own o) = true

theorem Asc.left {A B : List SeqOp} (h : Asc (A ++ B)) : Asc A := ⟨(List.pairwise_append.1 h.up).1, fun o ho => h.lt o (by simp [ho])⟩

theorem Asc.good {A : List SeqOp} (h : Asc A) (e : K2) : Good A (A.length + 1) e := good_of h.lt _ _ (Nat.lt_succ_of_le List.countP_le_length)

theorem dfs_row : ∀ (n : Nat) (A : List SeqOp), A.length = n → Asc A → dfs A (A.length + 1) (0, 0) = rowF A := by
  intro n
  induction n with
  | zero =>
    intro A hA _
    have : A = [] := List.eq_nil_of_length_eq_zero hA
    subst this; rfl
  | succ n ih =>
    intro A hA h
    rcases List.eq_nil_or_concat A with rfl | ⟨L, x, rfl⟩
    · simp at hA
    · rw [List.concat_eq_append] at *
      have hl : L.length = n := by simpa using hA
      have hx : ∀ o ∈ L, kLt (own o) (own x) = true := fun o ho => (List.pairwise_append.1 h.up).2.2 o ho x (by simp)
      rw [dfs_snoc (fun o ho e => by have := kLt_trans (h.left.lt o ho) (hx o ho); rw [e, kLt_irr] at this; cases this) (kLt_ne (h.lt x (by simp))) _ _ (h.good _), rowF_snoc, ← ih L hl h.left]
      rw [show (L ++ [x]).length + 1 = (L.length + 1) + 1 by simp, dfs_more _ _ (h.left.good _)]
      rfl

/-- each is behind the start or behind one that is there already -/
def Rooted (A : List SeqOp) : Prop := ∀ L x R, A = L ++ x :: R → aft x = (0, 0) ∨ ∃ o ∈ L, own o = aft x

theorem Rooted.left {A : List SeqOp} {x : SeqOp} (h : Rooted (A ++ [x])) : Rooted A := fun L y R e => h L y (R ++ [x]) (by rw [e]; simp)
theorem Rooted.last {A : List SeqOp} {x : SeqOp} (h : Rooted (A ++ [x])) : aft x = (0, 0) ∨ ∃ o ∈ A, own o = aft x := h A x [] rfl

theorem insX_split {p : K2} {x : SeqOp} {row : List SeqOp} (hn : (row.map own).Nodup) (h0 : ∀ o ∈ row, own o ≠ (0, 0)) (hp : p = (0, 0) ∨ ∃ o ∈ row, own o = p) :
    ∃ r1 r2, row = r1 ++ r2 ∧ insX p x row = r1 ++ x :: r2 ∧ ((p = (0, 0) ∧ r1 = []) ∨ ∃ r0 o, r1 = r0 ++ [o] ∧ own o = p ∧ ∀ y ∈ r2, own y ≠ p) := by
  by_cases hz : p = (0, 0)
  · subst hz
    exact ⟨[], row, rfl, by unfold insX; rw [if_pos rfl, insA_none h0]; rfl, .inl ⟨rfl, rfl⟩⟩
  · rcases hp with hp | ⟨o, ho, rfl⟩
    · exact absurd hp hz
    · obtain ⟨r0, r2, rfl⟩ := List.append_of_mem ho
      rw [List.map_append, List.map_cons, List.nodup_append] at hn
      obtain ⟨_, hb, hc⟩ := hn
      rw [List.nodup_cons] at hb
      have n1 : ∀ y ∈ r0, own y ≠ own o := fun y hy => hc _ (List.mem_map_of_mem hy) _ (by simp)
      have n2 : ∀ y ∈ r2, own y ≠ own o := fun y hy e => hb.1 (by rw [← e]; exact List.mem_map_of_mem hy)
      refine ⟨r0 ++ [o], r2, by simp, ?_, .inr ⟨r0, o, rfl, rfl, n2⟩⟩
      unfold insX
      rw [if_neg hz, List.nil_append, insA_append, insA_cons, if_pos rfl, insA_none n1, insA_none n2]
      simp

theorem Asc.nodup {A : List SeqOp} (h : Asc A) : (A.map own).Nodup := by
  rw [List.nodup_iff_pairwise_ne, List.pairwise_map]
  exact h.up.imp fun hab => kLt_ne hab

theorem rowF_perm : ∀ (n : Nat) (A : List SeqOp), A.length = n → Asc A → Rooted A → (∀ o ∈ A, own o ≠ (0, 0)) → (rowF A).Perm A := by
  intro n
  induction n with
  | zero =>
    intro A hA _ _ _
    have : A = [] := List.eq_nil_of_length_eq_zero hA
    subst this; exact List.Perm.refl _
  | succ n ih =>
    intro A hA h hr h0
    rcases List.eq_nil_or_concat A with rfl | ⟨L, x, rfl⟩
    · simp at hA
    · rw [List.concat_eq_append] at *
      have hp := ih L (by simpa using hA) h.left hr.left fun o ho => h0 o (by simp [ho])
      have hnd : ((rowF L).map own).Nodup := (hp.map own).nodup_iff.2 h.left.nodup
      obtain ⟨r1, r2, e1, e2, _⟩ := insX_split (p := aft x) (x := x) hnd (fun o ho => h0 o (by simp [hp.mem_iff.1 ho])) (by
        rcases hr.last with h1 | ⟨o, ho, h1⟩
        · exact .inl h1
        · exact .inr ⟨o, hp.mem_iff.2 ho, h1⟩)
      rw [rowF_snoc, e2]
      have : (r1 ++ x :: r2).Perm (x :: (r1 ++ r2)) := List.perm_middle
      rw [← e1] at this
      exact this.trans ((hp.cons x).trans (List.perm_append_singleton x L).symm)

/-! ## the insertions of a valid set -/
def insL (ops : List SeqOp) : List SeqOp := ops.filter fun o => !o.Delete
def asc (ops : List SeqOp) : List SeqOp := (insL ops).mergeSort fun a b => !kLt (own b) (own a)

theorem asc_perm (ops : List SeqOp) : (asc ops).Perm (insL ops) := List.mergeSort_perm _ _
theorem mem_asc {ops : List SeqOp} {o : SeqOp} : o ∈ asc ops ↔ o ∈ ops ∧ o.Delete = false := by
  rw [(asc_perm ops).mem_iff]; simp [insL]

theorem insL_nodup {ops : List SeqOp} (h : (ops.map fun o => (own o, o.Delete)).Nodup) : ((insL ops).map own).Nodup := by
  rw [List.nodup_iff_pairwise_ne, List.pairwise_map] at h ⊢
  have h1 : (insL ops).Pairwise fun a b => (own a, a.Delete) ≠ (own b, b.Delete) := h.sublist List.filter_sublist
  refine h1.imp_of_mem fun {a b} ha hb hne e => hne ?_
  have d1 : a.Delete = false := by simpa [insL] using (List.mem_filter.1 ha).2
  have d2 : b.Delete = false := by simpa [insL] using (List.mem_filter.1 hb).2
  rw [e, d1, d2]

theorem asc_pw (ops : List SeqOp) : (asc ops).Pairwise fun a b => (!kLt (own b) (own a)) = true :=
  List.pairwise_mergeSort (fun a b c h1 h2 => by
    simp only [Bool.not_eq_true'] at *
    exact kLt_nt h2 h1) (fun a b => by
    rcases kLt_tri (own a) (own b) with h | h | h
    · rw [kLt_asymm h]; rfl
    · rw [h, kLt_irr]; rfl
    · rw [kLt_asymm h]; simp) _

theorem chk_lt {o : SeqOp} (h : chk o = 0) (hd : o.Delete = false) : kLt (aft o) (own o) = true := by
  have h1 := chk_del h
  unfold chk at h
  rw [h1, hd] at h
  simp only [Bool.true_eq_false, if_false, Bool.false_eq_true, false_and, true_and] at h
  split at h
  · cases h
  · split at h
    · cases h
    · rename_i h2
      cases hk : kLt (aft o) (own o) with
      | true => rfl
      | false => exact absurd hk h2

theorem asc_asc {ops : List SeqOp} (h : Val ops) : Asc (asc ops) := by
  refine ⟨?_, fun o ho => chk_lt (h.chk o (mem_asc.1 ho).1) (mem_asc.1 ho).2⟩
  have hn : ((asc ops).map own).Nodup := ((asc_perm ops).map own).nodup_iff.2 (insL_nodup h.nd)
  rw [List.nodup_iff_pairwise_ne, List.pairwise_map] at hn
  refine ((asc_pw ops).and hn).imp fun {a b} hab => ?_
  obtain ⟨h1, h2⟩ := hab
  simp only [Bool.not_eq_true'] at h1
  rcases kLt_tri (own a) (own b) with h3 | h3 | h3
  · exact h3
  · exact absurd h3 h2
  · rw [h1] at h3; cases h3

theorem insM_iff {ops : List SeqOp} {k : K2} : insM ops k = true ↔ ∃ o ∈ ops, o.Delete = false ∧ own o = k := by
  unfold insM; rw [List.any_eq_true]; simp
theorem delM_iff {ops : List SeqOp} {k : K2} : delM ops k = true ↔ ∃ o ∈ ops, o.Delete = true ∧ own o = k := by
  unfold delM; rw [List.any_eq_true]; simp

theorem asc_root {ops : List SeqOp} (h : Val ops) : Rooted (asc ops) := by
  intro L x R e
  have hx : x ∈ asc ops := by rw [e]; simp
  obtain ⟨hx1, hx2⟩ := mem_asc.1 hx
  have hn := h.made x hx1
  unfold need at hn
  rw [if_neg (by simp [hx2])] at hn
  rcases hn with hn | hn
  · exact .inl hn
  · right
    obtain ⟨o, ho, hd, hk⟩ := insM_iff.1 hn
    have hoa : o ∈ asc ops := mem_asc.2 ⟨ho, hd⟩
    rw [e] at hoa
    have hlt := (asc_asc h).lt x hx
    rw [← hk] at hlt
    rcases List.mem_append.1 hoa with h1 | h1
    · exact ⟨o, h1, hk⟩
    · rcases List.mem_cons.1 h1 with rfl | h1
      · rw [kLt_irr] at hlt; cases hlt
      · have hp := (asc_asc h).up
        rw [e] at hp
        have := (List.pairwise_cons.1 (List.pairwise_append.1 hp).2.1).1 o h1
        rw [kLt_asymm this] at hlt; cases hlt

theorem asc_ne {ops : List SeqOp} (h : Val ops) : ∀ o ∈ asc ops, own o ≠ (0, 0) := fun o ho => inR_ne (chk_del (h.chk o (mem_asc.1 ho).1))

theorem row_perm {ops : List SeqOp} (h : Val ops) : (rowF (asc ops)).Perm (insL ops) := (rowF_perm _ _ rfl (asc_asc h) (asc_root h) (asc_ne h)).trans (asc_perm ops)

theorem asc_len (ops : List SeqOp) : (asc ops).length ≤ ops.length := by rw [(asc_perm ops).length_eq]; exact List.length_filter_le _ _

theorem asc_eq {a b : List SeqOp} (h : Val a) (hp : a.Perm b) : asc a = asc b := by
  have hb : (asc b).Perm (asc a) := (asc_perm b).trans ((hp.symm.filter _).trans (asc_perm a).symm)
  have h2 : (asc b).Pairwise fun x y => (!kLt (own y) (own x)) = true := asc_pw b
  refine (List.Perm.eq_of_pairwise (le := fun x y => (!kLt (own y) (own x)) = true) ?_ h2 (asc_pw a) hb).symm
  intro x y hx hy h3 h4
  simp only [Bool.not_eq_true'] at h3 h4
  have hxa : x ∈ asc a := hb.mem_iff.1 hx
  have hk : own x = own y := kLt_anti h4 h3
  have hn : ((asc a).map own).Nodup := (asc_asc h).nodup
  exact inj_of_nodup hn hxa hy hk
 where
  inj_of_nodup {l : List SeqOp} (hn : (l.map own).Nodup) {x y : SeqOp} (hx : x ∈ l) (hy : y ∈ l) (hk : own x = own y) : x = y := by
    induction l with
    | nil => cases hx
    | cons z r ih =>
      rw [List.map_cons, List.nodup_cons] at hn
      rcases List.mem_cons.1 hx with hx1 | hx1
      · rcases List.mem_cons.1 hy with hy1 | hy1
        · rw [hx1, hy1]
        · exact absurd (by rw [← hx1, hk]; exact List.mem_map_of_mem hy1) hn.1
      · rcases List.mem_cons.1 hy with hy1 | hy1
        · exact absurd (by rw [← hy1, ← hk]; exact List.mem_map_of_mem hx1) hn.1
        · exact ih hn.2 hx1 hy1

/-- what is to be seen -/
def vlines (del : K2 → Bool) (l : List SeqOp) : List ByteArray := (l.filter fun o => !del (own o)).map (·.Line)
def vis (ops : List SeqOp) : List ByteArray := vlines (delM ops) (rowF (asc ops))

theorem vlines_append (del : K2 → Bool) (a b : List SeqOp) : vlines del (a ++ b) = vlines del a ++ vlines del b := by simp [vlines]
end Go.Dc
