/- The law TopMergedTextsAreBlamed. -/
import Derived.Test.YthpkobkngplbbaaDoorDcJS
set_option linter.unusedSimpArgs false
set_option linter.unusedVariables false
set_option maxRecDepth 4000
namespace Go.Dc
open Go

/-! ## how far two texts lie apart -/
def dst (u v : List ByteArray) : Int := (u.length : Int) + v.length - 2 * (lcs u v : Int)

theorem lcs_ex : ∀ a b : List ByteArray, ∃ c : List ByteArray, c.Sublist a ∧ c.Sublist b ∧ c.length = lcs a b
  | [], b => ⟨[], List.Sublist.slnil, List.nil_sublist _, by simp [lcs]⟩
  | x :: a, [] => ⟨[], List.nil_sublist _, List.nil_sublist _, by rw [lcs_nil_r]; rfl⟩
  | x :: a, y :: b => by
    rw [lcs_cons]
    by_cases h : x = y
    · rw [if_pos h]
      obtain ⟨c, h1, h2, h3⟩ := lcs_ex a b
      subst h
      exact ⟨x :: c, h1.cons_cons x, h2.cons_cons x, by rw [List.length_cons, h3]⟩
    · rw [if_neg h]
      rcases Nat.le_total (lcs a (y :: b)) (lcs (x :: a) b) with hl | hl
      · obtain ⟨c, h1, h2, h3⟩ := lcs_ex (x :: a) b
        exact ⟨c, h1, h2.cons y, by rw [h3]; omega⟩
      · obtain ⟨c, h1, h2, h3⟩ := lcs_ex a (y :: b)
        exact ⟨c, h1.cons x, h2, by rw [h3]; omega⟩
 termination_by a b => a.length + b.length

theorem lcs_app (u v u' v' : List ByteArray) : lcs u u' + lcs v v' ≤ lcs (u ++ v) (u' ++ v') := by
  obtain ⟨c, h1, h2, h3⟩ := lcs_ex u u'
  obtain ⟨d, g1, g2, g3⟩ := lcs_ex v v'
  have := lcs_sub (u ++ v) (u' ++ v') (c ++ d) (h1.append g1) (h2.append g2)
  rw [List.length_append] at this
  omega

theorem dst_app (u v u' v' : List ByteArray) : dst (u ++ v) (u' ++ v') ≤ dst u u' + dst v v' := by
  have := lcs_app u v u' v'
  unfold dst
  rw [List.length_append, List.length_append]
  omega

theorem dst_self (u : List ByteArray) : dst u u = 0 := by unfold dst; rw [lcs_self]; omega
theorem dst_le (u v : List ByteArray) : dst u v ≤ (u.length : Int) + v.length := by unfold dst; omega

def cost : List Hunk → Nat
  | [] => 0
  | h :: r => h.Old.length + h.New.length + cost r

theorem cost_app : ∀ a b : List Hunk, cost (a ++ b) = cost a + cost b
  | [], b => by simp [cost]
  | h :: a, b => by rw [List.cons_append, cost, cost, cost_app a b]; omega

theorem cost_open (s : Cst) : cost (cOpen s) = cost s.1 := by
  unfold cOpen
  split
  · rfl
  · rw [cost_app]; simp [cost]

theorem cost_last {hs : List Hunk} (hne : hs ≠ []) {f : Hunk → Hunk} (hf : ∀ h, (f h).Old.length + (f h).New.length = h.Old.length + h.New.length + 1) : cost (setLast hs f) = cost hs + 1 := by
  rcases List.eq_nil_or_concat hs with rfl | ⟨q, h, rfl⟩
  · exact absurd rfl hne
  · rw [List.concat_eq_append, setLast_snoc, cost_app, cost_app]
    have := hf h
    simp only [cost]; omega

theorem scr_cost : ∀ (a b : List ByteArray) (s : Cst), (s.2.2 = true → s.1 ≠ []) → cost (scr a b s).1 = cost s.1 + nz (algn a b)
  | [], [], s, _ => by simp [scr, algn, nz]
  | [], y :: b, s, h => by
    have hn := cOpen_ne s h
    have h1 : cost (cIns y s).1 = cost s.1 + 1 := by unfold cIns; rw [cost_last hn (by intro g; simp; omega), cost_open]
    rw [scr, scr_cost [] b (cIns y s) (fun _ => setLast_ne hn), h1, algn, nz, if_neg (by decide)]; omega
  | x :: a, [], s, h => by
    have hn := cOpen_ne s h
    have h1 : cost (cDel x s).1 = cost s.1 + 1 := by unfold cDel; rw [cost_last hn (by intro g; simp; omega), cost_open]
    rw [scr, scr_cost a [] (cDel x s) (fun _ => setLast_ne hn), h1, algn, nz, if_neg (by decide)]; omega
  | x :: a, y :: b, s, h => by
    have hn := cOpen_ne s h
    rw [scr, algn]
    by_cases he : x = y
    · rw [if_pos he, if_pos he, scr_cost a b (cKeep s) (by intro hh; simp [cKeep] at hh), nz, if_pos rfl]; rfl
    · rw [if_neg he, if_neg he]
      by_cases hl : lcs a (y :: b) ≥ lcs (x :: a) b
      · have h1 : cost (cDel x s).1 = cost s.1 + 1 := by unfold cDel; rw [cost_last hn (by intro g; simp; omega), cost_open]
        rw [if_pos hl, if_pos hl, scr_cost a (y :: b) (cDel x s) (fun _ => setLast_ne hn), h1, nz, if_neg (by decide)]; omega
      · have h1 : cost (cIns y s).1 = cost s.1 + 1 := by unfold cIns; rw [cost_last hn (by intro g; simp; omega), cost_open]
        rw [if_neg hl, if_neg hl, scr_cost (x :: a) b (cIns y s) (fun _ => setLast_ne hn), h1, nz, if_neg (by decide)]; omega
 termination_by a b => a.length + b.length

theorem script_cost (a b : List ByteArray) : (cost (script a b) : Int) = dst a b := by
  have h := scr_cost a b ([], 0, false) (by simp)
  have h2 := algn_nz a b
  unfold script dst
  rw [h]
  simp only [cost]
  omega

theorem dst_raw {t : List ByteArray} : ∀ (hs : List Hunk) (lo hi : Nat), InR hs lo hi → hi ≤ t.length → dst ((t.drop lo).take (hi - lo)) (rawIn t hs lo hi) ≤ (cost hs : Int)
  | [], lo, hi, _, _ => by rw [rawIn, dst_self]; simp [cost]
  | h :: r, lo, hi, hin, hle => by
    obtain ⟨c1, c2⟩ := hin
    have c3 := c2.le
    have ih := dst_raw r (h.At.toNat + h.Old.length) hi c2 hle
    rw [rawIn, take_split (t := t) (lo := lo) (mid := h.At.toNat) (hi := hi) (by omega) (by omega), take_split (t := t) (lo := h.At.toNat) (mid := h.At.toNat + h.Old.length) (hi := hi) (by omega) c3]
    have e1 := dst_app ((t.drop lo).take (h.At.toNat - lo)) ((t.drop h.At.toNat).take (h.At.toNat + h.Old.length - h.At.toNat) ++ (t.drop (h.At.toNat + h.Old.length)).take (hi - (h.At.toNat + h.Old.length))) ((t.drop lo).take (h.At.toNat - lo)) (h.New ++ rawIn t r (h.At.toNat + h.Old.length) hi)
    have e2 := dst_app ((t.drop h.At.toNat).take (h.At.toNat + h.Old.length - h.At.toNat)) ((t.drop (h.At.toNat + h.Old.length)).take (hi - (h.At.toNat + h.Old.length))) h.New (rawIn t r (h.At.toNat + h.Old.length) hi)
    have e3 := dst_le ((t.drop h.At.toNat).take (h.At.toNat + h.Old.length - h.At.toNat)) h.New
    have e4 : ((t.drop h.At.toNat).take (h.At.toNat + h.Old.length - h.At.toNat)).length ≤ h.Old.length := by simp; omega
    rw [dst_self] at e1
    simp only [cost]
    omega

def costR (Q : List Hunk) : List RX → Nat
  | [] => 0
  | r :: R => cost (wi Q r) + costR Q R

theorem cm_dst {t : List ByteArray} {P Q : List Hunk} (hQ : Side t Q) : ∀ (R : List RX) (at_ : Nat) (y : List ByteArray), (∀ r ∈ R, 0 ≤ r.Low ∧ r.Low ≤ r.High ∧ r.High ≤ t.length) → cmT t P Q R at_ = some y → dst (catT t P R at_) y ≤ (costR Q R : Int)
  | [], at_, y, _, h => by rw [cmT] at h; cases h; rw [catT, dst_self]; simp [costR]
  | r :: R, at_, y, hb, h => by
    have hbr := hb r List.mem_cons_self
    have main : ∀ X, (cmT t P Q R r.High.toNat).map (fun y => (t.drop at_).take (r.Low.toNat - at_) ++ (X ++ y)) = some y → dst (AA t P r) X ≤ (cost (wi Q r) : Int) → dst (catT t P (r :: R) at_) y ≤ (costR Q (r :: R) : Int) := by
      intro X hX hd
      cases hc : cmT t P Q R r.High.toNat with
      | none => rw [hc] at hX; cases hX
      | some z =>
        rw [hc] at hX
        have hy : y = (t.drop at_).take (r.Low.toNat - at_) ++ (X ++ z) := (Option.some.inj hX).symm
        subst hy
        have ih := cm_dst hQ R r.High.toNat z (fun x hx => hb x (List.mem_cons_of_mem _ hx)) hc
        rw [catT, costR]
        have e1 := dst_app ((t.drop at_).take (r.Low.toNat - at_)) (AA t P r ++ catT t P R r.High.toNat) ((t.drop at_).take (r.Low.toNat - at_)) (X ++ z)
        have e2 := dst_app (AA t P r) (catT t P R r.High.toNat) X z
        rw [dst_self] at e1
        omega
    rw [cmT] at h
    by_cases c1 : wi Q r = [] ∨ AA t P r = AA t Q r
    · rw [if_pos c1] at h
      exact main _ h (by rw [dst_self]; omega)
    · rw [if_neg c1] at h
      by_cases c2 : wi P r = []
      · rw [if_pos c2] at h
        refine main _ h ?_
        have hin := wi_in (r := r) hbr.1 Q (-1) r.Low.toNat hQ.chn (fun x hx => (hQ.ins x hx).1) (by omega) (by omega)
        have := dst_raw (t := t) (wi Q r) r.Low.toNat r.High.toNat hin (by omega)
        unfold AA
        rw [c2, rawIn]
        exact this
      · rw [if_neg c2] at h; cases h

theorem in_one {h : Hunk} {c : Nat} : ∀ {R : List RX}, R.Pairwise (fun a b => a.High < b.Low) → (R.map fun r => if inB r h = true then c else 0).sum ≤ c
  | [], _ => by simp
  | r :: R, hp => by
    rw [List.pairwise_cons] at hp
    rw [List.map_cons, List.sum_cons]
    by_cases hb : inB r h = true
    · have hz : (R.map fun r => if inB r h = true then c else 0).sum = 0 := by
        have : ∀ x ∈ R, inB x h = false := by
          intro x hx
          have h1 := hp.1 x hx
          unfold inB at hb
          simp only [Bool.and_eq_true, decide_eq_true_eq] at hb
          unfold inB
          rw [show decide (x.Low ≤ h.At) = false from decide_eq_false (by omega), Bool.false_and]
        clear hp hb
        induction R with
        | nil => rfl
        | cons x R ih =>
          rw [List.map_cons, List.sum_cons, this x List.mem_cons_self, if_neg Bool.false_ne_true, ih fun y hy => this y (List.mem_cons_of_mem _ hy)]
      rw [if_pos hb, hz]; omega
    · rw [if_neg hb]
      have := in_one (h := h) (c := c) hp.2
      omega

theorem costR_cons (h : Hunk) (Q : List Hunk) : ∀ R : List RX, costR (h :: Q) R = (R.map fun r => if inB r h = true then h.Old.length + h.New.length else 0).sum + costR Q R
  | [] => rfl
  | r :: R => by
    rw [costR, costR, costR_cons h Q R, List.map_cons, List.sum_cons]
    unfold wi
    rw [List.filter_cons]
    by_cases hb : inB r h = true
    · rw [if_pos hb, if_pos hb, cost]; omega
    · rw [if_neg hb, if_neg hb]; omega

theorem costR_le {R : List RX} (hp : R.Pairwise (fun a b => a.High < b.Low)) : ∀ Q : List Hunk, costR Q R ≤ cost Q
  | [] => by
    have : ∀ R : List RX, costR [] R = 0 := by
      intro R
      induction R with
      | nil => rfl
      | cons r R ih => rw [costR, ih]; rfl
    rw [this]; exact Nat.zero_le _
  | h :: Q => by
    have h1 := costR_le hp Q
    have h2 := in_one (h := h) (c := h.Old.length + h.New.length) hp
    rw [costR_cons, cost]; omega

/-! ## where the lines come from -/
theorem rawIn_all {p : ByteArray → Prop} {t : List ByteArray} (ht : ∀ s ∈ t, p s) : ∀ (hs : List Hunk) (lo hi : Nat), (∀ h ∈ hs, ∀ s ∈ h.New, p s) → ∀ s ∈ rawIn t hs lo hi, p s
  | [], lo, hi, _, s, hs => by rw [rawIn] at hs; exact ht s (List.mem_of_mem_drop (List.mem_of_mem_take hs))
  | h :: hs, lo, hi, hn, s, hs2 => by
    rw [rawIn, List.mem_append, List.mem_append] at hs2
    rcases hs2 with h1 | h1 | h1
    · exact ht s (List.mem_of_mem_drop (List.mem_of_mem_take h1))
    · exact hn h List.mem_cons_self s h1
    · exact rawIn_all ht hs _ _ (fun x hx => hn x (List.mem_cons_of_mem _ hx)) s h1

theorem cmT_all {p : ByteArray → Prop} {t : List ByteArray} (ht : ∀ s ∈ t, p s) {P Q : List Hunk} (hP : ∀ h ∈ P, ∀ s ∈ h.New, p s) (hQ : ∀ h ∈ Q, ∀ s ∈ h.New, p s) : ∀ (R : List RX) (at_ : Nat) (y : List ByteArray), cmT t P Q R at_ = some y → ∀ s ∈ y, p s
  | [], at_, y, h, s, hs => by rw [cmT] at h; cases h; exact ht s (List.mem_of_mem_drop hs)
  | r :: R, at_, y, h, s, hs => by
    have main : ∀ X : List ByteArray, (∀ s ∈ X, p s) → (cmT t P Q R r.High.toNat).map (fun y => (t.drop at_).take (r.Low.toNat - at_) ++ (X ++ y)) = some y → p s := by
      intro X hX hm
      cases hc : cmT t P Q R r.High.toNat with
      | none => rw [hc] at hm; cases hm
      | some z =>
        rw [hc] at hm; cases hm
        rcases List.mem_append.1 hs with h1 | h1
        · exact ht s (List.mem_of_mem_drop (List.mem_of_mem_take h1))
        · rcases List.mem_append.1 h1 with h1 | h1
          · exact hX s h1
          · exact cmT_all ht hP hQ R _ _ hc s h1
    rw [cmT] at h
    split at h
    · exact main _ (rawIn_all ht _ _ _ fun g hg => hP g (List.mem_filter.1 hg).1) h
    · split at h
      · exact main _ (rawIn_all ht _ _ _ fun g hg => hQ g (List.mem_filter.1 hg).1) h
      · cases h

theorem script_new {a b : List ByteArray} (ha : OkText a) (hb : OkText b) : ∀ h ∈ script a b, ∀ s ∈ h.New, s ∈ b := by
  have h0 : ScI a b ([], 0, false) 0 0 := ⟨rfl, Nat.le_refl _, by simp [preS, endS], fun h => by simp at h, fun _ => .inl rfl, trivial, fun h hh => by cases hh⟩
  have h := scr_ok _ 0 0 _ rfl (Nat.zero_le _) (Nat.zero_le _) h0
  rw [List.drop_zero, List.drop_zero] at h
  intro x hx s hs
  obtain ⟨p, q, h1, h2, h3, h4, h5, _⟩ := h.each x hx
  rw [h5] at hs
  exact List.mem_of_mem_drop (List.mem_of_mem_take hs)

theorem clean3_far {b l r s : List ByteArray} (hb : OkText b) (hl : OkText l) (hr : OkText r) (h : clean3 b l r = some s) : dst l s ≤ dst b r ∧ ∀ x ∈ s, x ∈ b ∨ x ∈ l ∨ x ∈ r := by
  have hP := script_side hb hl
  have hQ := script_side hb hr
  have h1 := regF_ok hb.1 hP hQ
  have h2 := (reg_cov hb.1 hP hQ).1
  unfold clean3 at h
  split at h
  · cases h
  · rename_i y hy
    split at h
    · cases h
      constructor
      · have e1 := cm_dst hQ _ 0 _ h1.bd hy
        rw [catT_raw _ 0 _ (-1) h1.sep (fun x hx => ⟨(h1.bd x hx).1, (h1.bd x hx).2.1⟩) hP.chn (fun x hx => (hP.ins x hx).1) h2, script_raw hb hl] at e1
        have e2 := costR_le h1.sep (script b r)
        have e3 := script_cost b r
        omega
      · exact cmT_all (p := fun x => x ∈ b ∨ x ∈ l ∨ x ∈ r) (fun x hx => .inl hx) (fun g hg x hx => .inr (.inl (script_new hb hl g hg x hx))) (fun g hg x hx => .inr (.inr (script_new hb hr g hg x hx))) _ _ _ hy
    · cases h

/-! ## the law -/
def hasB (l : List ByteArray) (s : ByteArray) : Bool := l.any fun y => decide (y = s)
theorem hasB_true {l : List ByteArray} {s : ByteArray} : hasB l s = true ↔ s ∈ l := by
  unfold hasB
  rw [List.any_eq_true]
  exact ⟨fun ⟨y, h1, h2⟩ => by have : y = s := by simpa using h2
                               exact this ▸ h1, fun h => ⟨s, h, by simp⟩⟩

theorem has_h11 (l : List ByteArray) (s : ByteArray) (hl : l.length ≤ 1000000) : changeforgetop_h11Has l s = some (hasB l s) := by
  unfold changeforgetop_h11Has hasB
  rw [any_loopC (f := fun t => changeforgetop_h11Has.l1 l s t) (.inl true) (.inr ()) l (fun y => decide (y = s)) ?_ ?_, Option.bind_some]
  · cases l.any fun y => decide (y = s) <;> rfl
  · intro k hk
    unfold changeforgetop_h11Has.l1
    rw [ite_dec, if_pos (by omega), at_nat hk, Option.bind_some, ck_eq (by omega) (by omega), Option.bind_some, ite_dec, ite_dec]; rfl
  · unfold changeforgetop_h11Has.l1
    rw [ite_dec, if_neg (by omega)]

theorem blamed_top (b l r : List ByteArray) : changeforgetop_TopMergedTextsAreBlamed b l r = some true := by
  unfold changeforgetop_TopMergedTextsAreBlamed
  by_cases hok : OkText b ∧ OkText l ∧ OkText r
  case neg =>
    have hm : ∃ f, merge3_Merge b l r = some ([], f) ∧ f.Code ≠ 0 := by
      unfold merge3_Merge
      by_cases hb : (textFault b).Code = 0
      · by_cases hl : (textFault l).Code = 0
        · have hr : (textFault r).Code ≠ 0 := fun hr => hok ⟨(okText_iff b).2 ((textFault_zero b).2 hb), (okText_iff l).2 ((textFault_zero l).2 hl), (okText_iff r).2 ((textFault_zero r).2 hr)⟩
          have e1 : lines_Both b l = some ⟨0, 0⟩ := by rw [both_f, if_neg (fun h => h hb), if_pos hl]
          have e2 : lines_Second r (-3) = some ⟨(textFault r).Code, -3⟩ := by rw [second_f, if_neg hr]
          rw [e1, Option.bind_some, if_neg (by simp), e2, Option.bind_some, if_pos (by simp [hr])]
          exact ⟨_, rfl, hr⟩
        · have e1 : lines_Both b l = some ⟨(textFault l).Code, -2⟩ := by rw [both_f, if_neg (fun h => h hb), if_neg hl]
          rw [e1, Option.bind_some, if_pos (by simp [hl])]
          exact ⟨_, rfl, hl⟩
      · have e1 : lines_Both b l = some (textFault b) := by rw [both_f, if_pos hb]
        rw [e1, Option.bind_some, if_pos (by simp [hb])]
        exact ⟨_, rfl, hb⟩
    obtain ⟨f, e, hf⟩ := hm
    have hc : ∃ z, merge3_Clean [] = some z := by
      unfold merge3_Clean
      have hn : OkText [] := ⟨by simp, by simp⟩
      have e1 := check_nrm hn
      rw [show nrm [] = [] from rfl] at e1
      have e2 : merge3_Clean.l1 [] 0 [] = some (.done (.inr [])) := by unfold merge3_Clean.l1; rw [ite_dec, if_neg (by simp)]
      rw [e1, Option.bind_some, if_neg (by simp), iter_done (m := fun s : Int × List ByteArray => merge3_Clean.l1 [] s.1 s.2) e2, Option.bind_some]
      exact ⟨_, rfl⟩
    obtain ⟨z, hz⟩ := hc
    rw [e, Option.bind_some, hz, Option.bind_some, h11_f]
    simp [hf]
  obtain ⟨hb, hl, hr⟩ := hok
  obtain ⟨s, ok, f, e, hc⟩ := clean_f hb hl hr
  rw [(Merge_f hb hl hr).1, Option.bind_some, e, Option.bind_some, h11_f]
  rcases hc with ⟨c1, rfl, rfl, hs⟩ | ⟨_, rfl⟩
  case inr => by_cases hf : f.Code = 0 <;> simp [hf]
  obtain ⟨d1, d2⟩ := clean3_far hb hl hr c1
  simp only [decide_true, Bool.not_true, Bool.false_eq_true, if_false, Option.bind_some]
  have hof : OkFiles [b, l, s] := ⟨by simp, by
    intro v hv
    simp only [List.mem_cons, List.not_mem_nil, or_false] at hv
    rcases hv with rfl | rfl | rfl
    · exact hb
    · exact hl
    · exact hs⟩
  have hst := annot_stays 3 [b, l, s] (by simp) rfl
  have hlen := hst.length
  rw [show [b, l, s].getLast (by simp) = s from rfl] at hst hlen
  rw [annotate_ok hof, Option.bind_some]
  generalize annot [b, l, s] = os at hst hlen
  obtain ⟨v1, f1, g1, hv1⟩ := distance_eq l s
  obtain ⟨v2, f2, g2, hv2⟩ := distance_eq b r
  rcases hv1 with ⟨rfl, _, _, n1⟩ | ⟨_, h⟩
  case inr => exact absurd ⟨hl, hs⟩ h
  rcases hv2 with ⟨rfl, _, _, n2⟩ | ⟨_, h⟩
  case inr => exact absurd ⟨hb, hr⟩ h
  rw [g1, Option.bind_some, g2, Option.bind_some]
  have hll : decide ((os.length : Int) = (s.length : Int)) = true := by rw [hlen]; simp
  simp only [decide_true, Bool.not_true, Bool.false_eq_true, if_false, Option.bind_some, hll]
  have b1 := hb.1
  have b2 := hl.1
  have b3 := hr.1
  have b4 := hs.1
  rw [any_loopC (f := fun t => changeforgetop_TopMergedTextsAreBlamed.l1 b l r (s, true, ⟨0, 0⟩) (os, ⟨0, 0⟩) t) (.inl false) (.inr ()) os (fun _ => false) ?_ ?_, Option.bind_some]
  · have : (os.any fun _ => false) = false := by simp
    rw [this]
    unfold changeforgetop_TopMergedTextsAreBlamed.j1 dst at *
    simp only [Bool.false_eq_true, if_false]
    rw [decide_eq_true (by omega), if_pos rfl, h11_f]; rfl
  · intro k hk
    have hks : k < s.length := by omega
    obtain ⟨q1, q2, q3⟩ := hst.get k hk hks
    have hd := d2 s[k] (List.getElem_mem hks)
    have hj3 : ∀ x, changeforgetop_TopMergedTextsAreBlamed.j3 (k : Int) x = if x = true then some (.next ((k : Int) + 1)) else some (.done (.inl false)) := by
      intro x
      unfold changeforgetop_TopMergedTextsAreBlamed.j3
      rw [ck_eq (by omega) (by omega), Option.bind_some]
      cases x <;> rfl
    unfold changeforgetop_TopMergedTextsAreBlamed.l1
    simp only
    rw [ite_dec, if_pos (by omega), at_nat hks, Option.bind_some, has_h11 b _ (by omega), Option.bind_some, at_nat hk]
    unfold changeforgetop_TopMergedTextsAreBlamed.j2
    simp only
    rw [at_nat hk, at_nat hks]
    simp only [Option.bind_some]
    rw [has_h11 l _ (by omega), has_h11 r _ (by omega)]
    simp only [Option.bind_some, hj3, Bool.false_eq_true, if_false]
    simp only [List.length_cons, List.length_nil] at q2
    rcases (by omega : os[k] = 0 ∨ os[k] = 1 ∨ os[k] = 2) with h | h | h
    · have h0 : hasB b s[k] = true := hasB_true.2 (q3 0 (by omega) b rfl)
      rw [h]; simp [h0]
    · have h0 : hasB l s[k] = true := hasB_true.2 (q3 1 (by omega) l rfl)
      rw [h]; simp [h0]
    · rw [h]
      have h0 : hasB b s[k] = true ∨ hasB l s[k] = true ∨ hasB r s[k] = true := by
        rw [hasB_true, hasB_true, hasB_true]; exact hd
      cases e1 : hasB b s[k] <;> cases e2 : hasB l s[k] <;> cases e3 : hasB r s[k] <;> simp [e1, e2, e3] at h0 ⊢
  · unfold changeforgetop_TopMergedTextsAreBlamed.l1
    simp only
    rw [ite_dec, if_neg (by omega)]
end Go.Dc
