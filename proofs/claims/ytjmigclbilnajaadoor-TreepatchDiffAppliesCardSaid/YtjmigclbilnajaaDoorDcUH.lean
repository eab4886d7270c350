/- Two patches that do not touch, as one row of pieces: moving them past one another, and back. -/
import Derived.Test.YtjmigclbilnajaaDoorDcQE
set_option linter.unusedSimpArgs false
namespace Go.Dc
open Go

theorem commF_made {p q : Patch} (h1 : (commF p q).2.2.2.Code = 0) (h2 : (commF p q).2.2.1 = true) : (patchFault p).Code = 0 ∧ (patchFault q).Code = 0 ∧ meetB (newR 0 p.Hunks) (q.Hunks.map rng) = false ∧ (patchFault (qOf p q)).Code = 0 ∧ (patchFault (pOf p q)).Code = 0 ∧ commF p q = (qOf p q, pOf p q, true, ⟨0, 0⟩) := by
  unfold commF at h1 h2 ⊢
  split at h1
  · exact absurd h1 ‹_›
  · rename_i c0
    rw [if_neg c0] at h2 ⊢
    obtain ⟨a, b⟩ := pairF_zero (p := p) (q := q) (by omega)
    split at h1
    · rename_i c1; rw [if_pos c1] at h2; cases h2
    · rename_i c1
      rw [if_neg c1] at h2 ⊢
      split at h1
      · cases h1
      · rename_i c2
        rw [if_neg c2] at h2 ⊢
        exact ⟨a, b, by simpa using c1, by omega, by omega, rfl⟩

theorem patch_refl {B : Int} (p : Patch) (hp : Sm B p.Hunks) : changeforgeequal_Patch p p = some true := by
  obtain ⟨hl, hs⟩ := hp
  unfold changeforgeequal_Patch
  rw [ite_ndec, if_pos rfl]
  have key : ∀ (rest : List Hunk) (k : Nat), p.Hunks.drop k = rest → iter (fun s => changeforgeequal_Patch.l1 p p s) (k : Int) = some (.inr ()) := by
    intro rest
    induction rest with
    | nil =>
      intro k hk
      have := drop_end hk
      refine iter_done ?_
      unfold changeforgeequal_Patch.l1
      rw [ite_dec, if_neg (by omega)]
    | cons h r ih =>
      intro k hk
      obtain ⟨hlt, hh, hr⟩ := drop_at hk
      obtain ⟨b1, b2, b3, b4⟩ := hs h (hh ▸ List.getElem_mem hlt)
      have e0 : changeforgeequal_Patch.l1 p p (k : Int) = some (.next ((k + 1 : Nat) : Int)) := by
        unfold changeforgeequal_Patch.l1
        rw [ite_dec, if_pos (by omega)]
        simp only [at_nat hlt, Option.bind_some, hh, strings_eq h.Old h.Old (by omega), strings_eq h.New h.New (by omega), decide_true, Bool.not_true, Bool.false_eq_true, if_false]
        rw [ck_eq (by omega) (by omega)]; rfl
      rw [iter_next e0, ih (k + 1) hr]
  rw [show (0 : Int) = ((0 : Nat) : Int) from rfl, key p.Hunks 0 rfl]
  rfl

/-- a piece: whose it is, how far behind the last one it begins, what it takes and what it gives -/
structure Pc where
  k : Bool
  g : Int
  o : List ByteArray
  n : List ByteArray
/-- the hunks of one side, where the other side's pieces count as given (u) or as taken -/
def sel (t u : Bool) : Int → List Pc → List Hunk
  | _, [] => []
  | e, c :: r => if c.k = t then ⟨e + c.g, c.o, c.n⟩ :: sel t u (e + c.g + c.o.length) r else sel t u (e + c.g + (if u = true then (c.n.length : Int) else c.o.length)) r
theorem sel_s {t u : Bool} {c : Pc} {r : List Pc} {e : Int} (h : c.k = t) : sel t u e (c :: r) = ⟨e + c.g, c.o, c.n⟩ :: sel t u (e + c.g + c.o.length) r := by rw [sel, if_pos h]
theorem sel_o {t : Bool} {c : Pc} {r : List Pc} {e : Int} (h : ¬ c.k = t) : sel t false e (c :: r) = sel t false (e + c.g + c.o.length) r := by rw [sel, if_neg h, if_neg (by decide)]
theorem sel_n {t : Bool} {c : Pc} {r : List Pc} {e : Int} (h : ¬ c.k = t) : sel t true e (c :: r) = sel t true (e + c.g + c.n.length) r := by rw [sel, if_neg h, if_pos rfl]
def Val (m : List Pc) : Prop := ∀ c ∈ m, 1 ≤ c.g
theorem val_nil : Val [] := fun _ hc => by cases hc
def Srt : Int → List Hunk → Prop
  | _, [] => True
  | e, h :: r => e < h.At ∧ Srt (h.At + h.Old.length) r
theorem srt_of : ∀ (l : List Hunk) (e : Int), Good e l → Srt e l
  | [], _, _ => trivial
  | _ :: r, _, hg => ⟨(hcode_zero hg.1).2.2.2.2.1, srt_of r _ hg.2⟩

theorem sel_above (t u : Bool) : ∀ (m : List Pc) (e : Int), Val m → ∀ h ∈ sel t u e m, e < h.At
  | [], _, _, _, hh => by cases hh
  | c :: r, e, hv, h, hh => by
    have h1 := hv c (by simp)
    have hv' : Val r := fun x hx => hv x (List.mem_cons_of_mem _ hx)
    rw [sel] at hh
    split at hh
    · rcases List.mem_cons.1 hh with rfl | hh
      · show e < e + c.g; omega
      · have := sel_above t u r _ hv' h hh; omega
    · have := sel_above t u r _ hv' h hh
      split at this <;> omega

theorem newR_above : ∀ (l : List Hunk) (s e : Int), (∀ h ∈ l, e < h.At) → Srt e l → ∀ x ∈ newR s l, e + s < x.Low ∧ x.Low ≤ x.High
  | [], _, _, _, _, x, hx => by cases hx
  | h :: r, s, e, ha, hs, x, hx => by
    rw [newR] at hx
    rcases List.mem_cons.1 hx with rfl | hx
    · have := ha h (by simp); simp only; omega
    · have hs2 := hs.2
      have hr : ∀ y ∈ r, h.At + (h.Old.length : Int) < y.At := by
        intro y hy
        have : ∀ (l : List Hunk) (e : Int), Srt e l → ∀ y ∈ l, e < y.At := by
          intro l
          induction l with
          | nil => intro e _ y hy; cases hy
          | cons z l ih =>
            intro e hs y hy
            rcases List.mem_cons.1 hy with rfl | hy
            · exact hs.1
            · have := ih _ hs.2 y hy; have := hs.1; omega
        exact this r _ hs2 y hy
      have := newR_above r (s + gr h) _ hr hs2 x hx
      have h0 := hs.1
      unfold gr at this
      omega

theorem sel_srt (t u : Bool) : ∀ (m : List Pc) (e : Int), Val m → Srt e (sel t u e m)
  | [], _, _ => trivial
  | c :: r, e, hv => by
    have h1 := hv c (by simp)
    have hv' : Val r := fun x hx => hv x (List.mem_cons_of_mem _ hx)
    have low : ∀ (l : List Hunk) (a b : Int), a ≤ b → Srt b l → Srt a l := by
      intro l a b hab hs
      cases l with
      | nil => trivial
      | cons z l => exact ⟨by have := hs.1; omega, hs.2⟩
    rw [sel]
    split
    · exact ⟨by show e < e + c.g; omega, sel_srt t u r _ hv'⟩
    · refine low _ _ _ ?_ (sel_srt t u r _ hv')
      split <;> omega

def NoT (a b : List Range_commute) : Prop := ∀ x ∈ a, ∀ y ∈ b, tch x y = false
theorem meet_noT (a b : List Range_commute) : meetB a b = false ↔ NoT a b := by
  unfold meetB NoT
  simp
theorem tch_lt {a b : Range_commute} (h : a.High < b.Low ∨ b.High < a.Low) : tch a b = false := by
  unfold tch
  rcases h with h | h
  · rw [decide_eq_false (by omega)]; rfl
  · rw [decide_eq_false (p := b.High ≥ a.Low) (by omega), Bool.and_false]
theorem lt_of_tch {a b : Range_commute} (h : tch a b = false) : a.High < b.Low ∨ b.High < a.Low := by
  unfold tch at h
  by_cases h1 : a.High ≥ b.Low
  · by_cases h2 : b.High ≥ a.Low
    · rw [decide_eq_true h1, decide_eq_true h2] at h; cases h
    · right; omega
  · left; omega

/-- pieces do not touch -/
theorem sel_noT : ∀ (m : List Pc) (e s : Int), Val m → NoT (newR s (sel true false e m)) ((sel false true (e + s) m).map rng)
  | [], _, _, _ => fun x hx => by cases hx
  | c :: r, e, s, hv => by
    have h1 := hv c (by simp)
    have hv' : Val r := fun x hx => hv x (List.mem_cons_of_mem _ hx)
    intro x hx y hy
    by_cases hk : c.k = true
    · rw [sel, if_pos hk, newR] at hx
      rw [sel, if_neg (by rw [hk]; decide), if_pos rfl] at hy
      obtain ⟨z, hz, rfl⟩ := List.mem_map.1 hy
      rcases List.mem_cons.1 hx with rfl | hx
      · have := sel_above false true r _ hv' z hz
        refine tch_lt (Or.inl ?_)
        show e + c.g + s + c.n.length < z.At
        omega
      · have e2 : e + s + c.g + (c.n.length : Int) = e + c.g + c.o.length + (s + gr ⟨e + c.g, c.o, c.n⟩) := by unfold gr; simp only; omega
        rw [e2] at hz
        exact sel_noT r _ _ hv' x hx _ (List.mem_map.2 ⟨z, hz, rfl⟩)
    · have hk' : c.k = false := by simpa using hk
      rw [sel_o hk] at hx
      rw [sel_s hk'] at hy
      rw [List.map_cons] at hy
      rcases List.mem_cons.1 hy with rfl | hy
      · have := newR_above _ s (e + c.g + c.o.length) (sel_above true false r _ hv') (sel_srt true false r _ hv') x hx
        refine tch_lt (Or.inr ?_)
        show e + s + c.g + c.o.length < x.Low
        omega
      · have e2 : e + s + c.g + (c.o.length : Int) = e + c.g + c.o.length + s := by omega
        rw [e2] at hy
        exact sel_noT r _ _ hv' x hx y hy

theorem mvBy_none {rs : List Range_commute} {s : Int} {h : Hunk} (hr : ∀ r ∈ rs, ¬ r.High < h.At) : mvBy rs s h = 0 := by
  induction rs with
  | nil => rfl
  | cons r l ih => rw [mvBy, if_neg (hr r (by simp)), ih (fun x hx => hr x (List.mem_cons_of_mem _ hx))]; rfl

theorem sel_q : ∀ (m : List Pc) (e s : Int), Val m → (sel false true (e + s) m).map (fun h => (⟨h.At - s + mvBy (newR s (sel true false e m)) (-1) h, h.Old, h.New⟩ : Hunk)) = sel false false e m
  | [], _, _, _ => rfl
  | c :: r, e, s, hv => by
    have h1 := hv c (by simp)
    have hv' : Val r := fun x hx => hv x (List.mem_cons_of_mem _ hx)
    by_cases hk : c.k = true
    · have e2 : e + s + c.g + (c.n.length : Int) = e + c.g + c.o.length + (s + gr ⟨e + c.g, c.o, c.n⟩) := by unfold gr; simp only; omega
      have hk2 : ¬ c.k = false := by rw [hk]; decide
      rw [sel_n hk2, sel_s hk, sel_o hk2, newR]
      rw [e2, ← sel_q r (e + c.g + c.o.length) (s + gr ⟨e + c.g, c.o, c.n⟩) hv']
      refine List.map_congr_left fun h hh => ?_
      have := sel_above false true r _ hv' h hh
      rw [mvBy, if_pos (by simp only; omega)]
      simp only [Hunk.mk.injEq, and_true]
      omega
    · have hk' : c.k = false := by simpa using hk
      have e2 : e + s + c.g + (c.o.length : Int) = e + c.g + c.o.length + s := by omega
      rw [sel_s hk', sel_o hk, sel_s hk', List.map_cons, e2, sel_q r (e + c.g + c.o.length) s hv']
      rw [mvBy_none (fun x hx => by
        have := newR_above _ s (e + c.g + c.o.length) (sel_above true false r _ hv') (sel_srt true false r _ hv') x hx
        simp only; omega)]
      simp only [List.cons.injEq, Hunk.mk.injEq, and_true]
      omega

theorem sel_p : ∀ (m : List Pc) (e s : Int), Val m → (sel true false e m).map (fun h => (⟨h.At + s + mvBy ((sel false false e m).map rng) 1 h, h.Old, h.New⟩ : Hunk)) = sel true true (e + s) m
  | [], _, _, _ => rfl
  | c :: r, e, s, hv => by
    have h1 := hv c (by simp)
    have hv' : Val r := fun x hx => hv x (List.mem_cons_of_mem _ hx)
    by_cases hk : c.k = true
    · have e2 : e + s + c.g + (c.o.length : Int) = e + c.g + c.o.length + s := by omega
      have hk2 : ¬ c.k = false := by rw [hk]; decide
      rw [sel_s hk, sel_o hk2, sel_s hk, List.map_cons, e2, sel_p r (e + c.g + c.o.length) s hv']
      rw [mvBy_none (fun x hx => by
        obtain ⟨z, hz, rfl⟩ := List.mem_map.1 hx
        have := sel_above false false r _ hv' z hz
        show ¬ z.At + (z.Old.length : Int) < e + c.g
        omega)]
      simp only [List.cons.injEq, Hunk.mk.injEq, and_true]
      omega
    · have hk' : c.k = false := by simpa using hk
      have e2 : e + s + c.g + (c.n.length : Int) = e + c.g + c.o.length + (s + gr ⟨e + c.g, c.o, c.n⟩) := by unfold gr; simp only; omega
      rw [sel_o hk, sel_s hk', sel_n hk, e2, ← sel_p r (e + c.g + c.o.length) (s + gr ⟨e + c.g, c.o, c.n⟩) hv']
      refine List.map_congr_left fun h hh => ?_
      have := sel_above true false r _ hv' h hh
      rw [List.map_cons, mvBy, if_pos (by show e + c.g + (c.o.length : Int) < h.At; omega)]
      simp only [Hunk.mk.injEq, and_true, rng]
      omega

/-- two sorted rows of hunks that do not touch are the sides of one row of pieces -/
theorem pieces : ∀ (N : Nat) (pl ql : List Hunk) (e s : Int), pl.length + ql.length ≤ N → Srt e pl → Srt (e + s) ql → NoT (newR s pl) (ql.map rng) → ∃ m, Val m ∧ pl = sel true false e m ∧ ql = sel false true (e + s) m := by
  intro N
  induction N with
  | zero =>
    intro pl ql e s hN _ _ _
    have h1 : pl = [] := List.eq_nil_of_length_eq_zero (by omega)
    have h2 : ql = [] := List.eq_nil_of_length_eq_zero (by omega)
    exact ⟨[], val_nil, h1, h2⟩
  | succ N ih =>
    intro pl ql e s hN hp hq hno
    have takeP : ∀ (h : Hunk) (pr : List Hunk), pl = h :: pr → Srt (h.At + h.Old.length + (s + gr h)) ql → ∃ m, Val m ∧ pl = sel true false e m ∧ ql = sel false true (e + s) m := by
      intro h pr hpl hq'
      subst hpl
      obtain ⟨m, m1, m2, m3⟩ := ih pr ql (h.At + h.Old.length) (s + gr h) (by simp at hN; omega) hp.2 hq' (fun x hx y hy => hno x (by rw [newR]; exact List.mem_cons_of_mem _ hx) y hy)
      refine ⟨⟨true, h.At - e, h.Old, h.New⟩ :: m, ?_, ?_, ?_⟩
      · intro c hc
        rcases List.mem_cons.1 hc with rfl | hc
        · have := hp.1; simp only; omega
        · exact m1 c hc
      · rw [sel_s (c := ⟨true, h.At - e, h.Old, h.New⟩) rfl]
        simp only
        rw [show e + (h.At - e) = h.At by omega, ← m2]
      · rw [sel_n (by simp)]
        simp only
        rw [show e + s + (h.At - e) + (h.New.length : Int) = h.At + h.Old.length + (s + gr h) by unfold gr; omega]
        exact m3
    have takeQ : ∀ (h : Hunk) (qr : List Hunk), ql = h :: qr → Srt (h.At + h.Old.length - s) pl → ∃ m, Val m ∧ pl = sel true false e m ∧ ql = sel false true (e + s) m := by
      intro h qr hql hp'
      subst hql
      have hq2 := hq.2
      rw [show h.At + (h.Old.length : Int) = h.At + h.Old.length - s + s by omega] at hq2
      obtain ⟨m, m1, m2, m3⟩ := ih pl qr (h.At + h.Old.length - s) s (by simp at hN; omega) hp' hq2 (fun x hx y hy => hno x hx y (by rw [List.map_cons]; exact List.mem_cons_of_mem _ hy))
      refine ⟨⟨false, h.At - s - e, h.Old, h.New⟩ :: m, ?_, ?_, ?_⟩
      · intro c hc
        rcases List.mem_cons.1 hc with rfl | hc
        · have := hq.1; simp only; omega
        · exact m1 c hc
      · rw [sel_o (by simp)]
        simp only
        rw [show e + (h.At - s - e) + (h.Old.length : Int) = h.At + h.Old.length - s by omega]
        exact m2
      · rw [sel_s (c := ⟨false, h.At - s - e, h.Old, h.New⟩) rfl]
        simp only
        rw [show e + s + (h.At - s - e) = h.At by omega, show h.At + (h.Old.length : Int) = h.At + h.Old.length - s + s by omega, ← m3]
    match hpl : pl, hql : ql with
    | [], [] => exact ⟨[], val_nil, rfl, rfl⟩
    | h :: pr, [] => exact takeP h pr rfl trivial
    | [], h :: qr => exact takeQ h qr rfl trivial
    | h :: pr, y :: qr =>
      have ht := hno ⟨h.At + s, h.At + s + h.New.length, gr h⟩ (by rw [newR]; simp) (rng y) (by simp)
      rcases lt_of_tch ht with h1 | h1
      · refine takeP h pr rfl ⟨?_, hq.2⟩
        have h1' : h.At + s + h.New.length < y.At := h1
        unfold gr; omega
      · refine takeQ y qr rfl ⟨?_, hp.2⟩
        have h1' : y.At + y.Old.length < h.At + s := h1
        omega

def swp (c : Pc) : Pc := ⟨!c.k, c.g, c.o, c.n⟩
theorem sel_swp (t u : Bool) : ∀ (m : List Pc) (e : Int), sel t u e (m.map swp) = sel (!t) u e m
  | [], _ => rfl
  | c :: r, e => by
    rw [List.map_cons, sel, sel]
    have : ((swp c).k = t) ↔ (c.k = !t) := by cases h : c.k <;> cases t <;> simp [swp, h]
    simp only [this]
    split
    · rw [show (swp c).g = c.g from rfl, show (swp c).o = c.o from rfl, show (swp c).n = c.n from rfl, sel_swp t u r]
    · rw [show (swp c).g = c.g from rfl, show (swp c).o = c.o from rfl, show (swp c).n = c.n from rfl, sel_swp t u r]

/-- what a commuted pair comes to -/
theorem comm_pieces {p q : Patch} (hp : (patchFault p).Code = 0) (hq : (patchFault q).Code = 0) (hm : meetB (newR 0 p.Hunks) (q.Hunks.map rng) = false) :
    ∃ m, Val m ∧ p.Hunks = sel true false (-1) m ∧ q.Hunks = sel false true (-1) m ∧ (qOf p q).Hunks = sel false false (-1) m ∧ (pOf p q).Hunks = sel true true (-1) m := by
  obtain ⟨_, g1⟩ := (patchFault_good p).1 hp
  obtain ⟨_, g2⟩ := (patchFault_good q).1 hq
  obtain ⟨m, m1, m2, m3⟩ := pieces _ p.Hunks q.Hunks (-1) 0 (Nat.le_refl _) (srt_of _ _ g1) (by rw [Int.add_zero]; exact srt_of _ _ g2) ((meet_noT _ _).1 hm)
  have hqo : (qOf p q).Hunks = sel false false (-1) m := by
    have := sel_q m (-1) 0 m1
    rw [← m2, ← m3] at this
    rw [← this]
    refine List.map_congr_left fun h _ => ?_
    simp only [mv, Int.sub_zero]
  refine ⟨m, m1, m2, by rw [m3, Int.add_zero], hqo, ?_⟩
  have := sel_p m (-1) 0 m1
  rw [← m2, ← hqo, Int.add_zero] at this
  rw [← this]
  refine List.map_congr_left fun h _ => ?_
  simp only [mv, Int.add_zero]

theorem of_pieces {p q : Patch} {m : List Pc} (hv : Val m) (hp : p.Hunks = sel true false (-1) m) (hq : q.Hunks = sel false true (-1) m) :
    meetB (newR 0 p.Hunks) (q.Hunks.map rng) = false ∧ (qOf p q).Hunks = sel false false (-1) m ∧ (pOf p q).Hunks = sel true true (-1) m := by
  have hqo : (qOf p q).Hunks = sel false false (-1) m := by
    have := sel_q m (-1) 0 hv
    rw [Int.add_zero, ← hp, ← hq] at this
    rw [← this]
    refine List.map_congr_left fun h _ => ?_
    simp only [mv, Int.sub_zero]
  refine ⟨?_, hqo, ?_⟩
  · have := sel_noT m (-1) 0 hv
    rw [Int.add_zero, ← hp, ← hq] at this
    exact (meet_noT _ _).2 this
  · have := sel_p m (-1) 0 hv
    rw [← hp, ← hqo, Int.add_zero] at this
    rw [← this]
    refine List.map_congr_left fun h _ => ?_
    simp only [mv, Int.add_zero]

/-- moved past one another, and back -/
theorem commF_back {p q : Patch} (h1 : (commF p q).2.2.2.Code = 0) (h2 : (commF p q).2.2.1 = true) : commF (commF p q).1 (commF p q).2.1 = (p, q, true, ⟨0, 0⟩) := by
  obtain ⟨a1, a2, a3, a4, a5, a6⟩ := commF_made h1 h2
  obtain ⟨m, m1, m2, m3, m4, m5⟩ := comm_pieces a1 a2 a3
  rw [a6]
  simp only
  have hv : Val (m.map swp) := fun c hc => by
    obtain ⟨x, hx, rfl⟩ := List.mem_map.1 hc
    exact m1 x hx
  obtain ⟨b1, b2, b3⟩ := of_pieces (p := qOf p q) (q := pOf p q) hv (by rw [sel_swp]; exact m4) (by rw [sel_swp]; exact m5)
  rw [sel_swp] at b2 b3
  have e1 : qOf (qOf p q) (pOf p q) = p := by
    cases p with | mk hs => exact congrArg Patch.mk (b2.trans m2.symm)
  have e2 : pOf (qOf p q) (pOf p q) = q := by
    cases q with | mk hs => exact congrArg Patch.mk (b3.trans m3.symm)
  unfold commF
  rw [e1, e2, b1]
  have : pairF (qOf p q) (pOf p q) = ⟨0, 0⟩ := by
    unfold pairF; rw [if_neg (by omega), if_neg (by omega)]
  rw [this, if_neg (by simp), if_neg (by decide), if_neg (by omega)]
end Go.Dc
