/- Joined by sub.py from texts of mine: XDcNC:ite_nn,ands,ors,tf_cond,clone_file,firstB_some,keepB,onlyF,only_f,sim_ok,pairsF,allF,pairs_len,all_len,mem_all,pairs_f,all_f,cmpS,compare_f,or3_f,cmpS_neg,cmpS_zero,L1,L1_irr,L1_trans,L1_tri,s1_ -/
import Derived.Test.YtmhjcomgbfonfaaGreatDoorDcJ0
import Derived.Test.YtmhjcomgbfonfaaGreatDoorDcR
set_option linter.unusedSimpArgs false
set_option linter.unusedVariables false
set_option maxRecDepth 4000
namespace Go.Dc
open Go

theorem ite_nn {α : Type} {p : Prop} [Decidable (¬ p)] {x y : α} (h : p) : (if ¬ p then x else y) = y := if_neg (fun h2 => h2 h)
theorem ands {p q : Prop} [Decidable p] [Decidable q] : (if decide p = true then some (decide q) else some false) = some (decide (p ∧ q)) := by by_cases h : p <;> simp [h]
theorem ors {p q : Prop} [Decidable p] [Decidable q] : (if decide p = true then some true else some (decide q)) = some (decide (p ∨ q)) := by by_cases h : p <;> simp [h]
theorem tf_cond (f : Fault) (h : f = ⟨0, 0⟩ ∨ f.Code ≠ 0) : (!(decide (f.Code = 0) && decide (f.Index = 0))) = decide (f.Code ≠ 0) := by
  rcases h with h | h
  · subst h; rfl
  · simp [h]

theorem clone_file (l : List File) (h : l.length ≤ 1000000) : api_File_ l = some l := by
  unfold api_File_
  rw [app_eq (by simp; omega), Option.bind_some, List.nil_append]
  exact nilIf_same (fun e => by rw [e])

theorem firstB_some {α : Type} {p : α → Bool} : ∀ {l : List α} {k i : Nat}, firstB p k l = some i → ∃ j, i = k + j ∧ ∃ h : j < l.length, p l[j] = true ∧ ∀ m (hm : m < l.length), m < j → p l[m] = false
  | [], k, i, h => by cases h
  | x :: r, k, i, h => by
    rw [firstB] at h
    by_cases hp : p x = true
    · rw [if_pos hp] at h
      cases h
      exact ⟨0, rfl, by simp, hp, fun m _ hm => absurd hm (by omega)⟩
    · rw [if_neg hp] at h
      obtain ⟨j, h1, h2, h3, h4⟩ := firstB_some h
      refine ⟨j + 1, by omega, by simp only [List.length_cons]; omega, h3, fun m hm hmj => ?_⟩
      cases m with
      | zero => simpa using hp
      | succ m => exact h4 m (by simp only [List.length_cons] at hm; omega) (by omega)

def keepB (b : List File) (f : File) : Bool := !hasF b f.Path
def onlyF (a b : List File) : List File := a.filter (keepB b)

theorem only_f {a b : FileTree} (ha : a.Files.length ≤ 1000) (hb : TSrt b.Files) (hbl : b.Files.length ≤ 1000) : rename_only a b = some (onlyF a.Files b.Files) := by
  unfold rename_only onlyF
  rw [clone_file _ (by omega), Option.bind_some]
  generalize a.Files = l at ha
  rw [any_loop (f := fun s => rename_only.l2 b l s) (fun k => .inl (k : Int)) (.inr ()) l (fun f => hasF b.Files f.Path) ?_ ?_, Option.bind_some]
  · cases hf : firstB (fun f => hasF b.Files f.Path) 0 l with
    | none =>
      have := firstB_none.1 hf
      rw [List.any_eq_false] at this
      have e : l.filter (keepB b.Files) = l := List.filter_eq_self.2 fun f hf => by have := this f hf; simp only [Bool.not_eq_true] at this; unfold keepB; rw [this]; rfl
      rw [e]; rfl
    | some i =>
      obtain ⟨p, hp0, hp, hh, hlo⟩ := firstB_some hf
      have : i = p := by omega
      subst this
      simp only
      unfold rename_only.j2
      rw [ite_dec, if_neg (by omega), ck_eq (by omega) (by omega), Option.bind_some]
      have hk : ∀ f, keepB b.Files f = !hasF b.Files f.Path := fun _ => rfl
      obtain ⟨⟨r1, r2⟩, e, q, hr1, hql, hlen, htk⟩ := inv_loopE (f := fun s => rename_only.l1 b s.1 s.2.1 s.2.2) (i + 1) l.length (by omega)
        (fun j (s : Int × List File) => ∃ q : Nat, s.1 = (q : Int) ∧ q < j ∧ s.2.length = l.length ∧ s.2.take q = (l.take j).filter (keepB b.Files) ∧ s.2.drop j = l.drop j)
        (fun r => ∃ q : Nat, r.1 = (q : Int) ∧ q ≤ l.length ∧ r.2.length = l.length ∧ r.2.take q = l.filter (keepB b.Files)) (by
        rintro j ⟨s1, s2⟩ _ hj ⟨q, rfl, hqj, hlen, htk, hdr⟩
        simp only at hlen htk hdr
        left
        have hj2 : j < s2.length := by omega
        have hg : s2[j] = l[j] := by
          have := List.drop_eq_getElem_cons hj2
          rw [hdr, List.drop_eq_getElem_cons hj] at this
          exact (List.cons.inj this).1.symm
        have hdr2 : s2.drop (j + 1) = l.drop (j + 1) := by
          have := List.drop_eq_getElem_cons hj2
          rw [hdr, List.drop_eq_getElem_cons hj] at this
          exact (List.cons.inj this).2.symm
        have hf2 : (l.take (j + 1)).filter (keepB b.Files) = (l.take j).filter (keepB b.Files) ++ if keepB b.Files l[j] then [l[j]] else [] := by
          rw [List.take_succ_eq_append_getElem hj, List.filter_append]
          cases h : keepB b.Files l[j] <;> simp [h]
        have hj4 : ∀ (x : Int) (w : List File), rename_only.j4 (j : Int) x w = some (.next (((j + 1 : Nat) : Int), x, w)) := by
          intro x w
          unfold rename_only.j4
          rw [ck_eq (by omega) (by omega), Option.bind_some]; rfl
        unfold rename_only.l1
        simp only
        rw [ite_dec, if_pos (by omega), at_nat hj2, Option.bind_some, Find_f hb (by omega), Option.bind_some, hg]
        simp only
        have hkj := hk l[j]
        cases hc : hasF b.Files l[j].Path
        · rw [hc] at hkj
          rw [if_pos (show (!false) = true from rfl), at_nat (by omega : q < s2.length), Option.bind_some, Option.bind_some, ck_eq (by omega) (by omega), Option.bind_some, hj4]
          refine ⟨_, rfl, q + 1, rfl, by omega, by simp only [List.length_set]; exact hlen, ?_, ?_⟩
          · simp only [Int.toNat_natCast]
            rw [hf2, hkj, List.take_succ_eq_append_getElem (by rw [List.length_set]; omega), List.take_set_of_le (Nat.le_refl _), htk, List.getElem_set_self]; rfl
          · simp only [Int.toNat_natCast]
            rw [List.drop_set_of_lt (by omega)]; exact hdr2
        · rw [hc] at hkj
          rw [if_neg (show ¬ (!true) = true by decide), hj4]
          exact ⟨_, rfl, q, rfl, by omega, hlen, by rw [hf2, hkj]; simpa using htk, hdr2⟩) (by
        rintro ⟨s1, s2⟩ ⟨q, rfl, hqj, hlen, htk, hdr⟩
        simp only at hlen htk hdr
        unfold rename_only.l1
        simp only
        rw [ite_dec, if_neg (by omega)]
        exact ⟨_, rfl, q, rfl, by omega, hlen, by rw [List.take_length] at htk; exact htk⟩) ((i : Int), l) ⟨i, rfl, by omega, rfl, by
          simp only
          rw [List.take_succ_eq_append_getElem hp, List.filter_append]
          have e1 : (l.take i).filter (keepB b.Files) = l.take i := List.filter_eq_self.2 fun f hf => by
            obtain ⟨m, hm, rfl⟩ := List.getElem_of_mem hf
            rw [List.length_take] at hm
            rw [List.getElem_take, hk, hlo m (by omega) (by omega)]; rfl
          rw [e1]
          simp [hk, hh], rfl⟩
      simp only at hr1 hql hlen htk
      have e0 : ((i : Int) + 1) = ((i + 1 : Nat) : Int) := by omega
      rw [e0, e, Option.bind_some]
      unfold rename_only.j3 rename_only.j1
      have e2 : als? r2 r1 = some ((r2.length : Int) - q) := by unfold als?; rw [hr1, if_pos (by omega)]
      simp only
      rw [e2, Option.bind_some]
      have e3 : clr? r2 r1 ((r2.length : Int) - q) (⟨ByteArray.empty, []⟩ : File) = some (r2.take q ++ List.replicate ((r2.length : Int) - q).toNat ⟨ByteArray.empty, []⟩) := by
        unfold clr?; rw [hr1, if_pos (by omega), Int.toNat_natCast]
      rw [e3, Option.bind_some, hr1, cut_eq (by omega) (by omega) (by simp; omega), Option.bind_some]
      simp only [Int.toNat_natCast, Int.toNat_zero, List.drop_zero]
      rw [List.take_append_of_le_length (by simp; omega), List.take_take, Nat.min_self, htk]
  · intro k h
    unfold rename_only.l2
    rw [ite_dec, if_pos (by omega), at_nat h, Option.bind_some, Find_f hb (by omega), Option.bind_some]
    simp only
    rw [ck_eq (by omega) (by omega), Option.bind_some]; rfl
  · unfold rename_only.l2
    rw [ite_dec, if_neg (by omega)]

theorem sim_ok {a b : List ByteArray} (ha : OkText a) (hb : OkText b) : rename_Similarity a b = some (simil a b, ⟨0, 0⟩) := by
  obtain ⟨v, f, e, ⟨h1, _, _, h2⟩ | ⟨_, h⟩⟩ := similarity_eq a b
  · rw [e, h1, h2]
  · exact absurd ⟨ha, hb⟩ h

def pairsF (pc : Int) (x : File) (bs : List File) : List Pair_rename := bs.flatMap fun y => if simil x.Lines y.Lines ≥ pc then [⟨x.Path, y.Path, simil x.Lines y.Lines⟩] else []
def allF (pc : Int) (xs bs : List File) : List Pair_rename := xs.flatMap fun x => pairsF pc x bs

theorem pairs_len (pc : Int) (x : File) : ∀ bs : List File, (pairsF pc x bs).length ≤ bs.length
  | [] => Nat.le_refl _
  | y :: r => by
    have := pairs_len pc x r
    unfold pairsF at this ⊢
    rw [List.flatMap_cons, List.length_append, List.length_cons]
    have h1 : (if simil x.Lines y.Lines ≥ pc then [(⟨x.Path, y.Path, simil x.Lines y.Lines⟩ : Pair_rename)] else []).length ≤ 1 := by split <;> simp
    omega

theorem all_len (pc : Int) (bs : List File) : ∀ xs : List File, (allF pc xs bs).length ≤ xs.length * bs.length
  | [] => by simp [allF]
  | x :: r => by
    have := all_len pc bs r
    have := pairs_len pc x bs
    unfold allF at *
    rw [List.flatMap_cons, List.length_append, List.length_cons, Nat.add_mul]
    omega

theorem mem_all {pc : Int} {xs bs : List File} {p : Pair_rename} : p ∈ allF pc xs bs ↔ ∃ x ∈ xs, ∃ y ∈ bs, simil x.Lines y.Lines ≥ pc ∧ p = ⟨x.Path, y.Path, simil x.Lines y.Lines⟩ := by
  unfold allF pairsF
  rw [List.mem_flatMap]
  constructor
  · rintro ⟨x, hx, hp⟩
    rw [List.mem_flatMap] at hp
    obtain ⟨y, hy, hp⟩ := hp
    split at hp
    · rename_i h
      rw [List.mem_singleton] at hp
      exact ⟨x, hx, y, hy, h, hp⟩
    · cases hp
  · rintro ⟨x, hx, y, hy, h, hp⟩
    refine ⟨x, hx, List.mem_flatMap.2 ⟨y, hy, ?_⟩⟩
    rw [if_pos h, hp]; simp

theorem pairs_f {pc : Int} {old newer : FileTree} {x : File} {bs : List File} (hx : OkText x.Lines) (hb : ∀ y ∈ bs, OkText y.Lines) (hl : bs.length ≤ 1000) {acc : List Pair_rename} (ha : acc.length ≤ 1000000) :
    iter (fun s => rename_Detect.l4 old newer pc x bs s.1 s.2) (0, acc) = some (acc ++ pairsF pc x bs) := by
  obtain ⟨r, e, rfl⟩ := inv_loop (f := fun s => rename_Detect.l4 old newer pc x bs s.1 s.2) bs.length (fun j s => s = acc ++ pairsF pc x (bs.take j)) (fun r => r = acc ++ pairsF pc x bs) (by
    rintro j s hj rfl
    have hlen := pairs_len pc x (bs.take j)
    rw [List.length_take] at hlen
    have hj8 : ∀ q, rename_Detect.j8 (j : Int) q = some (.next (((j + 1 : Nat) : Int), q)) := by
      intro q
      unfold rename_Detect.j8
      rw [ck_eq (by omega) (by omega), Option.bind_some]; rfl
    refine ⟨_, ?_, rfl⟩
    unfold rename_Detect.l4
    simp only
    rw [ite_dec, if_pos (by omega), at_nat hj, Option.bind_some, sim_ok hx (hb _ (List.getElem_mem hj)), Option.bind_some, ite_dec]
    have e : pairsF pc x (bs.take (j + 1)) = pairsF pc x (bs.take j) ++ if simil x.Lines bs[j].Lines ≥ pc then [⟨x.Path, bs[j].Path, simil x.Lines bs[j].Lines⟩] else [] := by
      unfold pairsF
      rw [List.take_succ_eq_append_getElem hj, List.flatMap_append]
      simp
    rw [e]
    simp only
    by_cases hc : simil x.Lines bs[j].Lines ≥ pc
    · rw [if_pos hc, if_pos hc, app_eq (by rw [List.length_append, List.length_singleton]; omega), Option.bind_some, hj8, List.append_assoc]
    · rw [if_neg hc, if_neg hc, hj8, List.append_nil]) (by
    rintro s rfl
    unfold rename_Detect.l4
    simp only
    rw [ite_dec, if_neg (by omega), List.take_length]
    exact ⟨_, rfl, rfl⟩) acc (by simp [pairsF])
  exact e

theorem all_f {pc : Int} {old newer : FileTree} (ho : TrOk old.Files) (hn : TrOk newer.Files) :
    iter (fun s => rename_Detect.l3 old newer pc (onlyF old.Files newer.Files) s.1 s.2) (0, []) = some (allF pc (onlyF old.Files newer.Files) (onlyF newer.Files old.Files)) := by
  have h1 := ho.len
  have h2 := hn.len
  have l1 : (onlyF old.Files newer.Files).length ≤ 24 := Nat.le_trans (List.length_filter_le _ _) h1
  have l2 : (onlyF newer.Files old.Files).length ≤ 24 := Nat.le_trans (List.length_filter_le _ _) h2
  have t1 : ∀ x ∈ onlyF old.Files newer.Files, OkText x.Lines := fun x hx => ho.text x (List.mem_filter.1 hx).1
  have t2 : ∀ x ∈ onlyF newer.Files old.Files, OkText x.Lines := fun x hx => hn.text x (List.mem_filter.1 hx).1
  have ho2 : rename_only newer old = some (onlyF newer.Files old.Files) := only_f (by omega) ho.srt (by omega)
  generalize onlyF newer.Files old.Files = bs at l2 t2 ho2 ⊢
  generalize onlyF old.Files newer.Files = xs at l1 t1 ⊢
  obtain ⟨r, e, rfl⟩ := inv_loop (f := fun s => rename_Detect.l3 old newer pc xs s.1 s.2) xs.length (fun j s => s = allF pc (xs.take j) bs) (fun r => r = allF pc xs bs) (by
    rintro j s hj rfl
    have hlen := all_len pc bs (xs.take j)
    rw [List.length_take] at hlen
    have hm : min j xs.length * bs.length ≤ 24 * 24 := Nat.mul_le_mul (by omega) l2
    unfold rename_Detect.l3
    simp only
    rw [ite_dec, if_pos (by omega), at_nat hj, Option.bind_some, ho2, Option.bind_some, pairs_f (t1 _ (List.getElem_mem hj)) t2 (by omega) (by omega), Option.bind_some]
    unfold rename_Detect.j7 rename_Detect.j6
    rw [ck_eq (by omega) (by omega), Option.bind_some]
    refine ⟨_, rfl, ?_⟩
    unfold allF
    rw [List.take_succ_eq_append_getElem hj, List.flatMap_append]
    simp) (by
    rintro s rfl
    unfold rename_Detect.l3
    simp only
    rw [ite_dec, if_neg (by omega), List.take_length]
    exact ⟨_, rfl, rfl⟩) [] rfl
  exact e

def cmpS (a b : ByteArray) : Int := if sLt a b = true then -1 else if a = b then 0 else 1
theorem compare_f (a b : ByteArray) : cmp_Compare a b = some (cmpS a b) := by
  unfold cmp_Compare cmp_isNaN cmpS
  simp only [decide_true, Bool.not_true, Option.bind_some, Bool.false_eq_true, if_false]
  cases h : sLt a b
  · by_cases e : a = b
    · simp [e]
    · simp [e]
  · simp

theorem or3_f (a b c : Int) : cmp_Or [a, b, c] = some (if a ≠ 0 then a else if b ≠ 0 then b else c) := by
  unfold cmp_Or
  have s0 : cmp_Or.l1 [a, b, c] 0 = if a ≠ 0 then some (.done (.inl a)) else some (.next 1) := by
    unfold cmp_Or.l1
    rw [ite_dec, if_pos (by simp), show at? [a, b, c] 0 = some a from at_nat (l := [a, b, c]) (k := 0) (by simp), Option.bind_some, ite_ndec, ck_eq (by omega) (by omega), Option.bind_some]
    by_cases h : a = 0 <;> simp [h]
  have s1 : cmp_Or.l1 [a, b, c] 1 = if b ≠ 0 then some (.done (.inl b)) else some (.next 2) := by
    unfold cmp_Or.l1
    rw [ite_dec, if_pos (by simp), show at? [a, b, c] 1 = some b from at_nat (l := [a, b, c]) (k := 1) (by simp), Option.bind_some, ite_ndec, ck_eq (by omega) (by omega), Option.bind_some]
    by_cases h : b = 0 <;> simp [h]
  have s2 : cmp_Or.l1 [a, b, c] 2 = if c ≠ 0 then some (.done (.inl c)) else some (.next 3) := by
    unfold cmp_Or.l1
    rw [ite_dec, if_pos (by simp), show at? [a, b, c] 2 = some c from at_nat (l := [a, b, c]) (k := 2) (by simp), Option.bind_some, ite_ndec, ck_eq (by omega) (by omega), Option.bind_some]
    by_cases h : c = 0 <;> simp [h]
  have s3 : cmp_Or.l1 [a, b, c] 3 = some (.done (.inr ())) := by
    unfold cmp_Or.l1
    rw [ite_dec, if_neg (by simp)]
  by_cases ha : a = 0
  case neg => rw [if_pos ha] at s0; rw [iter_done s0, Option.bind_some, if_pos ha]
  rw [ite_nn ha] at s0
  rw [iter_next s0, ite_nn ha]
  by_cases hb : b = 0
  case neg => rw [if_pos hb] at s1; rw [iter_done s1, Option.bind_some, if_pos hb]
  rw [ite_nn hb] at s1
  rw [iter_next s1, ite_nn hb]
  by_cases hc : c = 0
  case neg => rw [if_pos hc] at s2; rw [iter_done s2, Option.bind_some]
  rw [ite_nn hc] at s2
  rw [iter_next s2, iter_done s3, Option.bind_some, hc]
  rfl

theorem cmpS_neg {a b : ByteArray} : cmpS a b < 0 ↔ sLt a b = true := by
  unfold cmpS
  by_cases h : sLt a b = true
  · rw [if_pos h]; simp [h]
  · rw [if_neg h]
    by_cases e : a = b
    · rw [if_pos e]; simp [h]
    · rw [if_neg e]; simp [h]
theorem cmpS_zero {a b : ByteArray} : cmpS a b = 0 ↔ a = b := by
  unfold cmpS
  by_cases h : sLt a b = true
  · rw [if_pos h]; simp [sLt_ne h]
  · rw [if_neg h]
    by_cases e : a = b <;> simp [e]

def L1 (x y : Pair_rename) : Prop := y.percent < x.percent ∨ (y.percent = x.percent ∧ (sLt x.old_ y.old_ = true ∨ (x.old_ = y.old_ ∧ sLt x.newer y.newer = true)))

theorem L1_irr (x : Pair_rename) : ¬ L1 x x := by
  rintro (h | ⟨_, h | ⟨_, h⟩⟩)
  · omega
  · rw [sLt_irr] at h; cases h
  · rw [sLt_irr] at h; cases h
theorem L1_trans {x y z : Pair_rename} (h1 : L1 x y) (h2 : L1 y z) : L1 x z := by
  rcases h1 with h1 | ⟨e1, h1⟩
  · rcases h2 with h2 | ⟨e2, _⟩
    · exact .inl (by omega)
    · exact .inl (by omega)
  · rcases h2 with h2 | ⟨e2, h2⟩
    · exact .inl (by omega)
    · refine .inr ⟨by omega, ?_⟩
      rcases h1 with h1 | ⟨o1, h1⟩
      · rcases h2 with h2 | ⟨o2, _⟩
        · exact .inl (sLt_trans h1 h2)
        · exact .inl (o2 ▸ h1)
      · rcases h2 with h2 | ⟨o2, h2⟩
        · exact .inl (o1 ▸ h2)
        · exact .inr ⟨o1.trans o2, sLt_trans h1 h2⟩
theorem L1_tri (x y : Pair_rename) : L1 x y ∨ x = y ∨ L1 y x := by
  rcases Int.lt_trichotomy x.percent y.percent with h | h | h
  · exact .inr (.inr (.inl h))
  · rcases sLt_tri x.old_ y.old_ with h2 | h2 | h2
    · exact .inl (.inr ⟨h.symm, .inl h2⟩)
    · rcases sLt_tri x.newer y.newer with h3 | h3 | h3
      · exact .inl (.inr ⟨h.symm, .inr ⟨h2, h3⟩⟩)
      · refine .inr (.inl ?_)
        obtain ⟨a, b, c⟩ := x
        obtain ⟨a', b', c'⟩ := y
        simp only at h h2 h3
        rw [h, h2, h3]
      · exact .inr (.inr (.inr ⟨h, .inr ⟨h2.symm, h3⟩⟩))
    · exact .inr (.inr (.inr ⟨h, .inl h2⟩))
  · exact .inl (.inl h)

theorem s1_f {x y : Pair_rename} (hx : 0 ≤ x.percent ∧ x.percent ≤ 100) (hy : 0 ≤ y.percent ∧ y.percent ≤ 100) : ∃ r, rename_Detect_s1 x y = some r ∧ (r < 0 ↔ L1 x y) := by
  unfold rename_Detect_s1
  rw [ck_eq (by omega) (by omega), Option.bind_some, compare_f, Option.bind_some, compare_f, Option.bind_some, or3_f, Option.bind_some]
  refine ⟨_, rfl, ?_⟩
  unfold L1
  by_cases h1 : y.percent - x.percent = 0
  · rw [ite_nn h1]
    have he : y.percent = x.percent := by omega
    by_cases h2 : cmpS x.old_ y.old_ = 0
    · rw [ite_nn h2, cmpS_neg]
      have h2 := cmpS_zero.1 h2
      constructor
      · intro h; exact .inr ⟨he, .inr ⟨h2, h⟩⟩
      · rintro (h | ⟨_, h | ⟨_, h⟩⟩)
        · omega
        · rw [h2, sLt_irr] at h; cases h
        · exact h
    · rw [if_pos h2, cmpS_neg]
      constructor
      · intro h; exact .inr ⟨he, .inl h⟩
      · rintro (h | ⟨_, h | ⟨h, _⟩⟩)
        · omega
        · exact h
        · exact absurd (cmpS_zero.2 h) h2
  · rw [if_pos h1]
    constructor
    · intro h; exact .inl (by omega)
    · rintro (h | ⟨h, _⟩) <;> omega

theorem s1_lt {x y : Pair_rename} (hx : 0 ≤ x.percent ∧ x.percent ≤ 100) (hy : 0 ≤ y.percent ∧ y.percent ≤ 100) : ltM rename_Detect_s1 x y = true ↔ L1 x y := by
  obtain ⟨r, e, h⟩ := s1_f hx hy
  unfold ltM
  rw [e, Option.getD_some, decide_eq_true_eq]; exact h

theorem fit1 {l : List Pair_rename} (h : ∀ x ∈ l, 0 ≤ x.percent ∧ x.percent ≤ 100) : CmpFit rename_Detect_s1 l where
  some_ := fun x hx y hy => by obtain ⟨r, e, _⟩ := s1_f (h x hx) (h y hy); exact ⟨r, e⟩
  irrefl := fun x hx => by
    cases e : ltM rename_Detect_s1 x x
    · rfl
    · exact absurd ((s1_lt (h x hx) (h x hx)).1 e) (L1_irr x)
  trans := fun x hx y hy z hz h1 h2 => (s1_lt (h x hx) (h z hz)).2 (L1_trans ((s1_lt (h x hx) (h y hy)).1 h1) ((s1_lt (h y hy) (h z hz)).1 h2))
  ntrans := fun x hx y hy z hz h1 h2 => by
    cases e : ltM rename_Detect_s1 x z
    · rfl
    exfalso
    have e := (s1_lt (h x hx) (h z hz)).1 e
    have n1 : ¬ L1 x y := fun hh => by rw [(s1_lt (h x hx) (h y hy)).2 hh] at h1; cases h1
    have n2 : ¬ L1 y z := fun hh => by rw [(s1_lt (h y hy) (h z hz)).2 hh] at h2; cases h2
    rcases L1_tri x y with h3 | h3 | h3
    · exact n1 h3
    · subst h3; exact n2 e
    · exact n2 (L1_trans h3 e)
  anti := fun x hx y hy h1 h2 => by
    rcases L1_tri x y with h3 | h3 | h3
    · rw [(s1_lt (h x hx) (h y hy)).2 h3] at h1; cases h1
    · exact h3
    · rw [(s1_lt (h y hy) (h x hx)).2 h3] at h2; cases h2

theorem s3_lt (x y : Arr2_ByteArray) : ltM rename_Detect_s3 x y = true ↔ sLt x.e0 y.e0 = true := by
  unfold ltM rename_Detect_s3
  rw [compare_f, Option.bind_some, Option.getD_some, decide_eq_true_eq]; exact cmpS_neg

theorem fit3 {l : List Arr2_ByteArray} (h : ∀ x ∈ l, ∀ y ∈ l, x.e0 = y.e0 → x = y) : CmpFit rename_Detect_s3 l where
  some_ := fun x _ y _ => by unfold rename_Detect_s3; rw [compare_f]; exact ⟨_, rfl⟩
  irrefl := fun x _ => by
    cases e : ltM rename_Detect_s3 x x
    · rfl
    · have := (s3_lt x x).1 e; rw [sLt_irr] at this; cases this
  trans := fun x _ y _ z _ h1 h2 => (s3_lt x z).2 (sLt_trans ((s3_lt x y).1 h1) ((s3_lt y z).1 h2))
  ntrans := fun x _ y _ z _ h1 h2 => by
    cases e : ltM rename_Detect_s3 x z
    · rfl
    exfalso
    have e := (s3_lt x z).1 e
    rcases sLt_tri x.e0 y.e0 with h3 | h3 | h3
    · rw [(s3_lt x y).2 h3] at h1; cases h1
    · rw [h3] at e; rw [(s3_lt y z).2 e] at h2; cases h2
    · rw [(s3_lt y z).2 (sLt_trans h3 e)] at h2; cases h2
  anti := fun x hx y hy h1 h2 => by
    rcases sLt_tri x.e0 y.e0 with h3 | h3 | h3
    · rw [(s3_lt x y).2 h3] at h1; cases h1
    · exact h x hx y hy h3
    · rw [(s3_lt y x).2 h3] at h2; cases h2

def hitB (p : Pair_rename) (q : Arr2_ByteArray) : Bool := decide (q.e0 = p.old_ ∨ q.e1 = p.newer)
def stepG (out : List Arr2_ByteArray) (p : Pair_rename) : List Arr2_ByteArray := if out.any (hitB p) then out else out ++ [⟨p.old_, p.newer⟩]

structure Grd (out : List Arr2_ByteArray) (ps : List Pair_rename) : Prop where
  frm : ∀ q ∈ out, ∃ p ∈ ps, q = ⟨p.old_, p.newer⟩
  dis : out.Pairwise fun a b => a.e0 ≠ b.e0 ∧ a.e1 ≠ b.e1
  hit : ∀ p ∈ ps, ∃ q ∈ out, q.e0 = p.old_ ∨ q.e1 = p.newer
  len : out.length ≤ ps.length

theorem Grd.step {out : List Arr2_ByteArray} {ps : List Pair_rename} (h : Grd out ps) (p : Pair_rename) : Grd (stepG out p) (ps ++ [p]) := by
  unfold stepG
  by_cases hc : out.any (hitB p) = true
  · rw [if_pos hc]
    refine ⟨fun q hq => ?_, h.dis, fun r hr => ?_, by rw [List.length_append]; have := h.len; omega⟩
    · obtain ⟨r, hr, e⟩ := h.frm q hq
      exact ⟨r, List.mem_append_left _ hr, e⟩
    · rcases List.mem_append.1 hr with hr | hr
      · exact h.hit r hr
      · rw [List.mem_singleton] at hr
        subst hr
        rw [List.any_eq_true] at hc
        obtain ⟨q, hq, hh⟩ := hc
        exact ⟨q, hq, by unfold hitB at hh; simpa using hh⟩
  · rw [if_neg hc]
    have hno : ∀ q ∈ out, q.e0 ≠ p.old_ ∧ q.e1 ≠ p.newer := by
      intro q hq
      have : hitB p q ≠ true := fun hh => hc (List.any_eq_true.2 ⟨q, hq, hh⟩)
      unfold hitB at this
      exact ⟨fun e => this (decide_eq_true (.inl e)), fun e => this (decide_eq_true (.inr e))⟩
    refine ⟨fun q hq => ?_, ?_, fun r hr => ?_, by rw [List.length_append, List.length_append, List.length_singleton, List.length_singleton]; have := h.len; omega⟩
    · rcases List.mem_append.1 hq with hq | hq
      · obtain ⟨r, hr, e⟩ := h.frm q hq
        exact ⟨r, List.mem_append_left _ hr, e⟩
      · rw [List.mem_singleton] at hq
        exact ⟨p, by simp, hq⟩
    · rw [List.pairwise_append]
      refine ⟨h.dis, by simp, fun a ha b hb => ?_⟩
      rw [List.mem_singleton] at hb
      subst hb
      exact hno a ha
    · rcases List.mem_append.1 hr with hr | hr
      · obtain ⟨q, hq, hh⟩ := h.hit r hr
        exact ⟨q, List.mem_append_left _ hq, hh⟩
      · rw [List.mem_singleton] at hr
        subst hr
        exact ⟨⟨r.old_, r.newer⟩, by simp, .inl rfl⟩

theorem greedy_f {old newer : FileTree} {ps : List Pair_rename} (hl : ps.length ≤ 1000) : ∃ out, iter (fun s => rename_Detect.l1 old newer ps s.1 s.2) (0, []) = some out ∧ out = ps.foldl stepG [] ∧ Grd out ps := by
  obtain ⟨r, e, h1, h2⟩ := inv_loop (f := fun s => rename_Detect.l1 old newer ps s.1 s.2) ps.length (fun j s => s = (ps.take j).foldl stepG [] ∧ Grd s (ps.take j)) (fun r => r = ps.foldl stepG [] ∧ Grd r ps) (by
    rintro j s hj ⟨h1, h2⟩
    have hsl := h2.len
    rw [List.length_take] at hsl
    have hj3 : ∀ q, rename_Detect.j3 (j : Int) q = some (.next (((j + 1 : Nat) : Int), q)) := by
      intro q
      unfold rename_Detect.j3
      rw [ck_eq (by omega) (by omega), Option.bind_some]; rfl
    refine ⟨stepG s ps[j], ?_, ?_, ?_⟩
    · unfold rename_Detect.l1
      simp only
      rw [ite_dec, if_pos (by omega), at_nat hj, Option.bind_some]
      rw [any_loop (f := fun t => rename_Detect.l2 old newer s ps[j] t) (fun k => .inl (k : Int)) (.inr ()) s (hitB ps[j]) ?_ ?_, Option.bind_some]
      · unfold stepG
        cases hf : firstB (hitB ps[j]) 0 s with
        | none =>
          have := firstB_none.1 hf
          rw [this, if_neg Bool.false_ne_true]
          simp only
          unfold rename_Detect.j5 rename_Detect.j4
          rw [if_pos (by simp), app_eq (by rw [List.length_singleton]; omega), Option.bind_some, hj3]
        | some i =>
          have ha : s.any (hitB ps[j]) = true := by
            obtain ⟨m, _, hm, hh, _⟩ := firstB_some hf
            exact List.any_eq_true.2 ⟨_, List.getElem_mem hm, hh⟩
          rw [ha, if_pos rfl]
          simp only
          unfold rename_Detect.j4
          rw [if_neg (by simp), hj3]
      · intro k h
        unfold rename_Detect.l2
        rw [ite_dec, if_pos (by omega), at_nat h, Option.bind_some, ors, Option.bind_some, ck_eq (by omega) (by omega), Option.bind_some]
        rfl
      · unfold rename_Detect.l2
        rw [ite_dec, if_neg (by omega)]
    · rw [List.take_succ_eq_append_getElem hj, List.foldl_append, ← h1]; rfl
    · rw [List.take_succ_eq_append_getElem hj]; exact h2.step _) (by
    rintro s ⟨h1, h2⟩
    rw [List.take_length] at h1 h2
    unfold rename_Detect.l1
    simp only
    rw [ite_dec, if_neg (by omega)]
    exact ⟨_, rfl, h1, h2⟩) [] ⟨rfl, ⟨by simp, by simp, by simp, by simp⟩⟩
  exact ⟨r, e, h1, h2⟩

structure Det (old newer : FileTree) (pc : Int) (out : List Arr2_ByteArray) : Prop where
  o : TrOk old.Files
  n : TrOk newer.Files
  len : out.length ≤ 1000
  frm : ∀ q ∈ out, ∃ x ∈ onlyF old.Files newer.Files, ∃ y ∈ onlyF newer.Files old.Files, simil x.Lines y.Lines ≥ pc ∧ q = ⟨x.Path, y.Path⟩
  dis : out.Pairwise fun a b => a.e0 ≠ b.e0 ∧ a.e1 ≠ b.e1
  hit : ∀ x ∈ onlyF old.Files newer.Files, ∀ y ∈ onlyF newer.Files old.Files, simil x.Lines y.Lines ≥ pc → ∃ q ∈ out, q.e0 = x.Path ∨ q.e1 = y.Path

theorem has_iff {l : List File} {p : ByteArray} : hasF l p = true ↔ ∃ f ∈ l, f.Path = p := by
  unfold hasF
  rw [List.any_eq_true]
  exact ⟨fun ⟨f, h1, h2⟩ => ⟨f, h1, by simpa using h2⟩, fun ⟨f, h1, h2⟩ => ⟨f, h1, by simpa using h2⟩⟩

theorem only_mem {a b : List File} {x : File} : x ∈ onlyF a b ↔ x ∈ a ∧ hasF b x.Path = false := by
  unfold onlyF keepB
  rw [List.mem_filter]
  simp

theorem pairs_refl (l : List Arr2_ByteArray) (h : l.length ≤ 1000000) : changeforgeequal_StringPairs l l = some true := by
  unfold changeforgeequal_StringPairs
  rw [if_neg (by simp), scan0 l (fun _ _ => (Option.none : Option Bool)) ?_ ?_, Option.bind_some]
  · have : scanO (fun _ _ => (Option.none : Option Bool)) 0 l = Option.none := by rw [scanO_none]; intro j hj; rfl
    rw [this]; rfl
  · intro k hk _
    unfold changeforgeequal_StringPairs.l1
    rw [ite_dec, if_pos (by omega), at_nat hk, Option.bind_some, Option.bind_some, if_neg (by simp), ck_eq (by omega) (by omega), Option.bind_some]; rfl
  · unfold changeforgeequal_StringPairs.l1
    rw [ite_dec, if_neg (by omega)]
end Go.Dc
