/- Replicated sequences: merging, on both sides. -/
import Derived.Test.YtibigfejalemjaaDcGE
set_option linter.unusedSimpArgs false
set_option linter.unusedVariables false
namespace Go.Dc
open Go

theorem sameO_iff {x o : SeqOp} : sameO x o = true ↔ okey x = okey o := by unfold sameO okey; simp [Prod.ext_iff]

theorem okey_nd {l : List SeqOp} (h : (l.map okey).Nodup) {x y : SeqOp} (hx : x ∈ l) (hy : y ∈ l) (hk : okey x = okey y) : x = y := by
  induction l with
  | nil => cases hx
  | cons z r ih =>
    rw [List.map_cons, List.nodup_cons] at h
    rcases List.mem_cons.1 hx with hx1 | hx1
    · rcases List.mem_cons.1 hy with hy1 | hy1
      · rw [hx1, hy1]
      · exact absurd (by rw [← hx1, hk]; exact List.mem_map_of_mem hy1) h.1
    · rcases List.mem_cons.1 hy with hy1 | hy1
      · exact absurd (by rw [← hy1, ← hk]; exact List.mem_map_of_mem hx1) h.1
      · exact ih h.2 hx1 hy1

theorem Val.ok {ops : List SeqOp} (h : Val ops) : (ops.map okey).Nodup := h.nd

/-- equality of operations, field by field -/
theorem eqO (x y : SeqOp) : (decide (x.Delete = y.Delete) && (decide (x.Replica = y.Replica) && (decide (x.Counter = y.Counter) && (decide (x.AfterReplica = y.AfterReplica) && (decide (x.AfterCounter = y.AfterCounter) && decide (x.Line = y.Line)))))) = true ↔ x = y := by
  obtain ⟨a, b, c, d, e, f⟩ := x
  obtain ⟨a', b', c', d', e', f'⟩ := y
  simp only [Bool.and_eq_true, decide_eq_true_eq, SeqOp.mk.injEq]

def neO (x y : SeqOp) : Bool := !(decide (x.Delete = y.Delete) && (decide (x.Replica = y.Replica) && (decide (x.Counter = y.Counter) && (decide (x.AfterReplica = y.AfterReplica) && (decide (x.AfterCounter = y.AfterCounter) && decide (x.Line = y.Line))))))
theorem neO_iff {x y : SeqOp} : neO x y = false ↔ x = y := by unfold neO; rw [Bool.not_eq_false', eqO]

/-- an operation that the other side has otherwise -/
def clash (a : List SeqOp) (o : SeqOp) : Bool := a.any fun x => sameO x o && neO x o
def known (a : List SeqOp) (o : SeqOp) : Bool := a.any fun x => sameO x o
def news (a b : List SeqOp) : List SeqOp := b.filter fun o => !known a o

noncomputable def uni (a b : List SeqOp) : List SeqOp × Fault :=
  if (seqFault a).Code ≠ 0 then ([], seqFault a)
  else if (seqFault b).Code ≠ 0 then ([], ⟨(seqFault b).Code, -2⟩)
  else match scn (fun k o => if clash a o then some (([], ⟨19, (k : Int)⟩) : List SeqOp × Fault) else Option.none) 0 b with
    | some f => f
    | Option.none => if (a ++ news a b).length > 60 then ([], ⟨10, -1⟩) else ((a ++ news a b).mergeSort (fun x y => !oLt y x), ⟨0, 0⟩)

theorem mcmp_f (x y : SeqOp) : ∃ c, sequence_Merge_s2 x y = some c ∧ decide (c < 0) = oLt x y := by
  unfold sequence_Merge_s2 sequence_own
  simp only [Option.bind_some, compare_f]
  rw [show ((x.Counter, x.Replica) : K2) = own x from rfl, show ((y.Counter, y.Replica) : K2) = own y from rfl]
  have h0 := kcmp_zero (own x) (own y)
  have hn := kcmp_neg (own x) (own y)
  unfold oLt
  by_cases h : own x = own y
  · rw [h, decide_eq_true rfl] at h0
    rw [h, kLt_irr] at hn
    rw [h, kLt_irr]
    rw [h0]
    cases hx : x.Delete <;> cases hy : y.Delete <;> simp_all
  · rw [decide_eq_false h] at h0
    rw [h0]
    refine ⟨_, rfl, ?_⟩
    rw [hn, decide_eq_false h]; simp

theorem mlt (x y : SeqOp) : ltM sequence_Merge_s2 x y = oLt x y := by
  obtain ⟨c, h1, h2⟩ := mcmp_f x y
  unfold ltM; rw [h1, Option.getD_some, h2]

theorem mfit {l : List SeqOp} (hn : (l.map okey).Nodup) : CmpFit sequence_Merge_s2 l := by
  refine ⟨fun x _ y _ => (mcmp_f x y).imp fun _ h => h.1, fun x _ => by rw [mlt, oLt_irr], fun x _ y _ z _ h1 h2 => ?_, fun x _ y _ z _ h1 h2 => ?_, fun x hx y hy h1 h2 => ?_⟩
  · rw [mlt] at *; exact oLt_trans h1 h2
  · rw [mlt] at *; exact oLt_nt h1 h2
  · rw [mlt] at *
    rcases oLt_tri x y with h | h | h
    · rw [h] at h1; cases h1
    · exact okey_nd hn hx hy h
    · rw [h] at h2; cases h2

theorem msort {l : List SeqOp} (hn : (l.map okey).Nodup) (hl : l.length ≤ 1000) : sortM sequence_Merge_s2 l = some (l.mergeSort fun x y => !oLt y x) := by
  rw [sortM_eq (mfit hn) (by omega)]
  congr 2; funext x y; rw [mlt]

theorem osrt {l : List SeqOp} (hn : (l.map okey).Nodup) : Srt (l.mergeSort fun x y => !oLt y x) := by
  have h1 := sortM_pw (mfit hn)
  have e : (fun x y : SeqOp => !ltM sequence_Merge_s2 y x) = fun x y => !oLt y x := by funext x y; rw [mlt]
  rw [e] at h1
  have hn2 : ((l.mergeSort fun x y => !oLt y x).map okey).Nodup := ((List.mergeSort_perm l _).map okey).nodup_iff.2 hn
  rw [List.nodup_iff_pairwise_ne, List.pairwise_map] at hn2
  refine (h1.and hn2).imp fun {a b} hab => ?_
  obtain ⟨h3, h4⟩ := hab
  rw [mlt] at h3
  rcases oLt_tri a b with h | h | h
  · exact h
  · exact absurd h h4
  · rw [h] at h3; cases h3

theorem news_nd {a b : List SeqOp} (ha : (a.map okey).Nodup) (hb : (b.map okey).Nodup) : ((a ++ news a b).map okey).Nodup := by
  rw [List.map_append, List.nodup_append]
  refine ⟨ha, hb.sublist (List.Sublist.map _ List.filter_sublist), ?_⟩
  intro k hk k' hk' e
  subst e
  obtain ⟨x, hx, rfl⟩ := List.mem_map.1 hk
  obtain ⟨y, hy, he⟩ := List.mem_map.1 hk'
  have h1 := (List.mem_filter.1 hy).2
  unfold known at h1
  rw [Bool.not_eq_true', List.any_eq_false] at h1
  exact h1 x hx (sameO_iff.2 he.symm)

theorem news_take {a b : List SeqOp} {k : Nat} (hk : k < b.length) : news a (b.take (k + 1)) = news a (b.take k) ++ if known a b[k] then [] else [b[k]] := by
  unfold news
  rw [filter_take _ hk]
  cases known a b[k] <;> rfl

theorem news_len (a b : List SeqOp) : (news a b).length ≤ b.length := List.length_filter_le _ _

theorem firstB_some {α : Type} {p : α → Bool} : ∀ {l : List α} {k j : Nat}, firstB p k l = some j → ∃ i, ∃ h : i < l.length, j = k + i ∧ p l[i] = true
  | [], _, _, h => by cases h
  | x :: r, k, j, h => by
    rw [firstB] at h
    by_cases hp : p x = true
    · rw [if_pos hp] at h; cases h; exact ⟨0, by simp, rfl, hp⟩
    · rw [if_neg hp] at h
      obtain ⟨i, hi, rfl, h2⟩ := firstB_some h
      exact ⟨i + 1, by simpa using hi, by omega, by simpa using h2⟩

theorem Merge_f (a b : List SeqOp) : sequence_Merge a b = some (uni a b) := by
  unfold sequence_Merge uni
  rw [Validate_f, Option.bind_some]
  rcases seqFault_cases a with ⟨h1, hva⟩ | ⟨h1, _⟩
  rotate_left
  · rw [if_pos h1, if_pos (by simp [h1])]
  rw [h1]
  simp only [decide_true, Bool.and_self, Bool.not_true, Bool.false_eq_true, if_false, ne_eq, not_true_eq_false]
  rw [Validate_f, Option.bind_some]
  rcases seqFault_cases b with ⟨h2, hvb⟩ | ⟨h2, _⟩
  rotate_left
  · rw [if_pos h2, if_pos (by simp [h2])]
  rw [h2]
  simp only [decide_true, Bool.and_self, Bool.not_true, Bool.false_eq_true, if_false, not_true_eq_false]
  have hla := hva.len
  have hlb := hvb.len
  have hclone : api_SeqOp_ a = some a := by
    unfold api_SeqOp_
    by_cases hn : a = []
    · subst hn
      refine nilIf_same fun _ => ?_
      rw [app_eq (by simp)]; rfl
    · rw [nilIf_ne hn, app_eq (by simp only [List.length_nil]; omega), Option.bind_some]; rfl
  rw [hclone, Option.bind_some]
  obtain ⟨r, hr, hQ⟩ := inv_loopE (f := fun s : Int × List SeqOp => sequence_Merge.l1 a b s.1 s.2) 0 b.length (Nat.zero_le _)
    (fun k out => (∀ j (hj : j < b.length), j < k → clash a b[j] = false) ∧ out = a ++ news a (b.take k))
    (fun r => (∃ f, r = .inl f ∧ scn (fun k o => if clash a o then some (([], ⟨19, (k : Int)⟩) : List SeqOp × Fault) else Option.none) 0 b = some f) ∨
      (r = .inr (a ++ news a b) ∧ ∀ j (hj : j < b.length), clash a b[j] = false))
    (by
      rintro k out _ hk ⟨hp, rfl⟩
      unfold sequence_Merge.l1
      simp only
      rw [ite_dec, if_pos (by omega), at_nat hk, Option.bind_some]
      have hidx := any_loop (f := fun s => sequence_Merge.l2 a b[k] s) (fun i => (.inl (i : Int) : Int ⊕ Unit)) (.inr ()) a (fun x => sameO x b[k])
        (fun i hi => by
          unfold sequence_Merge.l2 sequence_own
          simp (disch := omega) only [decide_eq_true_eq, if_pos, at_nat hi, Option.bind_some, ck_eq]
          have e1 : (if a[i].Delete = b[k].Delete then some (decide (a[i].Counter = b[k].Counter) && decide (a[i].Replica = b[k].Replica)) else some false) = some (sameO a[i] b[k]) := by
            unfold sameO own
            by_cases h : a[i].Delete = b[k].Delete
            · rw [if_pos h]; congr 1; rw [Bool.eq_iff_iff]; simp [Prod.ext_iff, h]
            · rw [if_neg h]; simp [h]
          rw [e1, Option.bind_some]; rfl)
        (by unfold sequence_Merge.l2; rw [ite_dec, if_neg (by omega)])
      rw [hidx, Option.bind_some]
      have hnl : (news a (b.take k)).length ≤ 60 := Nat.le_trans (news_len _ _) (by rw [List.length_take]; omega)
      cases hf : firstB (fun x => sameO x b[k]) 0 a with
      | none =>
        have hkn : known a b[k] = false := firstB_none.1 hf
        have hcl : clash a b[k] = false := by
          unfold clash known at *
          rw [List.any_eq_false] at hkn ⊢
          intro x hx; have := hkn x hx; simp [this]
        simp only
        unfold sequence_Merge.j4 sequence_Merge.j3 sequence_Merge.j2
        rw [ite_dec, if_pos (by omega), app_eq (by simp only [List.length_append, List.length_cons, List.length_nil]; omega), Option.bind_some]
        simp (disch := omega) only [ck_eq, Option.bind_some]
        refine .inl ⟨_, rfl, fun j hj hjk => ?_, ?_⟩
        · by_cases he : j = k
          · subst he; exact hcl
          · exact hp j hj (by omega)
        · rw [news_take hk, hkn]; simp
      | some i0 =>
        obtain ⟨i, hi, rfl, hs⟩ := firstB_some hf
        have hkn : known a b[k] = true := List.any_eq_true.2 ⟨a[i], List.getElem_mem _, hs⟩
        have hcl : clash a b[k] = neO a[i] b[k] := by
          cases hne : neO a[i] b[k] with
          | true => exact List.any_eq_true.2 ⟨a[i], List.getElem_mem _, by rw [hs, hne]; rfl⟩
          | false =>
            unfold clash
            rw [List.any_eq_false]
            intro x hx
            simp only [Bool.and_eq_true, not_and, Bool.not_eq_true]
            intro hx2
            have : x = a[i] := okey_nd hva.ok hx (List.getElem_mem _) ((sameO_iff.1 hx2).trans (sameO_iff.1 hs).symm)
            rw [this]; exact hne
        simp only
        unfold sequence_Merge.j3 sequence_Merge.j2
        rw [ite_dec, if_neg (by omega), show ((0 + i : Nat) : Int) = (i : Int) by omega, at_nat hi, Option.bind_some]
        rw [show (!(decide (a[i].Delete = b[k].Delete) && (decide (a[i].Replica = b[k].Replica) && (decide (a[i].Counter = b[k].Counter) && (decide (a[i].AfterReplica = b[k].AfterReplica) && (decide (a[i].AfterCounter = b[k].AfterCounter) && decide (a[i].Line = b[k].Line))))))) = neO a[i] b[k] from rfl, ← hcl]
        cases hc : clash a b[k] with
        | true =>
          rw [if_pos rfl]
          refine .inr ⟨_, rfl, .inl ⟨_, rfl, ?_⟩⟩
          exact scn_at k hk (fun j hj hjk => by rw [hp j hj hjk]; rfl) (by rw [hc, if_pos rfl, Nat.zero_add])
        | false =>
          rw [if_neg (by decide)]
          simp (disch := omega) only [ck_eq, Option.bind_some]
          refine .inl ⟨_, rfl, fun j hj hjk => ?_, ?_⟩
          · by_cases he : j = k
            · subst he; exact hc
            · exact hp j hj (by omega)
          · rw [news_take hk, hkn]; simp)
    (by
      rintro out ⟨hp, rfl⟩
      unfold sequence_Merge.l1
      rw [ite_dec, if_neg (by omega), List.take_length]
      exact ⟨_, rfl, .inr ⟨rfl, fun j hj => hp j hj hj⟩⟩)
    a ⟨fun j _ h => absurd h (by omega), by simp [news]⟩
  rw [show (((0 : Nat) : Int), a) = (0, a) from rfl] at hr
  rw [hr, Option.bind_some]
  rcases hQ with ⟨f, rfl, hs⟩ | ⟨rfl, hc⟩
  · rw [hs]
  · have hs : scn (fun k o => if clash a o then some (([], ⟨19, (k : Int)⟩) : List SeqOp × Fault) else Option.none) 0 b = Option.none := by
      rw [scn_none]; intro j hj; rw [hc j hj]; rfl
    rw [hs]
    simp only
    unfold sequence_Merge.j1
    rw [ite_dec]
    by_cases h60 : (a ++ news a b).length > 60
    · rw [if_pos (by omega), if_pos h60]
    · rw [if_neg (by omega), if_neg h60, msort (news_nd hva.ok hvb.ok) (by omega)]; rfl

theorem Union_f (a b : List SeqOp) : changeforgeref2_Union a b = some (uni a b) := by
  unfold changeforgeref2_Union uni changeforgeref1_At
  rw [SeqFault_f, Option.bind_some]
  rw [ite_ndec]
  rcases seqFault_cases a with ⟨h1, hva⟩ | ⟨h1, _⟩
  rotate_left
  · rw [if_pos h1, if_neg h1]
  rw [h1]
  simp only [if_true, ne_eq, not_true_eq_false, if_false]
  rw [SeqFault_f, Option.bind_some]
  rw [ite_ndec]
  rcases seqFault_cases b with ⟨h2, hvb⟩ | ⟨h2, _⟩
  rotate_left
  · rw [if_pos h2, if_neg h2]; rfl
  rw [h2]
  simp only [if_true, not_true_eq_false, if_false]
  have hla := hva.len
  have hlb := hvb.len
  rw [app_eq (by simp only [List.length_nil]; omega), Option.bind_some, List.nil_append]
  obtain ⟨r, hr, hQ⟩ := inv_loopE (f := fun s : Int × List SeqOp => changeforgeref2_Union.l1 a b s.1 s.2) 0 b.length (Nat.zero_le _)
    (fun k out => (∀ j (hj : j < b.length), j < k → clash a b[j] = false) ∧ out = a ++ news a (b.take k))
    (fun r => (∃ f, r = .inl f ∧ scn (fun k o => if clash a o then some (([], ⟨19, (k : Int)⟩) : List SeqOp × Fault) else Option.none) 0 b = some f) ∨
      (r = .inr (a ++ news a b) ∧ ∀ j (hj : j < b.length), clash a b[j] = false))
    (by
      rintro k out _ hk ⟨hp, rfl⟩
      unfold changeforgeref2_Union.l1
      simp only
      rw [ite_dec, if_pos (by omega)]
      have hin := exit_loop (f := fun s : Int × Bool => changeforgeref2_Union.l2 a b (k : Int) s.1 s.2) a (fun x => sameO x b[k] && neO x b[k]) (fun t x => t || sameO x b[k]) (.inl ([], ⟨19, (k : Int)⟩)) (fun t => .inr t)
        (fun i hi t => by
          unfold changeforgeref2_Union.l2 changeforgeref2_Union.j4 changeforgeref1_At
          simp (disch := omega) only [decide_eq_true_eq, if_pos, at_nat hi, at_nat hk, Option.bind_some, Same_f, ck_eq]
          by_cases h : own a[i] = own b[k]
          · by_cases hd : a[i].Delete = b[k].Delete
            · have hs : sameO a[i] b[k] = true := by unfold sameO; simp [h, hd]
              simp only [h, decide_true, Bool.not_true, Bool.false_eq_true, if_false, Option.bind_some, hs, Bool.true_and, Bool.or_true]
              rw [decide_eq_true hd]
              simp only [Bool.not_true, Bool.false_eq_true, if_false, Bool.true_and]
              rw [show neO a[i] b[k] = !(decide (a[i].Replica = b[k].Replica) && (decide (a[i].Counter = b[k].Counter) && (decide (a[i].AfterReplica = b[k].AfterReplica) && (decide (a[i].AfterCounter = b[k].AfterCounter) && decide (a[i].Line = b[k].Line))))) by unfold neO; rw [decide_eq_true hd, Bool.true_and]]
              rfl
            · have hs : sameO a[i] b[k] = false := by unfold sameO; simp [hd]
              simp only [h, decide_true, Bool.not_true, Bool.false_eq_true, if_false, Option.bind_some, hs, Bool.false_and, Bool.or_false]
              rw [decide_eq_false hd]
              simp only [Bool.not_false, if_true]
              rfl
          · have hs : sameO a[i] b[k] = false := by unfold sameO; simp [h]
            simp only [h, decide_false, Bool.not_false, if_true, Option.bind_some, hs, Bool.false_and, Bool.or_false, Bool.false_eq_true, if_false]
            rfl)
        (fun t => by unfold changeforgeref2_Union.l2; rw [ite_dec, if_neg (by omega)]) false
      rw [hin, Option.bind_some]
      rw [show (a.any fun x => sameO x b[k] && neO x b[k]) = clash a b[k] from rfl, foldl_or, Bool.false_or, show (a.any fun x => sameO x b[k]) = known a b[k] from rfl]
      have hnl : (news a (b.take k)).length ≤ 60 := Nat.le_trans (news_len _ _) (by rw [List.length_take]; omega)
      cases hc : clash a b[k] with
      | true =>
        rw [if_pos rfl]
        refine .inr ⟨_, rfl, .inl ⟨_, rfl, ?_⟩⟩
        exact scn_at k hk (fun j hj hjk => by rw [hp j hj hjk]; rfl) (by rw [hc, if_pos rfl, Nat.zero_add])
      | false =>
        rw [if_neg (by decide)]
        simp only
        have hpp : ∀ j (hj : j < b.length), j < k + 1 → clash a b[j] = false := fun j hj hjk => by
          by_cases he : j = k
          · subst he; exact hc
          · exact hp j hj (by omega)
        unfold changeforgeref2_Union.j3 changeforgeref2_Union.j2
        cases hkn : known a b[k] with
        | true =>
          simp (disch := omega) only [Bool.not_true, Bool.false_eq_true, if_false, ck_eq, Option.bind_some]
          refine .inl ⟨_, rfl, hpp, ?_⟩
          rw [news_take hk, hkn]; simp
        | false =>
          simp (disch := omega) only [Bool.not_false, if_true, at_nat hk, Option.bind_some]
          rw [app_eq (by simp only [List.length_append, List.length_cons, List.length_nil]; omega), Option.bind_some]
          simp (disch := omega) only [ck_eq, Option.bind_some]
          refine .inl ⟨_, rfl, hpp, ?_⟩
          rw [news_take hk, hkn]; simp)
    (by
      rintro out ⟨hp, rfl⟩
      unfold changeforgeref2_Union.l1
      rw [ite_dec, if_neg (by omega), List.take_length]
      exact ⟨_, rfl, .inr ⟨rfl, fun j hj => hp j hj hj⟩⟩)
    a ⟨fun j _ h => absurd h (by omega), by simp [news]⟩
  rw [show (((0 : Nat) : Int), a) = (0, a) from rfl] at hr
  rw [hr, Option.bind_some]
  rcases hQ with ⟨f, rfl, hs⟩ | ⟨rfl, hc⟩
  · rw [hs]
  · have hs : scn (fun k o => if clash a o then some (([], ⟨19, (k : Int)⟩) : List SeqOp × Fault) else Option.none) 0 b = Option.none := by
      rw [scn_none]; intro j hj; rw [hc j hj]; rfl
    rw [hs]
    simp only
    unfold changeforgeref2_Union.j1 changeforgeref1_At
    rw [ite_dec]
    by_cases h60 : (a ++ news a b).length > 60
    · rw [if_pos (by omega), if_pos h60]; rfl
    · rw [if_neg (by omega), if_neg h60]
      have hnd := news_nd hva.ok hvb.ok
      obtain ⟨s, h3, h4, h5⟩ := Sorted_f (a ++ news a b) (by omega)
      rw [h3, Option.bind_some]
      rw [srt_uniq (h5 hnd) (osrt hnd) fun o => by rw [h4.mem_iff, (List.mergeSort_perm _ _).mem_iff]]

/-! ## what a merge holds -/
structure MergeOk (a b : List SeqOp) : Prop where
  va : Val a
  vb : Val b
  cl : ∀ o ∈ b, ∀ x ∈ a, okey x = okey o → x = o
  len : (a ++ news a b).length ≤ 60

theorem clash_none {a b : List SeqOp} : scn (fun k o => if clash a o then some (([], ⟨19, (k : Int)⟩) : List SeqOp × Fault) else Option.none) 0 b = Option.none ↔ ∀ o ∈ b, ∀ x ∈ a, okey x = okey o → x = o := by
  rw [scn_none]
  constructor
  · intro h o ho x hx hk
    obtain ⟨j, hj, rfl⟩ := List.getElem_of_mem ho
    have := h j hj
    by_cases hc : clash a b[j] = true
    · rw [if_pos hc] at this; cases this
    · unfold clash at hc
      rw [Bool.not_eq_true, List.any_eq_false] at hc
      have := hc x hx
      rw [sameO_iff.2 hk, Bool.true_and, Bool.not_eq_true, neO_iff] at this
      exact this
  · intro h j hj
    rw [if_neg]
    intro hc
    unfold clash at hc
    rw [List.any_eq_true] at hc
    obtain ⟨x, hx, h2⟩ := hc
    rw [Bool.and_eq_true] at h2
    have := neO_iff.2 (h _ (List.getElem_mem hj) x hx (sameO_iff.1 h2.1))
    rw [this] at h2; cases h2.2

theorem uni_ok {a b : List SeqOp} : (uni a b).2.Code = 0 ↔ MergeOk a b := by
  unfold uni
  rcases seqFault_cases a with ⟨h1, hva⟩ | ⟨h1, hva⟩
  rotate_left
  · rw [if_pos h1]; exact ⟨fun h => absurd h h1, fun h => absurd h.va hva⟩
  rw [if_neg (by simp [h1])]
  rcases seqFault_cases b with ⟨h2, hvb⟩ | ⟨h2, hvb⟩
  rotate_left
  · rw [if_pos h2]; exact ⟨fun h => absurd h h2, fun h => absurd h.vb hvb⟩
  rw [if_neg (by simp [h2])]
  cases hs : scn (fun k o => if clash a o then some (([], ⟨19, (k : Int)⟩) : List SeqOp × Fault) else Option.none) 0 b with
  | some f =>
    obtain ⟨j, hj, hf⟩ := scn_some hs
    refine ⟨fun h => ?_, fun h => ?_⟩
    · split at hf
      · cases hf; exact absurd (show (19 : Int) = 0 from h) (by decide)
      · cases hf
    · have := clash_none.2 h.cl; rw [this] at hs; cases hs
  | none =>
    simp only
    by_cases h60 : (a ++ news a b).length > 60
    · rw [if_pos h60]; exact ⟨fun h => absurd h (by decide), fun h => absurd h.len (by omega)⟩
    · rw [if_neg h60]; exact ⟨fun _ => ⟨hva, hvb, clash_none.1 hs, by omega⟩, fun _ => rfl⟩

theorem uni_eq {a b : List SeqOp} (h : MergeOk a b) : uni a b = ((a ++ news a b).mergeSort (fun x y => !oLt y x), ⟨0, 0⟩) := by
  unfold uni
  rw [if_neg (by rw [seqFault_ok h.va]; decide), if_neg (by rw [seqFault_ok h.vb]; decide), clash_none.2 h.cl]
  simp only
  rw [if_neg (by have := h.len; omega)]

theorem uni_mem {a b : List SeqOp} (h : MergeOk a b) (o : SeqOp) : o ∈ (uni a b).1 ↔ o ∈ a ∨ o ∈ b := by
  rw [uni_eq h]
  simp only
  rw [(List.mergeSort_perm _ _).mem_iff, List.mem_append]
  constructor
  · rintro (h1 | h1)
    · exact .inl h1
    · exact .inr (List.mem_filter.1 h1).1
  · rintro (h1 | h1)
    · exact .inl h1
    · cases hk : known a o with
      | false => exact .inr (List.mem_filter.2 ⟨h1, by rw [hk]; rfl⟩)
      | true =>
        unfold known at hk
        rw [List.any_eq_true] at hk
        obtain ⟨x, hx, hs⟩ := hk
        rw [← h.cl o h1 x hx (sameO_iff.1 hs)]; exact .inl hx

theorem uni_srt {a b : List SeqOp} (h : MergeOk a b) : Srt (uni a b).1 := by
  rw [uni_eq h]; exact osrt (news_nd h.va.ok h.vb.ok)

theorem uni_val {a b : List SeqOp} (h : MergeOk a b) : Val (uni a b).1 := by
  have hm := uni_mem h
  refine ⟨?_, fun o ho => ?_, srt_nodup (uni_srt h), fun o ho => ?_⟩
  · rw [uni_eq h]; simp only; rw [(List.mergeSort_perm _ _).length_eq]; exact h.len
  · rcases (hm o).1 ho with h1 | h1
    · exact h.va.chk o h1
    · exact h.vb.chk o h1
  · have key : ∀ s : List SeqOp, (∀ x ∈ s, x ∈ (uni a b).1) → (need o = (0, 0) ∨ insM s (need o) = true) → need o = (0, 0) ∨ insM (uni a b).1 (need o) = true := by
      intro s hs h2
      rcases h2 with h2 | h2
      · exact .inl h2
      · obtain ⟨x, hx, hd, hk⟩ := insM_iff.1 h2
        exact .inr (insM_iff.2 ⟨x, hs x hx, hd, hk⟩)
    rcases (hm o).1 ho with h1 | h1
    · exact key a (fun x hx => (hm x).2 (.inl hx)) (h.va.made o h1)
    · exact key b (fun x hx => (hm x).2 (.inr hx)) (h.vb.made o h1)
end Go.Dc
