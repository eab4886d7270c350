/- Replicated sequences: what Visible answers. -/
import Derived.Test.YtibigfejalemjaaDcGB
set_option linter.unusedSimpArgs false
set_option linter.unusedVariables false
namespace Go.Dc
open Go

def Alive (A : List SeqOp) (bl : List (K2 × Option (List SeqOp))) (k : K2) : Prop := ∃ l, lookM bl k = some l ∧ l.Perm (chi A k)

theorem lookM_put {α : Type} (l : List (K2 × Option (List α))) (k k' : K2) (x : List α) : lookM (mput l k (some x)) k' = if k = k' then some x else lookM l k' := by
  unfold lookM
  rw [mget_mput]
  by_cases h : k = k'
  · rw [if_pos h, if_pos h]
  · rw [if_neg h, if_neg h]

theorem lookM_dead {α : Type} (l : List (K2 × Option (List α))) {k k' : K2} (h : k ≠ k') : lookM (deadM l k) k' = lookM l k' := by
  unfold deadM
  split
  · rfl
  · unfold lookM; rw [mget_mput, if_neg h]

theorem vcmp_f (a b : SeqOp) : sequence_Visible_s1_s1 a b = some (kcmp (own b) (own a)) := by
  unfold sequence_Visible_s1_s1 sequence_own
  simp only [Option.bind_some, compare_f]; rfl

theorem vlt (x y : SeqOp) : ltM sequence_Visible_s1_s1 x y = kLt (own y) (own x) := by
  unfold ltM
  rw [vcmp_f, Option.getD_some, kcmp_neg]

theorem nodup_inj {l : List SeqOp} (hn : (l.map own).Nodup) {x y : SeqOp} (hx : x ∈ l) (hy : y ∈ l) (hk : own x = own y) : x = y := asc_eq.inj_of_nodup hn hx hy hk

theorem chi_nodup {A : List SeqOp} (h : Asc A) (e : K2) : ((chi A e).map own).Nodup := by
  have h1 : (A.reverse.map own).Nodup := by rw [List.map_reverse]; exact (List.reverse_perm _).nodup_iff.2 h.nodup
  exact h1.sublist (List.Sublist.map own List.filter_sublist)

theorem sort_chi {A : List SeqOp} (h : Asc A) (hl : A.length ≤ 1000) {e : K2} {l : List SeqOp} (hp : l.Perm (chi A e)) : sortM sequence_Visible_s1_s1 l = some (chi A e) := by
  have hn : (l.map own).Nodup := (hp.map own).nodup_iff.2 (chi_nodup h e)
  have hfit : CmpFit sequence_Visible_s1_s1 l := by
    refine ⟨fun x _ y _ => ⟨_, vcmp_f x y⟩, fun x _ => by rw [vlt, kLt_irr], fun x _ y _ z _ h1 h2 => ?_, fun x _ y _ z _ h1 h2 => ?_, fun x hx y hy h1 h2 => ?_⟩
    · rw [vlt] at *; exact kLt_trans h2 h1
    · rw [vlt] at *; exact kLt_nt h2 h1
    · rw [vlt] at *; exact nodup_inj hn hx hy (kLt_anti h2 h1)
  have hlen : l.length ≤ 1000 := by
    rw [hp.length_eq]
    refine Nat.le_trans (List.length_filter_le _ _) ?_
    rw [List.length_reverse]; exact hl
  rw [sortM_eq hfit (by omega)]
  rw [← sortM_uniq hfit hp.symm]
  have h1 : A.reverse.Pairwise fun a b => kLt (own b) (own a) = true := List.pairwise_reverse.2 h.up
  exact (h1.sublist List.filter_sublist).imp fun {a b} hab => by rw [vlt]; exact kLt_asymm hab

theorem flat_keys {f : SeqOp → List SeqOp} {Y : List SeqOp} {k : Nat} (hk : k < Y.length) : Y.flatMap f = (Y.take k).flatMap f ++ (f Y[k] ++ (Y.drop (k + 1)).flatMap f) := by
  conv => lhs; rw [← List.take_append_drop k Y, List.drop_eq_getElem_cons hk]
  rw [List.flatMap_append, List.flatMap_cons]

theorem flat_take {f : SeqOp → List SeqOp} {Y : List SeqOp} {k : Nat} (hk : k < Y.length) : (Y.take (k + 1)).flatMap f = (Y.take k).flatMap f ++ f Y[k] := by
  rw [List.take_succ_eq_append_getElem hk, List.flatMap_append]; simp

theorem vlines_one (del : K2 → Bool) (o : SeqOp) : vlines del [o] = if del (own o) then [] else [o.Line] := by
  unfold vlines; cases h : del (own o) <;> simp [h]

theorem vlines_len (del : K2 → Bool) (l : List SeqOp) : (vlines del l).length ≤ l.length := by
  unfold vlines; rw [List.length_map]; exact List.length_filter_le _ _

theorem visit_f {A : List SeqOp} (hA : Asc A) (hlen : A.length ≤ 1000) {u2 : List (K2 × Bool)} {del : K2 → Bool} (hu : MapSays u2 del) : ∀ (n : Nat) (e : K2) (bl : List (K2 × Option (List SeqOp))) (out : List ByteArray), Good A n e →
    ((dfs A n e).map own).Nodup → e ∉ (dfs A n e).map own → (∀ k, k = e ∨ k ∈ (dfs A n e).map own → Alive A bl k) → out.length + (dfs A n e).length ≤ 100000 →
    ∃ bl', sequence_Visible_s1.m n ⟨e.1, e.2⟩ bl u2 out = some (bl', out ++ vlines del (dfs A n e)) ∧ ∀ k, k ≠ e → k ∉ (dfs A n e).map own → Alive A bl k → Alive A bl' k
  | 0, _, _, _, h, _, _, _, _ => h.elim
  | n + 1, e, bl, out, hg, hnd, hne, hal, hsz => by
    obtain ⟨l, hl, hp⟩ := hal e (.inl rfl)
    have hs := sort_chi hA hlen hp
    show ∃ bl', sequence_Visible_s1.body (sequence_Visible_s1.m n) ⟨e.1, e.2⟩ bl u2 out = _ ∧ _
    unfold sequence_Visible_s1.body
    simp only
    rw [hl, Option.bind_some, hs, Option.bind_some]
    have hdfs : dfs A (n + 1) e = (chi A e).flatMap fun o => o :: dfs A n (own o) := rfl
    rw [hdfs] at hnd hne hal hsz ⊢
    have hgY : ∀ o ∈ chi A e, Good A n (own o) := hg
    have hYl : (chi A e).length ≤ 1000 := Nat.le_trans (List.length_filter_le _ _) (by rw [List.length_reverse]; exact hlen)
    generalize chi A e = Y at hnd hne hal hsz hgY hYl ⊢
    generalize hF : (fun o => o :: dfs A n (own o) : SeqOp → List SeqOp) = F at hnd hne hal hsz ⊢
    have hFx : ∀ o, F o = o :: dfs A n (own o) := fun o => by rw [← hF]
    obtain ⟨r, hr, bl', rfl, hbl⟩ := inv_loop (f := fun s : Int × (List (K2 × Option (List SeqOp))) × (List ByteArray) => sequence_Visible_s1.l1 u2 (sequence_Visible_s1.m n) Y s.1 s.2.1 s.2.2) Y.length
      (fun k s => s.2 = out ++ vlines del ((Y.take k).flatMap F) ∧ ∀ q, q ≠ e → q ∉ ((Y.take k).flatMap F).map own → Alive A bl q → Alive A s.1 q)
      (fun r => ∃ bl', r = (bl', out ++ vlines del (Y.flatMap F)) ∧ ∀ q, q ≠ e → q ∉ (Y.flatMap F).map own → Alive A bl q → Alive A bl' q)
      (by
        rintro k ⟨b, o'⟩ hk ⟨ho, hb⟩
        simp only at ho hb
        subst ho
        have hsplit := flat_keys (f := F) hk
        rw [hsplit, List.map_append, List.map_append, List.nodup_append] at hnd
        rw [hsplit, List.map_append, List.map_append] at hne
        rw [hsplit, List.map_append, List.map_append] at hal
        rw [hsplit] at hsz
        simp only [List.length_append] at hsz
        obtain ⟨_, hnd2, hdis⟩ := hnd
        rw [List.nodup_append] at hnd2
        obtain ⟨hndF, _, _⟩ := hnd2
        rw [hFx] at hndF hsz hdis hal hne
        rw [List.map_cons, List.nodup_cons] at hndF
        have hx : Y[k] ∈ Y := List.getElem_mem hk
        have hlo : ((Y.take k).flatMap F).length + 1 + (dfs A n (own Y[k])).length + out.length ≤ 100000 := by
          simp only [List.length_cons] at hsz; omega
        have hvl := vlines_len del ((Y.take k).flatMap F)
        -- the line
        have hout : ∀ out2, out2 = (out ++ vlines del ((Y.take k).flatMap F)) ++ vlines del [Y[k]] →
            ∃ s', sequence_Visible_s1.j2 u2 (sequence_Visible_s1.m n) (k : Int) b Y[k] out2 = some (.next (((k + 1 : Nat) : Int), s')) ∧
              (s'.2 = out ++ vlines del ((Y.take (k + 1)).flatMap F) ∧ ∀ q, q ≠ e → q ∉ ((Y.take (k + 1)).flatMap F).map own → Alive A bl q → Alive A s'.1 q) := by
          rintro out2 rfl
          have hv1 := vlines_len del [Y[k]]
          obtain ⟨b2, hb2, hbk⟩ := visit_f hA hlen hu n (own Y[k]) b ((out ++ vlines del ((Y.take k).flatMap F)) ++ vlines del [Y[k]]) (hgY _ hx) hndF.2 hndF.1
            (by
              intro q hq
              have hqm : q ∈ (Y[k] :: dfs A n (own Y[k])).map own := by
                rw [List.map_cons]; rcases hq with rfl | hq
                · simp
                · simp [hq]
              refine hb q ?_ ?_ (hal q (.inr (List.mem_append_right _ (List.mem_append_left _ hqm))))
              · rintro rfl; exact hne (List.mem_append_right _ (List.mem_append_left _ hqm))
              · intro h; exact hdis q h q (List.mem_append_left _ hqm) rfl)
            (by simp only [List.length_append, List.length_cons, List.length_nil] at hv1 ⊢; omega)
          unfold sequence_Visible_s1.j2 sequence_own
          rw [Option.bind_some, show (⟨Y[k].Counter, Y[k].Replica⟩ : Element_sequence) = ⟨(own Y[k]).1, (own Y[k]).2⟩ from rfl, hb2, Option.bind_some, ck_eq (by omega) (by omega), Option.bind_some]
          refine ⟨_, rfl, ?_, ?_⟩
          · simp only
            rw [flat_take hk, vlines_append, hFx, show Y[k] :: dfs A n (own Y[k]) = [Y[k]] ++ dfs A n (own Y[k]) from rfl, vlines_append]
            simp only [List.append_assoc]
          · intro q h1 h2 h3
            rw [flat_take hk, List.map_append, hFx, List.map_cons] at h2
            simp only [List.mem_append, List.mem_cons, not_or] at h2
            exact hbk q h2.2.1 h2.2.2 (hb q h1 h2.1 h3)
        unfold sequence_Visible_s1.l1 sequence_own
        simp (disch := omega) only [decide_eq_true_eq, if_pos, at_nat hk, Option.bind_some]
        rw [show (mget u2 (Y[k].Counter, Y[k].Replica)).getD false = del (own Y[k]) from hu _]
        have hv := vlines_one del Y[k]
        cases hd : del (own Y[k]) with
        | true =>
          rw [hd, if_pos rfl] at hv
          simp only [Bool.not_true, Bool.false_eq_true, if_false]
          exact hout _ (by rw [hv, List.append_nil])
        | false =>
          rw [hd, if_neg (by decide)] at hv
          simp only [Bool.not_false, if_true]
          rw [app_eq (by simp only [List.length_append, List.length_cons, List.length_nil]; omega), Option.bind_some]
          exact hout _ (by rw [hv]))
      (by
        rintro ⟨b, o'⟩ ⟨ho, hb⟩
        simp only at ho hb
        rw [List.take_length] at ho hb
        unfold sequence_Visible_s1.l1
        rw [ite_dec, if_neg (by simp)]
        exact ⟨_, rfl, b, by rw [ho], hb⟩)
      (deadM bl e, out) ⟨by simp [vlines], fun q h1 _ h3 => by obtain ⟨l', h4, h5⟩ := h3; exact ⟨l', by rw [lookM_dead _ (Ne.symm h1)]; exact h4, h5⟩⟩
    rw [show ((0 : Int), deadM bl (e.1, e.2), out) = (0, deadM bl e, out) from rfl, hr, Option.bind_some]
    exact ⟨bl', rfl, hbl⟩

theorem filter_take {α : Type} (p : α → Bool) {l : List α} {k : Nat} (h : k < l.length) : (l.take (k + 1)).filter p = (l.take k).filter p ++ if p l[k] then [l[k]] else [] := by
  rw [List.take_succ_eq_append_getElem h, List.filter_append]
  cases hp : p l[k] <;> simp [hp]

theorem Visible_f (ops : List SeqOp) : sequence_Visible ops = some (if (seqFault ops).Code = 0 then (vis ops, ⟨0, 0⟩) else ([], seqFault ops)) := by
  unfold sequence_Visible
  rw [Validate_f, Option.bind_some]
  rcases seqFault_cases ops with ⟨h1, hv⟩ | ⟨h1, _⟩
  · rw [h1]
    simp only [decide_true, Bool.and_self, Bool.not_true, Bool.false_eq_true, if_false, if_true]
    have hl60 := hv.len
    obtain ⟨r, hr, bl, g, rfl, hg, hb⟩ := inv_loop (f := fun s : Int × (List (K2 × Option (List SeqOp))) × (List (K2 × Bool)) => sequence_Visible.l1 ops s.1 s.2.1 s.2.2) ops.length
      (fun k s => MapSays s.2 (delM (ops.take k)) ∧ ∀ q, lookM s.1 q = some ((insL (ops.take k)).filter fun o => decide (aft o = q)))
      (fun r => ∃ bl g, r = (bl, g) ∧ MapSays g (delM ops) ∧ ∀ q, lookM bl q = some ((insL ops).filter fun o => decide (aft o = q)))
      (by
        rintro k ⟨b, g⟩ hk ⟨hg, hb⟩
        simp only at hg hb
        unfold sequence_Visible.l1 sequence_Visible.j2 sequence_Visible.j3 sequence_own sequence_after
        simp (disch := omega) only [decide_eq_true_eq, if_pos, at_nat hk, Option.bind_some]
        unfold sequence_Visible.j2
        simp (disch := omega) only [ck_eq, Option.bind_some]
        cases hd : ops[k].Delete with
        | true =>
          simp only [if_true]
          refine ⟨_, rfl, ?_, fun q => ?_⟩
          · refine (hg.put _).congr fun k' => ?_
            unfold delM; rw [take_any _ hk, hd, Bool.true_and]; rfl
          · rw [hb]; unfold insL; rw [filter_take _ hk, hd]; simp
        | false =>
          simp only [Bool.false_eq_true, if_false]
          rw [hb, Option.bind_some, app_eq (by
            have h1 : ((insL (ops.take k)).filter fun o => decide (aft o = (ops[k].AfterCounter, ops[k].AfterReplica))).length ≤ 60 :=
              Nat.le_trans (List.length_filter_le _ _) (Nat.le_trans (List.length_filter_le _ _) (by rw [List.length_take]; omega))
            simp only [List.length_cons, List.length_nil]; omega), Option.bind_some]
          refine ⟨_, rfl, ?_, fun q => ?_⟩
          · refine hg.congr fun k' => ?_
            unfold delM; rw [take_any _ hk, hd]; simp
          · simp only
            rw [lookM_put]
            have e1 : insL (ops.take (k + 1)) = insL (ops.take k) ++ [ops[k]] := by unfold insL; rw [filter_take _ hk, hd]; simp
            rw [e1, List.filter_append]
            by_cases hq : (ops[k].AfterCounter, ops[k].AfterReplica) = q
            · rw [if_pos hq]
              have hq2 : aft ops[k] = q := hq
              rw [hq]
              simp [hq2]
            · rw [if_neg hq, lookM_dead _ hq, hb]
              have : ¬ aft ops[k] = q := hq
              simp [this])
      (by
        rintro ⟨b, g⟩ ⟨hg, hb⟩
        simp only at hg hb
        rw [List.take_length] at hg hb
        unfold sequence_Visible.l1
        rw [ite_dec, if_neg (by omega)]
        exact ⟨_, rfl, b, g, rfl, hg, hb⟩)
      ([], []) ⟨MapSays.nil, fun q => rfl⟩
    rw [hr, Option.bind_some]
    unfold sequence_Visible.j1 sequence_Visible_s1
    have hA := asc_asc hv
    have hal := asc_len ops
    have hgood := hA.good (0, 0)
    obtain ⟨hd1, hd2⟩ := dfs_plus _ _ hgood (100 - ((asc ops).length + 1))
    rw [show (asc ops).length + 1 + (100 - ((asc ops).length + 1)) = 100 by omega] at hd1 hd2
    rw [dfs_row _ _ rfl hA] at hd1
    have hrp := row_perm hv
    have hkeys : ((rowF (asc ops)).map own).Nodup := (hrp.map own).nodup_iff.2 (insL_nodup hv.nd)
    obtain ⟨bl', hv1, _⟩ := visit_f hA (by omega) hg 100 (0, 0) bl [] hd2 (by rw [hd1]; exact hkeys)
      (by
        rw [hd1]; intro h
        obtain ⟨o, ho, he⟩ := List.mem_map.1 h
        have : o ∈ asc ops := (asc_perm ops).mem_iff.2 (hrp.mem_iff.1 ho)
        exact asc_ne hv o this he)
      (fun k _ => ⟨_, hb k, by
        unfold chi
        exact ((asc_perm ops).symm.trans (List.reverse_perm _).symm).filter _⟩)
      (by
        rw [hd1, hrp.length_eq]
        have : (insL ops).length ≤ ops.length := List.length_filter_le _ _
        simp only [List.length_nil]; omega)
    rw [hd1] at hv1
    rw [show (({ counter := 0, replica := 0 } : Element_sequence)) = ⟨((0, 0) : K2).1, ((0, 0) : K2).2⟩ from rfl, hv1]
    rfl
  · rw [if_neg h1]
    rw [if_pos (by simp [h1])]
end Go.Dc
