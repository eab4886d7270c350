/- The document's origins of lines, and the law that the program's are the same. -/
import Derived.Test.YtnlleniemknjcaaDcPG
set_option linter.unusedSimpArgs false
namespace Go.Dc
open Go

/-- the document's steps -/
def algs : List ByteArray → List ByteArray → List Step_changeforgeref1
  | [], [] => []
  | [], y :: b => ⟨2, y⟩ :: algs [] b
  | x :: a, [] => ⟨1, x⟩ :: algs a []
  | x :: a, y :: b => if x = y then ⟨0, x⟩ :: algs a b else if lcs a (y :: b) ≥ lcs (x :: a) b then ⟨1, x⟩ :: algs a (y :: b) else ⟨2, y⟩ :: algs (x :: a) b
 termination_by a b => a.length + b.length

theorem algs_kinds : ∀ (a b : List ByteArray), (algs a b).map (·.Kind) = algn a b
  | [], [] => by simp [algs, algn]
  | [], y :: b => by simp [algs, algn, algs_kinds [] b]
  | x :: a, [] => by simp [algs, algn, algs_kinds a []]
  | x :: a, y :: b => by
    rw [algs, algn]
    split
    · simp [algs_kinds a b]
    · split
      · simp [algs_kinds a (y :: b)]
      · simp [algs_kinds (x :: a) b]
 termination_by a b => a.length + b.length

variable {a b : List ByteArray}

theorem cols_at {T : List (List Int)} (h : Cols a b T 0) {i j : Nat} (hi : i ≤ a.length) (hj : j ≤ b.length) : ∃ c, at? T (j : Int) = some c ∧ at? c (i : Int) = some ((lcs (a.drop i) (b.drop j) : Nat) : Int) := by
  obtain ⟨h1, h2⟩ := h
  have hjT : j < T.length := by omega
  obtain ⟨h3, h4⟩ := h2 j hjT (by omega)
  refine ⟨T[j], at_nat hjT, ?_⟩
  rw [at_nat (by omega), h4 i (by omega) (.inl (by omega))]

theorem alignR_loop {T : List (List Int)} (hT : Cols a b T 0) (hs : (a.length + b.length) * 24 ≤ 140737488355328) : ∀ (n i j : Nat) (out : List Step_changeforgeref1), i ≤ a.length → j ≤ b.length → (a.length - i) + (b.length - j) = n → out.length ≤ i + j →
    iter (fun s => changeforgeref1_Align.l1 a b T s.1 s.2.1 s.2.2) ((j : Int), (i : Int), out) = some (out ++ algs (a.drop i) (b.drop j)) := by
  intro n
  induction n using Nat.strongRecOn with
  | _ n ih =>
  intro i j out hi hj hn hl
  have app : ∀ x : Step_changeforgeref1, i + j < a.length + b.length → app? 24 out [x] = some (out ++ [x]) := fun x h => app_eq (by simp only [List.length_singleton]; omega)
  by_cases hia : i < a.length
  · have hda := drop_cons hia
    have ei : (i : Int) + 1 = ((i + 1 : Nat) : Int) := rfl
    by_cases hjb : j < b.length
    · have hdb := drop_cons hjb
      have ej : (j : Int) + 1 = ((j + 1 : Nat) : Int) := rfl
      obtain ⟨c1, p1, p2⟩ := cols_at hT (i := i + 1) (j := j) (by omega) hj
      obtain ⟨c2, q1, q2⟩ := cols_at hT (i := i) (j := j + 1) (by omega) (by omega)
      rw [← ei] at p2
      rw [← ej] at q1
      have e0 : changeforgeref1_Align.l1 a b T (j : Int) (i : Int) out = if a[i] = b[j] then some (.next (((j + 1 : Nat) : Int), ((i + 1 : Nat) : Int), out ++ [⟨0, a[i]⟩])) else
          if lcs (a.drop (i + 1)) (b.drop j) ≥ lcs (a.drop i) (b.drop (j + 1)) then some (.next ((j : Int), ((i + 1 : Nat) : Int), out ++ [⟨1, a[i]⟩])) else some (.next (((j + 1 : Nat) : Int), (i : Int), out ++ [⟨2, b[j]⟩])) := by
        unfold changeforgeref1_Align.l1
        have c1' : decide ((i : Int) < (a.length : Int)) = true := decide_eq_true (by omega)
        have c2' : decide ((j : Int) < (b.length : Int)) = true := decide_eq_true (by omega)
        have c3' : decide ((j : Int) = (b.length : Int)) = false := decide_eq_false (by omega)
        rw [c1', c2', c3']
        simp (implicitDefEqProofs := false) (disch := omega) only [if_true, Option.bind_some, at_nat hia, at_nat hjb, ck_eq, p1, p2, q1, q2, Bool.false_eq_true, if_false, app, decide_eq_true_eq]
        split
        · rfl
        · by_cases h : lcs (a.drop (i + 1)) (b.drop j) ≥ lcs (a.drop i) (b.drop (j + 1))
          · rw [if_pos (by omega), if_pos h]; rfl
          · rw [if_neg (by omega), if_neg h]; rfl
      have hal : algs (a.drop i) (b.drop j) = if a[i] = b[j] then ⟨0, a[i]⟩ :: algs (a.drop (i + 1)) (b.drop (j + 1)) else if lcs (a.drop (i + 1)) (b.drop j) ≥ lcs (a.drop i) (b.drop (j + 1)) then ⟨1, a[i]⟩ :: algs (a.drop (i + 1)) (b.drop j) else ⟨2, b[j]⟩ :: algs (a.drop i) (b.drop (j + 1)) := by
        conv => lhs; rw [hda, hdb, algs]
        rw [← hda, ← hdb]
      rw [hal]
      by_cases heq : a[i] = b[j]
      · rw [if_pos heq] at e0 ⊢
        rw [iter_next e0, ih _ (by omega) (i + 1) (j + 1) _ (by omega) (by omega) rfl (by simp; omega), List.append_assoc]; rfl
      · rw [if_neg heq] at e0 ⊢
        by_cases h : lcs (a.drop (i + 1)) (b.drop j) ≥ lcs (a.drop i) (b.drop (j + 1))
        · rw [if_pos h] at e0 ⊢
          rw [iter_next e0, ih _ (by omega) (i + 1) j _ (by omega) (by omega) rfl (by simp; omega), List.append_assoc]; rfl
        · rw [if_neg h] at e0 ⊢
          rw [iter_next e0, ih _ (by omega) i (j + 1) _ (by omega) (by omega) rfl (by simp; omega), List.append_assoc]; rfl
    · have hj' : j = b.length := by omega
      subst hj'
      have e0 : changeforgeref1_Align.l1 a b T (b.length : Int) (i : Int) out = some (.next ((b.length : Int), ((i + 1 : Nat) : Int), out ++ [⟨1, a[i]⟩])) := by
        unfold changeforgeref1_Align.l1
        have c1' : decide ((i : Int) < (a.length : Int)) = true := decide_eq_true (by omega)
        have c2' : decide ((b.length : Int) < (b.length : Int)) = false := decide_eq_false (by omega)
        rw [c1', c2']
        simp (implicitDefEqProofs := false) (disch := omega) only [if_true, Option.bind_some, at_nat hia, ck_eq, Bool.false_eq_true, if_false, app, decide_true]
        rfl
      rw [iter_next e0, ih _ (by omega) (i + 1) b.length _ (by omega) (by omega) rfl (by simp; omega), List.append_assoc, hda, List.drop_length]
      conv => rhs; rw [algs]
      rfl
  · have hi' : i = a.length := by omega
    subst hi'
    by_cases hjb : j < b.length
    · have hdb := drop_cons hjb
      have e0 : changeforgeref1_Align.l1 a b T (j : Int) (a.length : Int) out = some (.next (((j + 1 : Nat) : Int), (a.length : Int), out ++ [⟨2, b[j]⟩])) := by
        unfold changeforgeref1_Align.l1
        have c1' : decide ((a.length : Int) < (a.length : Int)) = false := decide_eq_false (by omega)
        have c2' : decide ((j : Int) < (b.length : Int)) = true := decide_eq_true (by omega)
        have c3' : decide ((j : Int) = (b.length : Int)) = false := decide_eq_false (by omega)
        rw [c1', c2', c3']
        simp (implicitDefEqProofs := false) (disch := omega) only [if_true, Option.bind_some, at_nat hjb, ck_eq, Bool.false_eq_true, if_false, app]
        rfl
      rw [iter_next e0, ih _ (by omega) a.length (j + 1) _ (by omega) (by omega) rfl (by simp; omega), List.append_assoc, hdb, List.drop_length]
      conv => rhs; rw [algs]
      rfl
    · have hj' : j = b.length := by omega
      subst hj'
      rw [List.drop_length, List.drop_length]
      refine (iter_done ?_).trans (by simp [algs] : some out = _)
      unfold changeforgeref1_Align.l1
      have c1' : decide ((a.length : Int) < (a.length : Int)) = false := decide_eq_false (by omega)
      have c2' : decide ((b.length : Int) < (b.length : Int)) = false := decide_eq_false (by omega)
      rw [c1', c2']
      simp only [Bool.false_eq_true, if_false, Option.bind_some]

theorem alignR_eq (hs : (a.length + 1) * (b.length + 1) * 24 ≤ 140737488355328) : changeforgeref1_Align a b = some (algs a b) := by
  obtain ⟨T, h1, h2⟩ := suffixes_eq hs
  have hs2 : (a.length + b.length) * 24 ≤ 140737488355328 := by
    have : a.length + b.length + 1 ≤ (a.length + 1) * (b.length + 1) := by
      rw [Nat.add_mul, Nat.mul_add, Nat.mul_one, Nat.one_mul]; omega
    omega
  unfold changeforgeref1_Align
  rw [h1, Option.bind_some]
  have := alignR_loop h2 hs2 _ 0 0 [] (Nat.zero_le _) (Nat.zero_le _) rfl (by simp)
  simp only [List.drop_zero, List.nil_append] at this
  rw [show (0 : Int) = ((0 : Nat) : Int) from rfl, this, Option.bind_some]
  rfl

/-- the origins of a text's lines, as the document counts -/
theorem annR_loop {i : Int} {ks : List Step_changeforgeref1} {old : List Int} (hs : ks.length * 8 ≤ 140737488355328) : ∀ (rest : List Step_changeforgeref1) (k u : Nat) (out : List Int), ks.drop k = rest → out.length ≤ k → u + used (rest.map (·.Kind)) ≤ old.length → u ≤ k →
    iter (fun s => changeforgeref2_Annotated.l2 i old ks s.1 s.2.1 s.2.2) ((k : Int), (u : Int), out) = some (out ++ app1 i (rest.map (·.Kind)) (old.drop u)) := by
  intro rest
  induction rest with
  | nil =>
    intro k u out hk hl hu _
    have := drop_end hk
    refine (iter_done ?_).trans (by simp [app1] : some out = _)
    unfold changeforgeref2_Annotated.l2
    rw [ite_dec, if_neg (by omega)]
  | cons x r ih =>
    intro k u out hk hl hu huk
    obtain ⟨hlt, hx, hr⟩ := drop_at hk
    have app : ∀ (o : List Int) (y : Int), o.length ≤ k → app? 8 o [y] = some (o ++ [y]) := fun o y h => app_eq (by simp only [List.length_singleton]; omega)
    have ek : (k : Int) + 1 = ((k + 1 : Nat) : Int) := rfl
    have eu : (u : Int) + 1 = ((u + 1 : Nat) : Int) := rfl
    simp only [List.map_cons] at hu ⊢
    rw [app1_cons]
    by_cases h2 : x.Kind = 2
    · rw [used, if_pos h2] at hu
      have e0 : changeforgeref2_Annotated.l2 i old ks (k : Int) (u : Int) out = some (.next (((k + 1 : Nat) : Int), (u : Int), out ++ [i])) := by
        unfold changeforgeref2_Annotated.l2 changeforgeref2_Annotated.j5 changeforgeref2_Annotated.j4
        simp (implicitDefEqProofs := false) (disch := omega) only [ite_dec, if_pos, at_nat hlt, hx, Option.bind_some, h2, app, ck_eq, if_true]
        rfl
      rw [iter_next e0, ih (k + 1) u _ hr (by simp; omega) hu (by omega), if_pos h2, List.append_assoc]; rfl
    · rw [used, if_neg h2] at hu
      have hul : u < old.length := by omega
      rw [if_neg h2, drop_consI hul]
      by_cases h0 : x.Kind = 0
      · have e0 : changeforgeref2_Annotated.l2 i old ks (k : Int) (u : Int) out = some (.next (((k + 1 : Nat) : Int), ((u + 1 : Nat) : Int), out ++ [old[u]])) := by
          unfold changeforgeref2_Annotated.l2 changeforgeref2_Annotated.j5 changeforgeref2_Annotated.j4
          simp (implicitDefEqProofs := false) (disch := omega) only [ite_dec, if_pos, at_nat hlt, at_nat hul, hx, Option.bind_some, h0, app, ck_eq, if_true, if_neg]
          rfl
        rw [iter_next e0, ih (k + 1) (u + 1) _ hr (by simp; omega) (by omega) (by omega)]; simp only [if_pos h0, List.append_assoc, List.singleton_append]
      · have e0 : changeforgeref2_Annotated.l2 i old ks (k : Int) (u : Int) out = some (.next (((k + 1 : Nat) : Int), ((u + 1 : Nat) : Int), out)) := by
          unfold changeforgeref2_Annotated.l2 changeforgeref2_Annotated.j5 changeforgeref2_Annotated.j4
          simp (implicitDefEqProofs := false) (disch := omega) only [ite_dec, if_pos, at_nat hlt, hx, Option.bind_some, if_neg h0, if_neg h2, ck_eq]
          rfl
        rw [iter_next e0, ih (k + 1) (u + 1) _ hr (by omega) (by omega) (by omega)]; simp only [if_neg h0]

theorem app1_ins (i : Int) : ∀ b : List ByteArray, app1 i (algn [] b) [] = List.replicate b.length i
  | [] => by simp [algn, app1]
  | y :: b => by rw [algn, app1_cons, if_pos rfl, app1_ins i b]; rfl

theorem annotated_eq {vs : List (List ByteArray)} (ho : OkFiles vs) : changeforgeref2_Annotated vs = some (annot vs) := by
  have key : ∀ (m k : Nat), k + m = vs.length → ∀ (hne : 0 < k → vs.take k ≠ []),
      iter (fun s => changeforgeref2_Annotated.l1 vs s.1 s.2.1 s.2.2) ((k : Int), (if h : 0 < k then (vs.take k).getLast (hne h) else []), annot (vs.take k)) = some (annot vs) := by
    intro m
    induction m with
    | zero =>
      intro k hk hne
      refine (iter_done ?_).trans (by rw [List.take_of_length_le (by omega)] : some (annot (vs.take k)) = _)
      unfold changeforgeref2_Annotated.l1
      rw [ite_dec, if_neg (by omega)]
    | succ m ih =>
      intro k hk hne
      have hlt : k < vs.length := by omega
      have hv := ho.2 vs[k] (List.getElem_mem hlt)
      have htk : vs.take (k + 1) = vs.take k ++ [vs[k]] := List.take_succ_eq_append_getElem hlt
      have hl16 := ho.1
      have ek : (k : Int) + 1 = ((k + 1 : Nat) : Int) := rfl
      have nx : ∀ (x : List ByteArray) (al : List Int), (x.length + 1) * (vs[k].length + 1) * 24 ≤ 140737488355328 → al.length = x.length → annot (vs.take (k + 1)) = app1 k (algn x vs[k]) al →
          changeforgeref2_Annotated.l1 vs (k : Int) x al = some (.next (((k + 1 : Nat) : Int), vs[k], annot (vs.take (k + 1)))) := by
        intro x al hsz hal hann
        have hu := algn_used x vs[k]
        have hln := algn_len x vs[k]
        have hkl : (algs x vs[k]).length = (algn x vs[k]).length := by rw [← algs_kinds, List.length_map]
        have hsum : (x.length + vs[k].length) * 8 ≤ 140737488355328 := by
          have : x.length + vs[k].length + 1 ≤ (x.length + 1) * (vs[k].length + 1) := by
            rw [Nat.add_mul, Nat.mul_add, Nat.mul_one, Nat.one_mul]; omega
          omega
        have e1 := annR_loop (i := (k : Int)) (ks := algs x vs[k]) (old := al) (by rw [hkl]; omega) (algs x vs[k]) 0 0 [] rfl (by simp) (by rw [algs_kinds, hu]; omega) (Nat.le_refl _)
        simp only [List.nil_append, List.drop_zero, algs_kinds] at e1
        rw [← hann] at e1
        unfold changeforgeref2_Annotated.l1 changeforgeref2_Annotated.j3 changeforgeref2_Annotated.j2
        rw [ite_dec, if_pos (by omega), at_nat hlt, Option.bind_some, alignR_eq hsz, Option.bind_some, show (0 : Int) = ((0 : Nat) : Int) from rfl, e1, Option.bind_some, Option.bind_some, ck_eq (by omega) (by omega), Option.bind_some]
        rfl
      have hlast : ∀ h, (vs.take (k + 1)).getLast h = vs[k] := by
        intro h; simp only [htk, List.getLast_append, List.getLast_singleton]; simp
      by_cases h0 : 0 < k
      · have hne' := hne h0
        have hmem : (vs.take k).getLast hne' ∈ vs := List.mem_of_mem_take (List.getLast_mem hne')
        have hx := ho.2 _ hmem
        have e0 := nx ((vs.take k).getLast hne') (annot (vs.take k)) (by
            have h1 := hx.1
            have h2 := hv.1
            have : (((vs.take k).getLast hne').length + 1) * (vs[k].length + 1) ≤ 121 * 121 := Nat.mul_le_mul (by omega) (by omega)
            omega) (annot_len _ _) (by
            rw [htk, annot_snoc _ hne', List.length_take, Nat.min_eq_left (by omega)])
        rw [dif_pos h0, iter_next e0]
        have := ih (k + 1) (by omega) (fun _ h => by rw [htk] at h; exact absurd h (List.append_ne_nil_of_right_ne_nil _ (by simp)))
        rw [dif_pos (by omega), hlast] at this
        exact this
      · have hk0 : k = 0 := by omega
        subst hk0
        have e0 := nx [] [] (by
            have h2 := hv.1
            have : (([] : List ByteArray).length + 1) * (vs[0].length + 1) ≤ 1 * 121 := Nat.mul_le_mul (by simp) (by omega)
            omega) rfl (by
            rw [htk, app1_ins]; rfl)
        rw [dif_neg (by omega)]
        have hann0 : annot (vs.take 0) = [] := rfl
        rw [hann0, iter_next e0]
        have := ih 1 (by omega) (fun _ h => by rw [show (1 : Nat) = 0 + 1 from rfl, htk] at h; exact absurd h (List.append_ne_nil_of_right_ne_nil _ (by simp)))
        rw [dif_pos (by omega), hlast] at this
        exact this
  have := key vs.length 0 (by omega) (fun h => absurd h (by omega))
  rw [dif_neg (by omega)] at this
  unfold changeforgeref2_Annotated changeforgeref2_Annotated.j1
  have h0 : annot (vs.take 0) = [] := rfl
  rw [h0] at this
  rw [show (0 : Int) = ((0 : Nat) : Int) from rfl, this, Option.bind_some]

/-- the first version that is no text -/
def vscan : Int → List (List ByteArray) → Option Fault
  | _, [] => Option.none
  | i, v :: r => if (textFault v).Code = 0 then vscan (i + 1) r else some ⟨(textFault v).Code, i⟩

theorem vscan_none : ∀ (l : List (List ByteArray)) (i : Int), vscan i l = Option.none → ∀ v ∈ l, OkText v
  | [], _, _, v, hv => by cases hv
  | x :: r, i, h, v, hv => by
    rw [vscan] at h
    split at h
    · rename_i h0
      rcases List.mem_cons.1 hv with rfl | hv
      · exact (okText_iff _).2 ((textFault_zero _).2 h0)
      · exact vscan_none r _ h v hv
    · cases h

theorem vscan_code : ∀ (l : List (List ByteArray)) (i : Int) (f : Fault), vscan i l = some f → f.Code ≠ 0
  | [], _, _, h => by cases h
  | x :: r, i, f, h => by
    rw [vscan] at h
    split at h
    · exact vscan_code r _ f h
    · rename_i h0; cases h; exact h0

theorem annotate_f (vs : List (List ByteArray)) : blame_Annotate vs = some (if vs.length > 16 then ([], ⟨2, -1⟩) else match vscan 0 vs with | some f => ([], f) | Option.none => (annot vs, ⟨0, 0⟩)) := by
  by_cases h16 : vs.length > 16
  · rw [if_pos h16]
    unfold blame_Annotate
    rw [ite_dec, if_pos (by omega)]
  · rw [if_neg h16]
    have hk : ∀ (rest : List (List ByteArray)) (k : Nat), vs.drop k = rest → iter (fun s => blame_Annotate.l3 vs s) (k : Int) = some (orL ((vscan k rest).map fun f => (([] : List Int), f))) := by
      intro rest
      induction rest with
      | nil =>
        intro k hk
        have := drop_end hk
        refine iter_done ?_
        unfold blame_Annotate.l3
        rw [ite_dec, if_neg (by omega)]; rfl
      | cons v r ih =>
        intro k hk
        obtain ⟨hlt, hv, hr⟩ := drop_at hk
        have e0 : blame_Annotate.l3 vs (k : Int) = if (textFault v).Code = 0 then some (.next (((k + 1 : Nat) : Int))) else some (.done (.inl ([], ⟨(textFault v).Code, (k : Int)⟩))) := by
          unfold blame_Annotate.l3
          rw [ite_dec, if_pos (by omega), at_nat hlt, Option.bind_some, hv, second_f, Option.bind_some]
          by_cases h0 : (textFault v).Code = 0
          · rw [if_pos h0, if_pos h0, if_neg (by simp), ck_eq (by omega) (by omega), Option.bind_some]; rfl
          · rw [if_neg h0, if_neg h0, if_pos (faultless.2 (fun h2 => h0 h2.1 : ¬ ((⟨(textFault v).Code, (k : Int)⟩ : Fault).Code = 0 ∧ (⟨(textFault v).Code, (k : Int)⟩ : Fault).Index = 0)))]
        rw [vscan]
        by_cases h0 : (textFault v).Code = 0
        · rw [if_pos h0] at e0 ⊢; rw [iter_next e0]; exact ih (k + 1) hr
        · rw [if_neg h0] at e0 ⊢; exact iter_done e0
    cases hvs : vscan 0 vs with
    | none =>
      have hok : OkFiles vs := ⟨by omega, vscan_none vs 0 hvs⟩
      rw [annotate_ok hok]
    | some f =>
      unfold blame_Annotate
      rw [ite_dec, if_neg (by omega), show (0 : Int) = ((0 : Nat) : Int) from rfl, hk vs 0 rfl, Option.bind_some, show (((0 : Nat) : Int)) = 0 from rfl, hvs]
      rfl

theorem matches_eq (vs : List (List ByteArray)) : changeforgelaw2_BlameMatchesSpec vs = some true := by
  unfold changeforgelaw2_BlameMatchesSpec changeforgeref1_At
  rw [annotate_f, Option.bind_some, added_eq]
  by_cases h16 : vs.length > 16
  · rw [if_pos h16, ite_dec, if_pos (by omega)]
    rfl
  · rw [if_neg h16, ite_dec, if_neg (by omega)]
    have hk : ∀ (y : List Int × Fault), (∀ f, vscan 0 vs = some f → y = ([], f)) → ∀ (rest : List (List ByteArray)) (k : Nat), vs.drop k = rest → vscan 0 vs = vscan k rest →
        iter (fun s => changeforgelaw2_BlameMatchesSpec.l1 vs y s) (k : Int) = some (orL ((vscan k rest).map fun _ => true)) := by
      intro y hy rest
      induction rest with
      | nil =>
        intro k hk _
        have := drop_end hk
        refine iter_done ?_
        unfold changeforgelaw2_BlameMatchesSpec.l1
        rw [ite_dec, if_neg (by omega)]; rfl
      | cons v r ih =>
        intro k hk hsc
        obtain ⟨hlt, hv, hr⟩ := drop_at hk
        rw [vscan] at hsc ⊢
        by_cases h0 : (textFault v).Code = 0
        · rw [if_pos h0] at hsc ⊢
          have e0 : changeforgelaw2_BlameMatchesSpec.l1 vs y (k : Int) = some (.next (((k + 1 : Nat) : Int))) := by
            unfold changeforgelaw2_BlameMatchesSpec.l1
            rw [ite_dec, if_pos (by omega), at_nat hlt, Option.bind_some, hv, linesCode_f, Option.bind_some, ite_ndec, if_pos h0, ck_eq (by omega) (by omega), Option.bind_some]; rfl
          rw [iter_next e0]; exact ih (k + 1) hr hsc
        · rw [if_neg h0] at hsc ⊢
          have := hy _ hsc
          subst this
          refine iter_done ?_
          unfold changeforgelaw2_BlameMatchesSpec.l1 changeforgeref1_At
          rw [ite_dec, if_pos (by omega), at_nat hlt, Option.bind_some, hv, linesCode_f, Option.bind_some, ite_ndec, if_neg h0, added_eq]
          simp [orL]
    cases hvs : vscan 0 vs with
    | none =>
      have hok : OkFiles vs := ⟨by omega, vscan_none vs 0 hvs⟩
      have e1 := hk (annot vs, ⟨0, 0⟩) (fun f h => by rw [hvs] at h; cases h) vs 0 rfl rfl
      rw [show (((0 : Nat) : Int)) = 0 from rfl, hvs] at e1
      rw [e1, Option.bind_some]
      unfold changeforgelaw2_BlameMatchesSpec.j1
      rw [annotated_eq hok, Option.bind_some, added_eq, ints_eq _ _ (by
        by_cases hne : vs = []
        · subst hne; simp [annot]
        · rw [annot_len vs hne]
          have := (hok.2 _ (List.getLast_mem hne)).1
          omega)]
      simp [orL]
    | some f =>
      have e1 := hk ([], f) (fun f' h => by rw [hvs] at h; cases h; rfl) vs 0 rfl rfl
      rw [show (((0 : Nat) : Int)) = 0 from rfl, hvs] at e1
      rw [e1, Option.bind_some]
      rfl
end Go.Dc
