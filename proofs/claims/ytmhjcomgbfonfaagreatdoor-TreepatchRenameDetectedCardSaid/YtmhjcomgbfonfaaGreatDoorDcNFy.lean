/- The document's renames: the same choice as the program's. -/
import Derived.Test.YtmhjcomgbfonfaaGreatDoorDcNCy
set_option linter.unusedSimpArgs false
set_option linter.unusedVariables false
namespace Go.Dc
open Go

def detFault (old newer : FileTree) (pc : Int) : Fault :=
  if (treeFault old.Files).Code ≠ 0 then treeFault old.Files else if (treeFault newer.Files).Code ≠ 0 then ⟨(treeFault newer.Files).Code, -2⟩ else if pc < 0 ∨ pc > 100 then ⟨3, -3⟩ else ⟨0, 0⟩

structure DetX (old newer : FileTree) (pc : Int) (ps : List Pair_rename) (out : List Arr2_ByteArray) : Prop where
  o : TrOk old.Files
  n : TrOk newer.Files
  pc0 : 0 ≤ pc
  pc1 : pc ≤ 100
  perm : ps.Perm (allF pc (onlyF old.Files newer.Files) (onlyF newer.Files old.Files))
  srt : ps.Pairwise fun x y => ¬ L1 y x
  grd : Grd (ps.foldl stepG []) ps
  len : ps.length ≤ 576
  mem : out.Perm (ps.foldl stepG [])
  osrt : out.Pairwise fun x y => sLt x.e0 y.e0 = true

theorem grd_inj {out : List Arr2_ByteArray} {ps : List Pair_rename} (G : Grd out ps) : ∀ x ∈ out, ∀ y ∈ out, x.e0 = y.e0 → x = y := by
  intro x hx y hy he
  obtain ⟨i, hi, rfl⟩ := List.getElem_of_mem hx
  obtain ⟨j, hj, rfl⟩ := List.getElem_of_mem hy
  rcases Nat.lt_trichotomy i j with h | h | h
  · exact absurd he ((List.pairwise_iff_getElem.1 G.dis) i j hi hj h).1
  · subst h; rfl
  · exact absurd he.symm ((List.pairwise_iff_getElem.1 G.dis) j i hj hi h).1

theorem Detect_x (old newer : FileTree) (pc : Int) : ∃ out, rename_Detect old newer pc = some (out, detFault old newer pc) ∧ ((detFault old newer pc).Code ≠ 0 → out = []) ∧ ((detFault old newer pc).Code = 0 → ∃ ps, DetX old newer pc ps out) := by
  unfold rename_Detect
  rw [Validate_f, Option.bind_some, tf_cond _ (treeFault_ok _), ite_dec]
  by_cases h1 : (treeFault old.Files).Code ≠ 0
  · have hd : detFault old newer pc = treeFault old.Files := by unfold detFault; rw [if_pos h1]
    rw [if_pos h1, hd]; exact ⟨_, rfl, fun _ => rfl, fun h => absurd h h1⟩
  rw [if_neg h1, tsecond_f, Option.bind_some]
  have ho := (treeFault_zero _).1 (Classical.not_not.1 h1)
  by_cases h2 : (treeFault newer.Files).Code = 0
  case neg =>
    have hd : detFault old newer pc = ⟨(treeFault newer.Files).Code, -2⟩ := by unfold detFault; rw [if_neg h1, if_pos h2]
    rw [hd, if_neg h2, tf_cond ⟨(treeFault newer.Files).Code, -2⟩ (.inr h2), ite_dec, if_pos h2]
    exact ⟨_, rfl, fun _ => rfl, fun h => absurd h h2⟩
  have hn := (treeFault_zero _).1 h2
  rw [if_pos h2, if_neg (by decide), ors, Option.bind_some, ite_dec]
  by_cases h3 : pc < 0 ∨ pc > 100
  · have hd : detFault old newer pc = ⟨3, -3⟩ := by unfold detFault; rw [if_neg h1, if_neg (fun h => h h2), if_pos h3]
    rw [hd, if_pos h3]; exact ⟨_, rfl, fun _ => rfl, fun h => absurd h (by decide)⟩
  have hd : detFault old newer pc = ⟨0, 0⟩ := by unfold detFault; rw [if_neg h1, if_neg (fun h => h h2), if_neg h3]
  rw [hd, if_neg h3]
  have l1 := ho.len
  have l2 := hn.len
  rw [only_f (by omega) hn.srt (by omega), Option.bind_some, all_f ho hn, Option.bind_some]
  have la : (onlyF old.Files newer.Files).length ≤ 24 := Nat.le_trans (List.length_filter_le _ _) l1
  have lb : (onlyF newer.Files old.Files).length ≤ 24 := Nat.le_trans (List.length_filter_le _ _) l2
  have hlen := all_len pc (onlyF newer.Files old.Files) (onlyF old.Files newer.Files)
  have hmul : (onlyF old.Files newer.Files).length * (onlyF newer.Files old.Files).length ≤ 24 * 24 := Nat.mul_le_mul la lb
  have hmem := @mem_all pc (onlyF old.Files newer.Files) (onlyF newer.Files old.Files)
  generalize hall : allF pc (onlyF old.Files newer.Files) (onlyF newer.Files old.Files) = all at hlen hmem
  have hb : ∀ x ∈ all, 0 ≤ x.percent ∧ x.percent ≤ 100 := by
    intro x hx
    obtain ⟨a, _, b, _, _, rfl⟩ := hmem.1 hx
    have := simil_bounds a.Lines b.Lines
    exact ⟨this.1, this.2.1⟩
  unfold rename_Detect.j1
  rw [sortM_eq (fit1 hb) (by omega), Option.bind_some]
  have hperm := List.mergeSort_perm all fun x y => !ltM rename_Detect_s1 y x
  have hpw := sortM_pw (fit1 hb)
  generalize (all.mergeSort fun x y => !ltM rename_Detect_s1 y x) = ps at hperm hpw
  have hpl := hperm.length_eq
  obtain ⟨out, e, rfl, G⟩ := greedy_f (old := old) (newer := newer) (ps := ps) (by omega)
  rw [e, Option.bind_some]
  unfold rename_Detect.j2
  have hol := G.len
  have hinj := grd_inj G
  rw [sortM_eq (fit3 hinj) (by omega), Option.bind_some]
  have hperm2 := List.mergeSort_perm (ps.foldl stepG []) fun x y => !ltM rename_Detect_s3 y x
  have hpw2 := sortM_pw (fit3 hinj)
  generalize ((ps.foldl stepG []).mergeSort fun x y => !ltM rename_Detect_s3 y x) = fin at hperm2 hpw2
  refine ⟨fin, rfl, fun h => absurd rfl h, fun _ => ⟨ps, ho, hn, by omega, by omega, hall ▸ hperm, ?_, G, by omega, hperm2, ?_⟩⟩
  · rw [List.pairwise_iff_getElem] at hpw ⊢
    intro i j hi hj hij hL
    have := hpw i j hi hj hij
    rw [(s1_lt (hb _ (hperm.mem_iff.1 (List.getElem_mem hj))) (hb _ (hperm.mem_iff.1 (List.getElem_mem hi)))).2 hL] at this
    cases this
  · have hdis : fin.Pairwise fun a b => a.e0 ≠ b.e0 ∧ a.e1 ≠ b.e1 := hperm2.symm.pairwise G.dis (fun {a b} h => ⟨fun e => h.1 e.symm, fun e => h.2 e.symm⟩)
    rw [List.pairwise_iff_getElem] at hpw2 hdis ⊢
    intro i j hi hj hij
    rcases sLt_tri fin[i].e0 fin[j].e0 with h | h | h
    · exact h
    · exact absurd h (hdis i j hi hj hij).1
    · have := hpw2 i j hi hj hij
      rw [(s3_lt _ _).2 h] at this; cases this
end Go.Dc
