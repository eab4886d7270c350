import Derived.Test.YtmhjcomgbfonfaaGreatDoorDcTab
import Derived.Test.YtmhjcomgbfonfaaGreatDoorDcI
namespace Go.Dc
open Go Go.Proofs
set_option linter.unusedVariables false
theorem exL1 {α : Type} {l : List α} (h : l.length = 1) : ∃ a0, l = [a0] := by
  match l, h with
  | [a0], _ => exact ⟨a0, rfl⟩
theorem exL2 {α : Type} {l : List α} (h : l.length = 2) : ∃ a0 a1, l = [a0, a1] := by
  match l, h with
  | [a0, a1], _ => exact ⟨a0, a1, rfl⟩
theorem exL3 {α : Type} {l : List α} (h : l.length = 3) : ∃ a0 a1 a2, l = [a0, a1, a2] := by
  match l, h with
  | [a0, a1, a2], _ => exact ⟨a0, a1, a2, rfl⟩
theorem exL5 {α : Type} {l : List α} (h : l.length = 5) : ∃ a0 a1 a2 a3 a4, l = [a0, a1, a2, a3, a4] := by
  match l, h with
  | [a0, a1, a2, a3, a4], _ => exact ⟨a0, a1, a2, a3, a4, rfl⟩
instance : Msr File := ⟨fun x => Msr.m x.Path + Msr.m x.Lines + 1⟩
def Ok80 (x : File) : Prop := (fun s => s.size ≤ 9223372036854775807) x.Path ∧ (fun l => l.length ≤ 9223372036854775807 ∧ ∀ x ∈ l, (fun s => s.size ≤ 9223372036854775807) x) x.Lines
theorem rd80 : Lp Tryz.prog 80 File Ok80 := by
  intro H enc w fuel cs x ht; obtain ⟨hlen, n, ys, hx, hy, hf⟩ := L5 (show Tryz.prog.underlying 80 = some (.struct (Tryz.prog.fieldsOf 80)) from by kernel_rfl) ht
  rw [show Tryz.prog.cellsOf 80 = 2 from by kernel_rfl] at hlen
  obtain ⟨c0, c1, rfl⟩ := exL2 hlen; obtain ⟨y0, e0, t0⟩ := hf 0 0 9 (by kernel_rfl)
  rw [show Tryz.prog.cellsOf 9 = 1 from by kernel_rfl] at t0
  obtain ⟨d0, r0, k0, m0⟩ := (N2 (show Tryz.prog.underlying 9 = some (.string) from by kernel_rfl)) H enc w n [c0] _ t0
  obtain rfl := (List.cons.inj (Ez r0)).1; obtain ⟨y1, e1, t1⟩ := hf 1 1 42 (by kernel_rfl)
  rw [show Tryz.prog.cellsOf 42 = 1 from by kernel_rfl] at t1
  obtain ⟨d1, r1, k1, m1⟩ := (Lw (show Tryz.prog.underlying 42 = some (.slice 9) from by kernel_rfl) (by kernel_rfl) (by decide) (N2 (show Tryz.prog.underlying 9 = some (.string) from by kernel_rfl))) H enc w n [c1] _ t1
  obtain ⟨v1, q1, s1⟩ := La r1; obtain rfl := (List.cons.inj q1).1; refine ⟨⟨d0, d1⟩, Kx s1, ⟨k0, k1⟩, fun B BA hB => ?_⟩; rw [hx]; have hg := hB.agg (ys.map (·.1)); obtain ⟨w0, w1, rfl⟩ := exL2 (hy.trans (show _ = 2 from by kernel_rfl))
  obtain rfl : w0 = y0 := Option.some.inj e0; have p0 := m0 B BA hB; have g0 := hB.cons w0.1 [w1.1]; obtain rfl : w1 = y1 := Option.some.inj e1; have p1 := m1 B BA hB; have g1 := hB.cons w1.1 []; have hg : BA [w0.1, w1.1] + 1 ≤ B (.agg [w0.1, w1.1]) := hg; show Msr.m d0 + Msr.m d1 + 1 ≤ B (.agg [w0.1, w1.1]); omega
instance : Msr FileTree := ⟨fun x => Msr.m x.Files + 1⟩
def Ok24 (x : FileTree) : Prop := (fun l => l.length ≤ 9223372036854775807 ∧ ∀ x ∈ l, Ok80 x) x.Files
theorem rd24 : Lp Tryz.prog 24 FileTree Ok24 := by
  intro H enc w fuel cs x ht; obtain ⟨hlen, n, ys, hx, hy, hf⟩ := L5 (show Tryz.prog.underlying 24 = some (.struct (Tryz.prog.fieldsOf 24)) from by kernel_rfl) ht
  rw [show Tryz.prog.cellsOf 24 = 1 from by kernel_rfl] at hlen
  obtain ⟨c0, rfl⟩ := exL1 hlen; obtain ⟨y0, e0, t0⟩ := hf 0 0 22 (by kernel_rfl)
  rw [show Tryz.prog.cellsOf 22 = 1 from by kernel_rfl] at t0
  obtain ⟨d0, r0, k0, m0⟩ := (Lw (show Tryz.prog.underlying 22 = some (.slice 80) from by kernel_rfl) (by kernel_rfl) (by decide) rd80) H enc w n [c0] _ t0
  obtain ⟨v0, q0, s0⟩ := La r0; obtain rfl := (List.cons.inj q0).1; refine ⟨⟨d0⟩, rep_FileTree_mk s0, k0, fun B BA hB => ?_⟩; rw [hx]; have hg := hB.agg (ys.map (·.1)); obtain ⟨w0, rfl⟩ := exL1 (hy.trans (show _ = 1 from by kernel_rfl))
  obtain rfl : w0 = y0 := Option.some.inj e0; have p0 := m0 B BA hB; have g0 := hB.cons w0.1 []; have hg : BA [w0.1] + 1 ≤ B (.agg [w0.1]) := hg; show Msr.m d0 + 1 ≤ B (.agg [w0.1]); omega
instance : Msr Hunk := ⟨fun x => Msr.m x.At + Msr.m x.Old + Msr.m x.New + 1⟩
def Ok91 (x : Hunk) : Prop := (fun x => -9223372036854775808 ≤ x ∧ x ≤ 9223372036854775807) x.At ∧ (fun l => l.length ≤ 9223372036854775807 ∧ ∀ x ∈ l, (fun s => s.size ≤ 9223372036854775807) x) x.Old ∧ (fun l => l.length ≤ 9223372036854775807 ∧ ∀ x ∈ l, (fun s => s.size ≤ 9223372036854775807) x) x.New
theorem rd91 : Lp Tryz.prog 91 Hunk Ok91 := by
  intro H enc w fuel cs x ht; obtain ⟨hlen, n, ys, hx, hy, hf⟩ := L5 (show Tryz.prog.underlying 91 = some (.struct (Tryz.prog.fieldsOf 91)) from by kernel_rfl) ht
  rw [show Tryz.prog.cellsOf 91 = 3 from by kernel_rfl] at hlen
  obtain ⟨c0, c1, c2, rfl⟩ := exL3 hlen; obtain ⟨y0, e0, t0⟩ := hf 0 0 3 (by kernel_rfl)
  rw [show Tryz.prog.cellsOf 3 = 1 from by kernel_rfl] at t0
  obtain ⟨d0, r0, k0, m0⟩ := (read_int (show Tryz.prog.underlying 3 = some (.int .i64) from by kernel_rfl)) H enc w n [c0] _ t0
  obtain rfl := (List.cons.inj (Mj r0)).1; obtain ⟨y1, e1, t1⟩ := hf 1 1 42 (by kernel_rfl)
  rw [show Tryz.prog.cellsOf 42 = 1 from by kernel_rfl] at t1
  obtain ⟨d1, r1, k1, m1⟩ := (Lw (show Tryz.prog.underlying 42 = some (.slice 9) from by kernel_rfl) (by kernel_rfl) (by decide) (N2 (show Tryz.prog.underlying 9 = some (.string) from by kernel_rfl))) H enc w n [c1] _ t1
  obtain ⟨v1, q1, s1⟩ := La r1; obtain rfl := (List.cons.inj q1).1; obtain ⟨y2, e2, t2⟩ := hf 2 2 42 (by kernel_rfl)
  rw [show Tryz.prog.cellsOf 42 = 1 from by kernel_rfl] at t2
  obtain ⟨d2, r2, k2, m2⟩ := (Lw (show Tryz.prog.underlying 42 = some (.slice 9) from by kernel_rfl) (by kernel_rfl) (by decide) (N2 (show Tryz.prog.underlying 9 = some (.string) from by kernel_rfl))) H enc w n [c2] _ t2
  obtain ⟨v2, q2, s2⟩ := La r2; obtain rfl := (List.cons.inj q2).1; refine ⟨⟨d0, d1, d2⟩, L6 s1 s2, ⟨k0, k1, k2⟩, fun B BA hB => ?_⟩; rw [hx]; have hg := hB.agg (ys.map (·.1)); obtain ⟨w0, w1, w2, rfl⟩ := exL3 (hy.trans (show _ = 3 from by kernel_rfl))
  obtain rfl : w0 = y0 := Option.some.inj e0; have p0 := m0 B BA hB; have g0 := hB.cons w0.1 [w1.1, w2.1]; obtain rfl : w1 = y1 := Option.some.inj e1; have p1 := m1 B BA hB; have g1 := hB.cons w1.1 [w2.1]; obtain rfl : w2 = y2 := Option.some.inj e2; have p2 := m2 B BA hB; have g2 := hB.cons w2.1 []; have hg : BA [w0.1, w1.1, w2.1] + 1 ≤ B (.agg [w0.1, w1.1, w2.1]) := hg; show Msr.m d0 + Msr.m d1 + Msr.m d2 + 1 ≤ B (.agg [w0.1, w1.1, w2.1]); omega
instance : Msr Patch := ⟨fun x => Msr.m x.Hunks + 1⟩
def Ok45 (x : Patch) : Prop := (fun l => l.length ≤ 9223372036854775807 ∧ ∀ x ∈ l, Ok91 x) x.Hunks
theorem rd45 : Lp Tryz.prog 45 Patch Ok45 := by
  intro H enc w fuel cs x ht; obtain ⟨hlen, n, ys, hx, hy, hf⟩ := L5 (show Tryz.prog.underlying 45 = some (.struct (Tryz.prog.fieldsOf 45)) from by kernel_rfl) ht
  rw [show Tryz.prog.cellsOf 45 = 1 from by kernel_rfl] at hlen
  obtain ⟨c0, rfl⟩ := exL1 hlen; obtain ⟨y0, e0, t0⟩ := hf 0 0 43 (by kernel_rfl)
  rw [show Tryz.prog.cellsOf 43 = 1 from by kernel_rfl] at t0
  obtain ⟨d0, r0, k0, m0⟩ := (Lw (show Tryz.prog.underlying 43 = some (.slice 91) from by kernel_rfl) (by kernel_rfl) (by decide) rd91) H enc w n [c0] _ t0
  obtain ⟨v0, q0, s0⟩ := La r0; obtain rfl := (List.cons.inj q0).1; refine ⟨⟨d0⟩, rep_Patch_mk s0, k0, fun B BA hB => ?_⟩; rw [hx]; have hg := hB.agg (ys.map (·.1)); obtain ⟨w0, rfl⟩ := exL1 (hy.trans (show _ = 1 from by kernel_rfl))
  obtain rfl : w0 = y0 := Option.some.inj e0; have p0 := m0 B BA hB; have g0 := hB.cons w0.1 []; have hg : BA [w0.1] + 1 ≤ B (.agg [w0.1]) := hg; show Msr.m d0 + 1 ≤ B (.agg [w0.1]); omega
instance : Msr TreeChange := ⟨fun x => Msr.m x.Kind + Msr.m x.Path + Msr.m x.To + Msr.m x.Lines + Msr.m x.Patch + 1⟩
def Ok51 (x : TreeChange) : Prop := (fun x => -9223372036854775808 ≤ x ∧ x ≤ 9223372036854775807) x.Kind ∧ (fun s => s.size ≤ 9223372036854775807) x.Path ∧ (fun s => s.size ≤ 9223372036854775807) x.To ∧ (fun l => l.length ≤ 9223372036854775807 ∧ ∀ x ∈ l, (fun s => s.size ≤ 9223372036854775807) x) x.Lines ∧ Ok45 x.Patch
theorem rd51 : Lp Tryz.prog 51 TreeChange Ok51 := by
  intro H enc w fuel cs x ht; obtain ⟨hlen, n, ys, hx, hy, hf⟩ := L5 (show Tryz.prog.underlying 51 = some (.struct (Tryz.prog.fieldsOf 51)) from by kernel_rfl) ht
  rw [show Tryz.prog.cellsOf 51 = 5 from by kernel_rfl] at hlen
  obtain ⟨c0, c1, c2, c3, c4, rfl⟩ := exL5 hlen; obtain ⟨y0, e0, t0⟩ := hf 0 0 3 (by kernel_rfl)
  rw [show Tryz.prog.cellsOf 3 = 1 from by kernel_rfl] at t0
  obtain ⟨d0, r0, k0, m0⟩ := (read_int (show Tryz.prog.underlying 3 = some (.int .i64) from by kernel_rfl)) H enc w n [c0] _ t0
  obtain rfl := (List.cons.inj (Mj r0)).1; obtain ⟨y1, e1, t1⟩ := hf 1 1 9 (by kernel_rfl)
  rw [show Tryz.prog.cellsOf 9 = 1 from by kernel_rfl] at t1
  obtain ⟨d1, r1, k1, m1⟩ := (N2 (show Tryz.prog.underlying 9 = some (.string) from by kernel_rfl)) H enc w n [c1] _ t1
  obtain rfl := (List.cons.inj (Ez r1)).1; obtain ⟨y2, e2, t2⟩ := hf 2 2 9 (by kernel_rfl)
  rw [show Tryz.prog.cellsOf 9 = 1 from by kernel_rfl] at t2
  obtain ⟨d2, r2, k2, m2⟩ := (N2 (show Tryz.prog.underlying 9 = some (.string) from by kernel_rfl)) H enc w n [c2] _ t2
  obtain rfl := (List.cons.inj (Ez r2)).1; obtain ⟨y3, e3, t3⟩ := hf 3 3 42 (by kernel_rfl)
  rw [show Tryz.prog.cellsOf 42 = 1 from by kernel_rfl] at t3
  obtain ⟨d3, r3, k3, m3⟩ := (Lw (show Tryz.prog.underlying 42 = some (.slice 9) from by kernel_rfl) (by kernel_rfl) (by decide) (N2 (show Tryz.prog.underlying 9 = some (.string) from by kernel_rfl))) H enc w n [c3] _ t3
  obtain ⟨v3, q3, s3⟩ := La r3; obtain rfl := (List.cons.inj q3).1; obtain ⟨y4, e4, t4⟩ := hf 4 4 45 (by kernel_rfl)
  rw [show Tryz.prog.cellsOf 45 = 1 from by kernel_rfl] at t4
  obtain ⟨d4, r4, k4, m4⟩ := rd45 H enc w n [c4] _ t4; obtain ⟨v4_0, q4, s4_0⟩ := rep_Patch r4; simp only [List.cons.injEq, and_true] at q4; obtain rfl := q4; refine ⟨⟨d0, d1, d2, d3, d4⟩, D2 s3 s4_0, ⟨k0, k1, k2, k3, k4⟩, fun B BA hB => ?_⟩; rw [hx]; have hg := hB.agg (ys.map (·.1)); obtain ⟨w0, w1, w2, w3, w4, rfl⟩ := exL5 (hy.trans (show _ = 5 from by kernel_rfl))
  obtain rfl : w0 = y0 := Option.some.inj e0; have p0 := m0 B BA hB; have g0 := hB.cons w0.1 [w1.1, w2.1, w3.1, w4.1]; obtain rfl : w1 = y1 := Option.some.inj e1; have p1 := m1 B BA hB; have g1 := hB.cons w1.1 [w2.1, w3.1, w4.1]; obtain rfl : w2 = y2 := Option.some.inj e2; have p2 := m2 B BA hB; have g2 := hB.cons w2.1 [w3.1, w4.1]; obtain rfl : w3 = y3 := Option.some.inj e3; have p3 := m3 B BA hB; have g3 := hB.cons w3.1 [w4.1]; obtain rfl : w4 = y4 := Option.some.inj e4; have p4 := m4 B BA hB; have g4 := hB.cons w4.1 []; have hg : BA [w0.1, w1.1, w2.1, w3.1, w4.1] + 1 ≤ B (.agg [w0.1, w1.1, w2.1, w3.1, w4.1]) := hg; show Msr.m d0 + Msr.m d1 + Msr.m d2 + Msr.m d3 + Msr.m d4 + 1 ≤ B (.agg [w0.1, w1.1, w2.1, w3.1, w4.1]); omega
instance : Msr TreePatch := ⟨fun x => Msr.m x.Changes + 1⟩
def Ok27 (x : TreePatch) : Prop := (fun l => l.length ≤ 9223372036854775807 ∧ ∀ x ∈ l, Ok51 x) x.Changes
theorem rd27 : Lp Tryz.prog 27 TreePatch Ok27 := by
  intro H enc w fuel cs x ht; obtain ⟨hlen, n, ys, hx, hy, hf⟩ := L5 (show Tryz.prog.underlying 27 = some (.struct (Tryz.prog.fieldsOf 27)) from by kernel_rfl) ht
  rw [show Tryz.prog.cellsOf 27 = 1 from by kernel_rfl] at hlen
  obtain ⟨c0, rfl⟩ := exL1 hlen; obtain ⟨y0, e0, t0⟩ := hf 0 0 25 (by kernel_rfl)
  rw [show Tryz.prog.cellsOf 25 = 1 from by kernel_rfl] at t0
  obtain ⟨d0, r0, k0, m0⟩ := (Lw (show Tryz.prog.underlying 25 = some (.slice 51) from by kernel_rfl) (by kernel_rfl) (by decide) rd51) H enc w n [c0] _ t0
  obtain ⟨v0, q0, s0⟩ := La r0; obtain rfl := (List.cons.inj q0).1; refine ⟨⟨d0⟩, rep_TreePatch_mk s0, k0, fun B BA hB => ?_⟩; rw [hx]; have hg := hB.agg (ys.map (·.1)); obtain ⟨w0, rfl⟩ := exL1 (hy.trans (show _ = 1 from by kernel_rfl))
  obtain rfl : w0 = y0 := Option.some.inj e0; have p0 := m0 B BA hB; have g0 := hB.cons w0.1 []; have hg : BA [w0.1] + 1 ≤ B (.agg [w0.1]) := hg; show Msr.m d0 + 1 ≤ B (.agg [w0.1]); omega
end Go.Dc
