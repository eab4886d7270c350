/- How the structs of the arguments read. -/
import Derived.Test.YthpkobkngplbbaaGreatDoorDcTab
import Derived.Test.YthpkobkngplbbaaGreatDoorDcI
namespace Go.Dc
open Go Go.Proofs
set_option linter.unusedVariables false
theorem exL1 {α : Type} {l : List α} (h : l.length = 1) : ∃ a0, l = [a0] := by
  match l, h with
  | [a0], _ => exact ⟨a0, rfl⟩
theorem exL2 {α : Type} {l : List α} (h : l.length = 2) : ∃ a0 a1, l = [a0, a1] := by
  match l, h with
  | [a0, a1], _ => exact ⟨a0, a1, rfl⟩
theorem exL3 {α : Type} {l : List α} (h : l.length = 3) : ∃ a0 a1 a2, l = [a0, a1, a2] := by
  match l, h with
  | [a0, a1, a2], _ => exact ⟨a0, a1, a2, rfl⟩
instance : Msr File := ⟨fun x => Msr.m x.Path + Msr.m x.Lines + 1⟩
def Ok70 (x : File) : Prop := (fun s => s.size ≤ 9223372036854775807) x.Path ∧ (fun l => l.length ≤ 9223372036854775807 ∧ ∀ x ∈ l, (fun s => s.size ≤ 9223372036854775807) x) x.Lines
theorem rd70 : Readable Tryz.prog 70 File Ok70 := by
  intro H enc w fuel cs x ht
  obtain ⟨hlen, n, ys, hx, hy, hf⟩ := trod_fields (show Tryz.prog.underlying 70 = some (.struct (Tryz.prog.fieldsOf 70)) from by kernel_rfl) ht
  rw [show Tryz.prog.cellsOf 70 = 2 from by kernel_rfl] at hlen
  obtain ⟨c0, c1, rfl⟩ := exL2 hlen
  obtain ⟨y0, e0, t0⟩ := hf 0 0 9 (by kernel_rfl)
  rw [show Tryz.prog.cellsOf 9 = 1 from by kernel_rfl] at t0
  obtain ⟨d0, r0, k0, m0⟩ := (read_str (show Tryz.prog.underlying 9 = some (.string) from by kernel_rfl)) H enc w n [c0] _ t0
  obtain rfl := (List.cons.inj (rep_str r0)).1
  obtain ⟨y1, e1, t1⟩ := hf 1 1 28 (by kernel_rfl)
  rw [show Tryz.prog.cellsOf 28 = 1 from by kernel_rfl] at t1
  obtain ⟨d1, r1, k1, m1⟩ := (read_slice (show Tryz.prog.underlying 28 = some (.slice 9) from by kernel_rfl) (by kernel_rfl) (by decide) (read_str (show Tryz.prog.underlying 9 = some (.string) from by kernel_rfl))) H enc w n [c1] _ t1
  obtain ⟨v1, q1, s1⟩ := rep_list r1
  obtain rfl := (List.cons.inj q1).1
  refine ⟨⟨d0, d1⟩, rep_File_mk s1, ⟨k0, k1⟩, fun B BA hB => ?_⟩
  rw [hx]
  have hg := hB.agg (ys.map (·.1))
  obtain ⟨w0, w1, rfl⟩ := exL2 (hy.trans (show _ = 2 from by kernel_rfl))
  obtain rfl : w0 = y0 := Option.some.inj e0
  have p0 := m0 B BA hB
  have g0 := hB.cons w0.1 [w1.1]
  obtain rfl : w1 = y1 := Option.some.inj e1
  have p1 := m1 B BA hB
  have g1 := hB.cons w1.1 []
  have hg : BA [w0.1, w1.1] + 1 ≤ B (.agg [w0.1, w1.1]) := hg
  show Msr.m d0 + Msr.m d1 + 1 ≤ B (.agg [w0.1, w1.1])
  omega
instance : Msr FileTree := ⟨fun x => Msr.m x.Files + 1⟩
def Ok24 (x : FileTree) : Prop := (fun l => l.length ≤ 9223372036854775807 ∧ ∀ x ∈ l, Ok70 x) x.Files
theorem rd24 : Readable Tryz.prog 24 FileTree Ok24 := by
  intro H enc w fuel cs x ht
  obtain ⟨hlen, n, ys, hx, hy, hf⟩ := trod_fields (show Tryz.prog.underlying 24 = some (.struct (Tryz.prog.fieldsOf 24)) from by kernel_rfl) ht
  rw [show Tryz.prog.cellsOf 24 = 1 from by kernel_rfl] at hlen
  obtain ⟨c0, rfl⟩ := exL1 hlen
  obtain ⟨y0, e0, t0⟩ := hf 0 0 22 (by kernel_rfl)
  rw [show Tryz.prog.cellsOf 22 = 1 from by kernel_rfl] at t0
  obtain ⟨d0, r0, k0, m0⟩ := (read_slice (show Tryz.prog.underlying 22 = some (.slice 70) from by kernel_rfl) (by kernel_rfl) (by decide) rd70) H enc w n [c0] _ t0
  obtain ⟨v0, q0, s0⟩ := rep_list r0
  obtain rfl := (List.cons.inj q0).1
  refine ⟨⟨d0⟩, rep_FileTree_mk s0, k0, fun B BA hB => ?_⟩
  rw [hx]
  have hg := hB.agg (ys.map (·.1))
  obtain ⟨w0, rfl⟩ := exL1 (hy.trans (show _ = 1 from by kernel_rfl))
  obtain rfl : w0 = y0 := Option.some.inj e0
  have p0 := m0 B BA hB
  have g0 := hB.cons w0.1 []
  have hg : BA [w0.1] + 1 ≤ B (.agg [w0.1]) := hg
  show Msr.m d0 + 1 ≤ B (.agg [w0.1])
  omega
instance : Msr Hunk := ⟨fun x => Msr.m x.At + Msr.m x.Old + Msr.m x.New + 1⟩
def Ok65 (x : Hunk) : Prop := (fun x => -9223372036854775808 ≤ x ∧ x ≤ 9223372036854775807) x.At ∧ (fun l => l.length ≤ 9223372036854775807 ∧ ∀ x ∈ l, (fun s => s.size ≤ 9223372036854775807) x) x.Old ∧ (fun l => l.length ≤ 9223372036854775807 ∧ ∀ x ∈ l, (fun s => s.size ≤ 9223372036854775807) x) x.New
theorem rd65 : Readable Tryz.prog 65 Hunk Ok65 := by
  intro H enc w fuel cs x ht
  obtain ⟨hlen, n, ys, hx, hy, hf⟩ := trod_fields (show Tryz.prog.underlying 65 = some (.struct (Tryz.prog.fieldsOf 65)) from by kernel_rfl) ht
  rw [show Tryz.prog.cellsOf 65 = 3 from by kernel_rfl] at hlen
  obtain ⟨c0, c1, c2, rfl⟩ := exL3 hlen
  obtain ⟨y0, e0, t0⟩ := hf 0 0 3 (by kernel_rfl)
  rw [show Tryz.prog.cellsOf 3 = 1 from by kernel_rfl] at t0
  obtain ⟨d0, r0, k0, m0⟩ := (read_int (show Tryz.prog.underlying 3 = some (.int .i64) from by kernel_rfl)) H enc w n [c0] _ t0
  obtain rfl := (List.cons.inj (rep_int r0)).1
  obtain ⟨y1, e1, t1⟩ := hf 1 1 28 (by kernel_rfl)
  rw [show Tryz.prog.cellsOf 28 = 1 from by kernel_rfl] at t1
  obtain ⟨d1, r1, k1, m1⟩ := (read_slice (show Tryz.prog.underlying 28 = some (.slice 9) from by kernel_rfl) (by kernel_rfl) (by decide) (read_str (show Tryz.prog.underlying 9 = some (.string) from by kernel_rfl))) H enc w n [c1] _ t1
  obtain ⟨v1, q1, s1⟩ := rep_list r1
  obtain rfl := (List.cons.inj q1).1
  obtain ⟨y2, e2, t2⟩ := hf 2 2 28 (by kernel_rfl)
  rw [show Tryz.prog.cellsOf 28 = 1 from by kernel_rfl] at t2
  obtain ⟨d2, r2, k2, m2⟩ := (read_slice (show Tryz.prog.underlying 28 = some (.slice 9) from by kernel_rfl) (by kernel_rfl) (by decide) (read_str (show Tryz.prog.underlying 9 = some (.string) from by kernel_rfl))) H enc w n [c2] _ t2
  obtain ⟨v2, q2, s2⟩ := rep_list r2
  obtain rfl := (List.cons.inj q2).1
  refine ⟨⟨d0, d1, d2⟩, rep_Hunk_mk s1 s2, ⟨k0, k1, k2⟩, fun B BA hB => ?_⟩
  rw [hx]
  have hg := hB.agg (ys.map (·.1))
  obtain ⟨w0, w1, w2, rfl⟩ := exL3 (hy.trans (show _ = 3 from by kernel_rfl))
  obtain rfl : w0 = y0 := Option.some.inj e0
  have p0 := m0 B BA hB
  have g0 := hB.cons w0.1 [w1.1, w2.1]
  obtain rfl : w1 = y1 := Option.some.inj e1
  have p1 := m1 B BA hB
  have g1 := hB.cons w1.1 [w2.1]
  obtain rfl : w2 = y2 := Option.some.inj e2
  have p2 := m2 B BA hB
  have g2 := hB.cons w2.1 []
  have hg : BA [w0.1, w1.1, w2.1] + 1 ≤ B (.agg [w0.1, w1.1, w2.1]) := hg
  show Msr.m d0 + Msr.m d1 + Msr.m d2 + 1 ≤ B (.agg [w0.1, w1.1, w2.1])
  omega
instance : Msr Patch := ⟨fun x => Msr.m x.Hunks + 1⟩
def Ok27 (x : Patch) : Prop := (fun l => l.length ≤ 9223372036854775807 ∧ ∀ x ∈ l, Ok65 x) x.Hunks
theorem rd27 : Readable Tryz.prog 27 Patch Ok27 := by
  intro H enc w fuel cs x ht
  obtain ⟨hlen, n, ys, hx, hy, hf⟩ := trod_fields (show Tryz.prog.underlying 27 = some (.struct (Tryz.prog.fieldsOf 27)) from by kernel_rfl) ht
  rw [show Tryz.prog.cellsOf 27 = 1 from by kernel_rfl] at hlen
  obtain ⟨c0, rfl⟩ := exL1 hlen
  obtain ⟨y0, e0, t0⟩ := hf 0 0 25 (by kernel_rfl)
  rw [show Tryz.prog.cellsOf 25 = 1 from by kernel_rfl] at t0
  obtain ⟨d0, r0, k0, m0⟩ := (read_slice (show Tryz.prog.underlying 25 = some (.slice 65) from by kernel_rfl) (by kernel_rfl) (by decide) rd65) H enc w n [c0] _ t0
  obtain ⟨v0, q0, s0⟩ := rep_list r0
  obtain rfl := (List.cons.inj q0).1
  refine ⟨⟨d0⟩, rep_Patch_mk s0, k0, fun B BA hB => ?_⟩
  rw [hx]
  have hg := hB.agg (ys.map (·.1))
  obtain ⟨w0, rfl⟩ := exL1 (hy.trans (show _ = 1 from by kernel_rfl))
  obtain rfl : w0 = y0 := Option.some.inj e0
  have p0 := m0 B BA hB
  have g0 := hB.cons w0.1 []
  have hg : BA [w0.1] + 1 ≤ B (.agg [w0.1]) := hg
  show Msr.m d0 + 1 ≤ B (.agg [w0.1])
  omega
end Go.Dc
