/- How the structs of the arguments read. -/
import Derived.Test.YthknfnjdnclphaaDcTab
import Derived.Test.YthknfnjdnclphaaDcI
namespace Go.Dc
open Go Go.Proofs
set_option linter.unusedVariables false
theorem exL2 {α : Type} {l : List α} (h : l.length = 2) : ∃ a0 a1, l = [a0, a1] := by
  match l, h with
  | [a0, a1], _ => exact ⟨a0, a1, rfl⟩
theorem exL4 {α : Type} {l : List α} (h : l.length = 4) : ∃ a0 a1 a2 a3, l = [a0, a1, a2, a3] := by
  match l, h with
  | [a0, a1, a2, a3], _ => exact ⟨a0, a1, a2, a3, rfl⟩
instance : Msr Row := ⟨fun x => Msr.m x.Key + Msr.m x.Cells + 1⟩
def Ok54 (x : Row) : Prop := (fun s => s.size ≤ 9223372036854775807) x.Key ∧ (fun l => l.length ≤ 9223372036854775807 ∧ ∀ x ∈ l, (fun s => s.size ≤ 9223372036854775807) x) x.Cells
theorem rd54 : Readable Try.prog 54 Row Ok54 := by
  intro H enc w fuel cs x ht
  obtain ⟨hlen, n, ys, hx, hy, hf⟩ := trod_fields (show Try.prog.underlying 54 = some (.struct (Try.prog.fieldsOf 54)) from by kernel_rfl) ht
  rw [show Try.prog.cellsOf 54 = 2 from by kernel_rfl] at hlen
  obtain ⟨c0, c1, rfl⟩ := exL2 hlen
  obtain ⟨y0, e0, t0⟩ := hf 0 0 9 (by kernel_rfl)
  rw [show Try.prog.cellsOf 9 = 1 from by kernel_rfl] at t0
  obtain ⟨d0, r0, k0, m0⟩ := (read_str (show Try.prog.underlying 9 = some (.string) from by kernel_rfl)) H enc w n [c0] _ t0
  obtain rfl := (List.cons.inj (rep_str r0)).1
  obtain ⟨y1, e1, t1⟩ := hf 1 1 22 (by kernel_rfl)
  rw [show Try.prog.cellsOf 22 = 1 from by kernel_rfl] at t1
  obtain ⟨d1, r1, k1, m1⟩ := (read_slice (show Try.prog.underlying 22 = some (.slice 9) from by kernel_rfl) (by kernel_rfl) (by decide) (read_str (show Try.prog.underlying 9 = some (.string) from by kernel_rfl))) H enc w n [c1] _ t1
  obtain ⟨v1, q1, s1⟩ := rep_list r1
  obtain rfl := (List.cons.inj q1).1
  refine ⟨⟨d0, d1⟩, rep_Row_mk s1, ⟨k0, k1⟩, fun B BA hB => ?_⟩
  rw [hx]
  have hg := hB.agg (ys.map (·.1))
  obtain ⟨w0, w1, rfl⟩ := exL2 (hy.trans (show _ = 2 from by kernel_rfl))
  obtain rfl : w0 = y0 := Option.some.inj e0
  have p0 := m0 B BA hB
  have g0 := hB.cons w0.1 [w1.1]
  obtain rfl : w1 = y1 := Option.some.inj e1
  have p1 := m1 B BA hB
  have g1 := hB.cons w1.1 []
  have hg : BA [w0.1, w1.1] + 1 ≤ B (.agg [w0.1, w1.1]) := hg
  show Msr.m d0 + Msr.m d1 + 1 ≤ B (.agg [w0.1, w1.1])
  omega
instance : Msr Table := ⟨fun x => Msr.m x.Columns + Msr.m x.Rows + 1⟩
def Ok25 (x : Table) : Prop := (fun l => l.length ≤ 9223372036854775807 ∧ ∀ x ∈ l, (fun s => s.size ≤ 9223372036854775807) x) x.Columns ∧ (fun l => l.length ≤ 9223372036854775807 ∧ ∀ x ∈ l, Ok54 x) x.Rows
theorem rd25 : Readable Try.prog 25 Table Ok25 := by
  intro H enc w fuel cs x ht
  obtain ⟨hlen, n, ys, hx, hy, hf⟩ := trod_fields (show Try.prog.underlying 25 = some (.struct (Try.prog.fieldsOf 25)) from by kernel_rfl) ht
  rw [show Try.prog.cellsOf 25 = 2 from by kernel_rfl] at hlen
  obtain ⟨c0, c1, rfl⟩ := exL2 hlen
  obtain ⟨y0, e0, t0⟩ := hf 0 0 22 (by kernel_rfl)
  rw [show Try.prog.cellsOf 22 = 1 from by kernel_rfl] at t0
  obtain ⟨d0, r0, k0, m0⟩ := (read_slice (show Try.prog.underlying 22 = some (.slice 9) from by kernel_rfl) (by kernel_rfl) (by decide) (read_str (show Try.prog.underlying 9 = some (.string) from by kernel_rfl))) H enc w n [c0] _ t0
  obtain ⟨v0, q0, s0⟩ := rep_list r0
  obtain rfl := (List.cons.inj q0).1
  obtain ⟨y1, e1, t1⟩ := hf 1 1 23 (by kernel_rfl)
  rw [show Try.prog.cellsOf 23 = 1 from by kernel_rfl] at t1
  obtain ⟨d1, r1, k1, m1⟩ := (read_slice (show Try.prog.underlying 23 = some (.slice 54) from by kernel_rfl) (by kernel_rfl) (by decide) rd54) H enc w n [c1] _ t1
  obtain ⟨v1, q1, s1⟩ := rep_list r1
  obtain rfl := (List.cons.inj q1).1
  refine ⟨⟨d0, d1⟩, rep_Table_mk s0 s1, ⟨k0, k1⟩, fun B BA hB => ?_⟩
  rw [hx]
  have hg := hB.agg (ys.map (·.1))
  obtain ⟨w0, w1, rfl⟩ := exL2 (hy.trans (show _ = 2 from by kernel_rfl))
  obtain rfl : w0 = y0 := Option.some.inj e0
  have p0 := m0 B BA hB
  have g0 := hB.cons w0.1 [w1.1]
  obtain rfl : w1 = y1 := Option.some.inj e1
  have p1 := m1 B BA hB
  have g1 := hB.cons w1.1 []
  have hg : BA [w0.1, w1.1] + 1 ≤ B (.agg [w0.1, w1.1]) := hg
  show Msr.m d0 + Msr.m d1 + 1 ≤ B (.agg [w0.1, w1.1])
  omega
instance : Msr CellChange := ⟨fun x => Msr.m x.Key + Msr.m x.Column + Msr.m x.Old + Msr.m x.New + 1⟩
def Ok36 (x : CellChange) : Prop := (fun s => s.size ≤ 9223372036854775807) x.Key ∧ (fun x => -9223372036854775808 ≤ x ∧ x ≤ 9223372036854775807) x.Column ∧ (fun l => l.length ≤ 9223372036854775807 ∧ ∀ x ∈ l, (fun s => s.size ≤ 9223372036854775807) x) x.Old ∧ (fun l => l.length ≤ 9223372036854775807 ∧ ∀ x ∈ l, (fun s => s.size ≤ 9223372036854775807) x) x.New
theorem rd36 : Readable Try.prog 36 CellChange Ok36 := by
  intro H enc w fuel cs x ht
  obtain ⟨hlen, n, ys, hx, hy, hf⟩ := trod_fields (show Try.prog.underlying 36 = some (.struct (Try.prog.fieldsOf 36)) from by kernel_rfl) ht
  rw [show Try.prog.cellsOf 36 = 4 from by kernel_rfl] at hlen
  obtain ⟨c0, c1, c2, c3, rfl⟩ := exL4 hlen
  obtain ⟨y0, e0, t0⟩ := hf 0 0 9 (by kernel_rfl)
  rw [show Try.prog.cellsOf 9 = 1 from by kernel_rfl] at t0
  obtain ⟨d0, r0, k0, m0⟩ := (read_str (show Try.prog.underlying 9 = some (.string) from by kernel_rfl)) H enc w n [c0] _ t0
  obtain rfl := (List.cons.inj (rep_str r0)).1
  obtain ⟨y1, e1, t1⟩ := hf 1 1 3 (by kernel_rfl)
  rw [show Try.prog.cellsOf 3 = 1 from by kernel_rfl] at t1
  obtain ⟨d1, r1, k1, m1⟩ := (read_int (show Try.prog.underlying 3 = some (.int .i64) from by kernel_rfl)) H enc w n [c1] _ t1
  obtain rfl := (List.cons.inj (rep_int r1)).1
  obtain ⟨y2, e2, t2⟩ := hf 2 2 22 (by kernel_rfl)
  rw [show Try.prog.cellsOf 22 = 1 from by kernel_rfl] at t2
  obtain ⟨d2, r2, k2, m2⟩ := (read_slice (show Try.prog.underlying 22 = some (.slice 9) from by kernel_rfl) (by kernel_rfl) (by decide) (read_str (show Try.prog.underlying 9 = some (.string) from by kernel_rfl))) H enc w n [c2] _ t2
  obtain ⟨v2, q2, s2⟩ := rep_list r2
  obtain rfl := (List.cons.inj q2).1
  obtain ⟨y3, e3, t3⟩ := hf 3 3 22 (by kernel_rfl)
  rw [show Try.prog.cellsOf 22 = 1 from by kernel_rfl] at t3
  obtain ⟨d3, r3, k3, m3⟩ := (read_slice (show Try.prog.underlying 22 = some (.slice 9) from by kernel_rfl) (by kernel_rfl) (by decide) (read_str (show Try.prog.underlying 9 = some (.string) from by kernel_rfl))) H enc w n [c3] _ t3
  obtain ⟨v3, q3, s3⟩ := rep_list r3
  obtain rfl := (List.cons.inj q3).1
  refine ⟨⟨d0, d1, d2, d3⟩, rep_CellChange_mk s2 s3, ⟨k0, k1, k2, k3⟩, fun B BA hB => ?_⟩
  rw [hx]
  have hg := hB.agg (ys.map (·.1))
  obtain ⟨w0, w1, w2, w3, rfl⟩ := exL4 (hy.trans (show _ = 4 from by kernel_rfl))
  obtain rfl : w0 = y0 := Option.some.inj e0
  have p0 := m0 B BA hB
  have g0 := hB.cons w0.1 [w1.1, w2.1, w3.1]
  obtain rfl : w1 = y1 := Option.some.inj e1
  have p1 := m1 B BA hB
  have g1 := hB.cons w1.1 [w2.1, w3.1]
  obtain rfl : w2 = y2 := Option.some.inj e2
  have p2 := m2 B BA hB
  have g2 := hB.cons w2.1 [w3.1]
  obtain rfl : w3 = y3 := Option.some.inj e3
  have p3 := m3 B BA hB
  have g3 := hB.cons w3.1 []
  have hg : BA [w0.1, w1.1, w2.1, w3.1] + 1 ≤ B (.agg [w0.1, w1.1, w2.1, w3.1]) := hg
  show Msr.m d0 + Msr.m d1 + Msr.m d2 + Msr.m d3 + 1 ≤ B (.agg [w0.1, w1.1, w2.1, w3.1])
  omega
end Go.Dc
