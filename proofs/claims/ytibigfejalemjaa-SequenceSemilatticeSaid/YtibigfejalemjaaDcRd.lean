/- How the structs of the arguments read. -/
import Derived.Test.YtibigfejalemjaaDcTab
import Derived.Test.YtibigfejalemjaaDcI
namespace Go.Dc
open Go Go.Proofs
set_option linter.unusedVariables false
theorem exL6 {α : Type} {l : List α} (h : l.length = 6) : ∃ a0 a1 a2 a3 a4 a5, l = [a0, a1, a2, a3, a4, a5] := by
  match l, h with
  | [a0, a1, a2, a3, a4, a5], _ => exact ⟨a0, a1, a2, a3, a4, a5, rfl⟩
instance : Msr SeqOp := ⟨fun x => Msr.m x.Delete + Msr.m x.Replica + Msr.m x.Counter + Msr.m x.AfterReplica + Msr.m x.AfterCounter + Msr.m x.Line + 1⟩
def Ok33 (x : SeqOp) : Prop := (fun _ => True) x.Delete ∧ (fun x => -9223372036854775808 ≤ x ∧ x ≤ 9223372036854775807) x.Replica ∧ (fun x => -9223372036854775808 ≤ x ∧ x ≤ 9223372036854775807) x.Counter ∧ (fun x => -9223372036854775808 ≤ x ∧ x ≤ 9223372036854775807) x.AfterReplica ∧ (fun x => -9223372036854775808 ≤ x ∧ x ≤ 9223372036854775807) x.AfterCounter ∧ (fun s => s.size ≤ 9223372036854775807) x.Line
theorem rd33 : Readable Try.prog 33 SeqOp Ok33 := by
  intro H enc w fuel cs x ht
  obtain ⟨hlen, n, ys, hx, hy, hf⟩ := trod_fields (show Try.prog.underlying 33 = some (.struct (Try.prog.fieldsOf 33)) from by kernel_rfl) ht
  rw [show Try.prog.cellsOf 33 = 6 from by kernel_rfl] at hlen
  obtain ⟨c0, c1, c2, c3, c4, c5, rfl⟩ := exL6 hlen
  obtain ⟨y0, e0, t0⟩ := hf 0 0 4 (by kernel_rfl)
  rw [show Try.prog.cellsOf 4 = 1 from by kernel_rfl] at t0
  obtain ⟨d0, r0, k0, m0⟩ := (read_bool (show Try.prog.underlying 4 = some (.bool) from by kernel_rfl)) H enc w n [c0] _ t0
  obtain rfl := (List.cons.inj (rep_bool r0)).1
  obtain ⟨y1, e1, t1⟩ := hf 1 1 3 (by kernel_rfl)
  rw [show Try.prog.cellsOf 3 = 1 from by kernel_rfl] at t1
  obtain ⟨d1, r1, k1, m1⟩ := (read_int (show Try.prog.underlying 3 = some (.int .i64) from by kernel_rfl)) H enc w n [c1] _ t1
  obtain rfl := (List.cons.inj (rep_int r1)).1
  obtain ⟨y2, e2, t2⟩ := hf 2 2 3 (by kernel_rfl)
  rw [show Try.prog.cellsOf 3 = 1 from by kernel_rfl] at t2
  obtain ⟨d2, r2, k2, m2⟩ := (read_int (show Try.prog.underlying 3 = some (.int .i64) from by kernel_rfl)) H enc w n [c2] _ t2
  obtain rfl := (List.cons.inj (rep_int r2)).1
  obtain ⟨y3, e3, t3⟩ := hf 3 3 3 (by kernel_rfl)
  rw [show Try.prog.cellsOf 3 = 1 from by kernel_rfl] at t3
  obtain ⟨d3, r3, k3, m3⟩ := (read_int (show Try.prog.underlying 3 = some (.int .i64) from by kernel_rfl)) H enc w n [c3] _ t3
  obtain rfl := (List.cons.inj (rep_int r3)).1
  obtain ⟨y4, e4, t4⟩ := hf 4 4 3 (by kernel_rfl)
  rw [show Try.prog.cellsOf 3 = 1 from by kernel_rfl] at t4
  obtain ⟨d4, r4, k4, m4⟩ := (read_int (show Try.prog.underlying 3 = some (.int .i64) from by kernel_rfl)) H enc w n [c4] _ t4
  obtain rfl := (List.cons.inj (rep_int r4)).1
  obtain ⟨y5, e5, t5⟩ := hf 5 5 9 (by kernel_rfl)
  rw [show Try.prog.cellsOf 9 = 1 from by kernel_rfl] at t5
  obtain ⟨d5, r5, k5, m5⟩ := (read_str (show Try.prog.underlying 9 = some (.string) from by kernel_rfl)) H enc w n [c5] _ t5
  obtain rfl := (List.cons.inj (rep_str r5)).1
  refine ⟨⟨d0, d1, d2, d3, d4, d5⟩, rep_SeqOp_mk , ⟨k0, k1, k2, k3, k4, k5⟩, fun B BA hB => ?_⟩
  rw [hx]
  have hg := hB.agg (ys.map (·.1))
  obtain ⟨w0, w1, w2, w3, w4, w5, rfl⟩ := exL6 (hy.trans (show _ = 6 from by kernel_rfl))
  obtain rfl : w0 = y0 := Option.some.inj e0
  have p0 := m0 B BA hB
  have g0 := hB.cons w0.1 [w1.1, w2.1, w3.1, w4.1, w5.1]
  obtain rfl : w1 = y1 := Option.some.inj e1
  have p1 := m1 B BA hB
  have g1 := hB.cons w1.1 [w2.1, w3.1, w4.1, w5.1]
  obtain rfl : w2 = y2 := Option.some.inj e2
  have p2 := m2 B BA hB
  have g2 := hB.cons w2.1 [w3.1, w4.1, w5.1]
  obtain rfl : w3 = y3 := Option.some.inj e3
  have p3 := m3 B BA hB
  have g3 := hB.cons w3.1 [w4.1, w5.1]
  obtain rfl : w4 = y4 := Option.some.inj e4
  have p4 := m4 B BA hB
  have g4 := hB.cons w4.1 [w5.1]
  obtain rfl : w5 = y5 := Option.some.inj e5
  have p5 := m5 B BA hB
  have g5 := hB.cons w5.1 []
  have hg : BA [w0.1, w1.1, w2.1, w3.1, w4.1, w5.1] + 1 ≤ B (.agg [w0.1, w1.1, w2.1, w3.1, w4.1, w5.1]) := hg
  show Msr.m d0 + Msr.m d1 + Msr.m d2 + Msr.m d3 + Msr.m d4 + Msr.m d5 + 1 ≤ B (.agg [w0.1, w1.1, w2.1, w3.1, w4.1, w5.1])
  omega
end Go.Dc
