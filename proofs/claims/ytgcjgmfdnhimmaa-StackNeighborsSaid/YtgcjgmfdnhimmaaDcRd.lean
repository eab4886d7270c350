/- How the structs of the arguments read. -/
import Derived.Test.YtgcjgmfdnhimmaaDcTab
import Derived.Test.YtgcjgmfdnhimmaaDcI
namespace Go.Dc
open Go Go.Proofs
set_option linter.unusedVariables false
instance : Msr Hunk := ⟨fun x => Msr.m x.At + Msr.m x.Old + Msr.m x.New + 1⟩
def Ok60 (x : Hunk) : Prop := (fun x => -9223372036854775808 ≤ x ∧ x ≤ 9223372036854775807) x.At ∧ (fun l => l.length ≤ 9223372036854775807 ∧ ∀ x ∈ l, (fun s => s.size ≤ 9223372036854775807) x) x.Old ∧ (fun l => l.length ≤ 9223372036854775807 ∧ ∀ x ∈ l, (fun s => s.size ≤ 9223372036854775807) x) x.New
theorem rd60 : Readable Try.prog 60 Hunk Ok60 := by
  intro H enc w fuel cs x ht
  obtain ⟨hlen, n, ys, hx, hy, hf⟩ := trod_fields (show Try.prog.underlying 60 = some (.struct (Try.prog.fieldsOf 60)) from by kernel_rfl) ht
  rw [show Try.prog.cellsOf 60 = 3 from by kernel_rfl] at hlen
  obtain ⟨c0, c1, c2, rfl⟩ : ∃ c0 c1 c2, cs = [c0, c1, c2] := by
    match cs, hlen with
    | [a0, a1, a2], _ => exact ⟨a0, a1, a2, rfl⟩
  obtain ⟨y0, e0, t0⟩ := hf 0 0 3 (by kernel_rfl)
  rw [show Try.prog.cellsOf 3 = 1 from by kernel_rfl] at t0
  obtain ⟨d0, r0, k0, m0⟩ := (read_int (show Try.prog.underlying 3 = some (.int .i64) from by kernel_rfl)) H enc w n [c0] _ t0
  obtain rfl := (List.cons.inj (rep_int r0)).1
  obtain ⟨y1, e1, t1⟩ := hf 1 1 31 (by kernel_rfl)
  rw [show Try.prog.cellsOf 31 = 1 from by kernel_rfl] at t1
  obtain ⟨d1, r1, k1, m1⟩ := (read_slice (show Try.prog.underlying 31 = some (.slice 9) from by kernel_rfl) (by kernel_rfl) (by decide) (read_str (show Try.prog.underlying 9 = some (.string) from by kernel_rfl))) H enc w n [c1] _ t1
  obtain ⟨v1, q1, s1⟩ := rep_list r1
  obtain rfl := (List.cons.inj q1).1
  obtain ⟨y2, e2, t2⟩ := hf 2 2 31 (by kernel_rfl)
  rw [show Try.prog.cellsOf 31 = 1 from by kernel_rfl] at t2
  obtain ⟨d2, r2, k2, m2⟩ := (read_slice (show Try.prog.underlying 31 = some (.slice 9) from by kernel_rfl) (by kernel_rfl) (by decide) (read_str (show Try.prog.underlying 9 = some (.string) from by kernel_rfl))) H enc w n [c2] _ t2
  obtain ⟨v2, q2, s2⟩ := rep_list r2
  obtain rfl := (List.cons.inj q2).1
  refine ⟨⟨d0, d1, d2⟩, rep_Hunk_mk s1 s2, ⟨k0, k1, k2⟩, fun B BA hB => ?_⟩
  rw [hx]
  have hg := hB.agg (ys.map (·.1))
  obtain ⟨w0, w1, w2, rfl⟩ : ∃ w0 w1 w2, ys = [w0, w1, w2] := by
    have hy2 : ys.length = 3 := hy.trans (by kernel_rfl)
    match ys, hy2 with
    | [a0, a1, a2], _ => exact ⟨a0, a1, a2, rfl⟩
  obtain rfl : w0 = y0 := Option.some.inj e0
  have p0 := m0 B BA hB
  have g0 := hB.cons w0.1 [w1.1, w2.1]
  obtain rfl : w1 = y1 := Option.some.inj e1
  have p1 := m1 B BA hB
  have g1 := hB.cons w1.1 [w2.1]
  obtain rfl : w2 = y2 := Option.some.inj e2
  have p2 := m2 B BA hB
  have g2 := hB.cons w2.1 []
  have hg : BA [w0.1, w1.1, w2.1] + 1 ≤ B (.agg [w0.1, w1.1, w2.1]) := hg
  show Msr.m d0 + Msr.m d1 + Msr.m d2 + 1 ≤ B (.agg [w0.1, w1.1, w2.1])
  omega
instance : Msr Patch := ⟨fun x => Msr.m x.Hunks + 1⟩
def Ok38 (x : Patch) : Prop := (fun l => l.length ≤ 9223372036854775807 ∧ ∀ x ∈ l, Ok60 x) x.Hunks
theorem rd38 : Readable Try.prog 38 Patch Ok38 := by
  intro H enc w fuel cs x ht
  obtain ⟨hlen, n, ys, hx, hy, hf⟩ := trod_fields (show Try.prog.underlying 38 = some (.struct (Try.prog.fieldsOf 38)) from by kernel_rfl) ht
  rw [show Try.prog.cellsOf 38 = 1 from by kernel_rfl] at hlen
  obtain ⟨c0, rfl⟩ : ∃ c0, cs = [c0] := by
    match cs, hlen with
    | [a0], _ => exact ⟨a0, rfl⟩
  obtain ⟨y0, e0, t0⟩ := hf 0 0 36 (by kernel_rfl)
  rw [show Try.prog.cellsOf 36 = 1 from by kernel_rfl] at t0
  obtain ⟨d0, r0, k0, m0⟩ := (read_slice (show Try.prog.underlying 36 = some (.slice 60) from by kernel_rfl) (by kernel_rfl) (by decide) rd60) H enc w n [c0] _ t0
  obtain ⟨v0, q0, s0⟩ := rep_list r0
  obtain rfl := (List.cons.inj q0).1
  refine ⟨⟨d0⟩, rep_Patch_mk s0, k0, fun B BA hB => ?_⟩
  rw [hx]
  have hg := hB.agg (ys.map (·.1))
  obtain ⟨w0, rfl⟩ : ∃ w0, ys = [w0] := by
    have hy2 : ys.length = 1 := hy.trans (by kernel_rfl)
    match ys, hy2 with
    | [a0], _ => exact ⟨a0, rfl⟩
  obtain rfl : w0 = y0 := Option.some.inj e0
  have p0 := m0 B BA hB
  have g0 := hB.cons w0.1 []
  have hg : BA [w0.1] + 1 ≤ B (.agg [w0.1]) := hg
  show Msr.m d0 + 1 ≤ B (.agg [w0.1])
  omega
end Go.Dc
