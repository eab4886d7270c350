/- How the structs of the arguments read. -/
import Derived.Test.YtigjmijbekhdgaaDcTab
import Derived.Test.YtigjmijbekhdgaaDcI
namespace Go.Dc
open Go Go.Proofs
set_option linter.unusedVariables false
instance : Msr Node := ⟨fun x => Msr.m x.Label + Msr.m x.Children + 1⟩
def Ok50 (x : Node) : Prop := (fun s => s.size ≤ 9223372036854775807) x.Label ∧ (fun l => l.length ≤ 9223372036854775807 ∧ ∀ x ∈ l, (fun x => -9223372036854775808 ≤ x ∧ x ≤ 9223372036854775807) x) x.Children
theorem rd50 : Readable Try.prog 50 Node Ok50 := by
  intro H enc w fuel cs x ht
  obtain ⟨hlen, n, ys, hx, hy, hf⟩ := trod_fields (show Try.prog.underlying 50 = some (.struct (Try.prog.fieldsOf 50)) from by kernel_rfl) ht
  rw [show Try.prog.cellsOf 50 = 2 from by kernel_rfl] at hlen
  obtain ⟨c0, c1, rfl⟩ : ∃ c0 c1, cs = [c0, c1] := by
    match cs, hlen with
    | [a0, a1], _ => exact ⟨a0, a1, rfl⟩
  obtain ⟨y0, e0, t0⟩ := hf 0 0 9 (by kernel_rfl)
  rw [show Try.prog.cellsOf 9 = 1 from by kernel_rfl] at t0
  obtain ⟨d0, r0, k0, m0⟩ := (read_str (show Try.prog.underlying 9 = some (.string) from by kernel_rfl)) H enc w n [c0] _ t0
  obtain rfl := (List.cons.inj (rep_str r0)).1
  obtain ⟨y1, e1, t1⟩ := hf 1 1 38 (by kernel_rfl)
  rw [show Try.prog.cellsOf 38 = 1 from by kernel_rfl] at t1
  obtain ⟨d1, r1, k1, m1⟩ := (read_slice (show Try.prog.underlying 38 = some (.slice 3) from by kernel_rfl) (by kernel_rfl) (by decide) (read_int (show Try.prog.underlying 3 = some (.int .i64) from by kernel_rfl))) H enc w n [c1] _ t1
  obtain ⟨v1, q1, s1⟩ := rep_list r1
  obtain rfl := (List.cons.inj q1).1
  refine ⟨⟨d0, d1⟩, rep_Node_mk s1, ⟨k0, k1⟩, fun B BA hB => ?_⟩
  rw [hx]
  have hg := hB.agg (ys.map (·.1))
  obtain ⟨w0, w1, rfl⟩ : ∃ w0 w1, ys = [w0, w1] := by
    have hy2 : ys.length = 2 := hy.trans (by kernel_rfl)
    match ys, hy2 with
    | [a0, a1], _ => exact ⟨a0, a1, rfl⟩
  obtain rfl : w0 = y0 := Option.some.inj e0
  have p0 := m0 B BA hB
  have g0 := hB.cons w0.1 [w1.1]
  obtain rfl : w1 = y1 := Option.some.inj e1
  have p1 := m1 B BA hB
  have g1 := hB.cons w1.1 []
  have hg : BA [w0.1, w1.1] + 1 ≤ B (.agg [w0.1, w1.1]) := hg
  show Msr.m d0 + Msr.m d1 + 1 ≤ B (.agg [w0.1, w1.1])
  omega
instance : Msr SyntaxTree := ⟨fun x => Msr.m x.Nodes + 1⟩
def Ok24 (x : SyntaxTree) : Prop := (fun l => l.length ≤ 9223372036854775807 ∧ ∀ x ∈ l, Ok50 x) x.Nodes
theorem rd24 : Readable Try.prog 24 SyntaxTree Ok24 := by
  intro H enc w fuel cs x ht
  obtain ⟨hlen, n, ys, hx, hy, hf⟩ := trod_fields (show Try.prog.underlying 24 = some (.struct (Try.prog.fieldsOf 24)) from by kernel_rfl) ht
  rw [show Try.prog.cellsOf 24 = 1 from by kernel_rfl] at hlen
  obtain ⟨c0, rfl⟩ : ∃ c0, cs = [c0] := by
    match cs, hlen with
    | [a0], _ => exact ⟨a0, rfl⟩
  obtain ⟨y0, e0, t0⟩ := hf 0 0 22 (by kernel_rfl)
  rw [show Try.prog.cellsOf 22 = 1 from by kernel_rfl] at t0
  obtain ⟨d0, r0, k0, m0⟩ := (read_slice (show Try.prog.underlying 22 = some (.slice 50) from by kernel_rfl) (by kernel_rfl) (by decide) rd50) H enc w n [c0] _ t0
  obtain ⟨v0, q0, s0⟩ := rep_list r0
  obtain rfl := (List.cons.inj q0).1
  refine ⟨⟨d0⟩, rep_SyntaxTree_mk s0, k0, fun B BA hB => ?_⟩
  rw [hx]
  have hg := hB.agg (ys.map (·.1))
  obtain ⟨w0, rfl⟩ : ∃ w0, ys = [w0] := by
    have hy2 : ys.length = 1 := hy.trans (by kernel_rfl)
    match ys, hy2 with
    | [a0], _ => exact ⟨a0, rfl⟩
  obtain rfl : w0 = y0 := Option.some.inj e0
  have p0 := m0 B BA hB
  have g0 := hB.cons w0.1 []
  have hg : BA [w0.1] + 1 ≤ B (.agg [w0.1]) := hg
  show Msr.m d0 + 1 ≤ B (.agg [w0.1])
  omega
end Go.Dc
