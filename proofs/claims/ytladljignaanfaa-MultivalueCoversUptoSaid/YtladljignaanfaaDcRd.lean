/- How the structs of the arguments read. -/
import Derived.Test.YtladljignaanfaaDcTab
import Derived.Test.YtladljignaanfaaDcI
namespace Go.Dc
open Go Go.Proofs
set_option linter.unusedVariables false
theorem exL2 {α : Type} {l : List α} (h : l.length = 2) : ∃ a0 a1, l = [a0, a1] := by
  match l, h with
  | [a0, a1], _ => exact ⟨a0, a1, rfl⟩
instance : Msr VersionedValue := ⟨fun x => Msr.m x.Value + Msr.m x.Vector + 1⟩
def Ok35 (x : VersionedValue) : Prop := (fun x => -9223372036854775808 ≤ x ∧ x ≤ 9223372036854775807) x.Value ∧ (fun l => l.length ≤ 9223372036854775807 ∧ ∀ x ∈ l, (fun x => -9223372036854775808 ≤ x ∧ x ≤ 9223372036854775807) x) x.Vector
theorem rd35 : Readable Try.prog 35 VersionedValue Ok35 := by
  intro H enc w fuel cs x ht
  obtain ⟨hlen, n, ys, hx, hy, hf⟩ := trod_fields (show Try.prog.underlying 35 = some (.struct (Try.prog.fieldsOf 35)) from by kernel_rfl) ht
  rw [show Try.prog.cellsOf 35 = 2 from by kernel_rfl] at hlen
  obtain ⟨c0, c1, rfl⟩ := exL2 hlen
  obtain ⟨y0, e0, t0⟩ := hf 0 0 3 (by kernel_rfl)
  rw [show Try.prog.cellsOf 3 = 1 from by kernel_rfl] at t0
  obtain ⟨d0, r0, k0, m0⟩ := (read_int (show Try.prog.underlying 3 = some (.int .i64) from by kernel_rfl)) H enc w n [c0] _ t0
  obtain rfl := (List.cons.inj (rep_int r0)).1
  obtain ⟨y1, e1, t1⟩ := hf 1 1 33 (by kernel_rfl)
  rw [show Try.prog.cellsOf 33 = 1 from by kernel_rfl] at t1
  obtain ⟨d1, r1, k1, m1⟩ := (read_slice (show Try.prog.underlying 33 = some (.slice 3) from by kernel_rfl) (by kernel_rfl) (by decide) (read_int (show Try.prog.underlying 3 = some (.int .i64) from by kernel_rfl))) H enc w n [c1] _ t1
  obtain ⟨v1, q1, s1⟩ := rep_list r1
  obtain rfl := (List.cons.inj q1).1
  refine ⟨⟨d0, d1⟩, rep_VersionedValue_mk s1, ⟨k0, k1⟩, fun B BA hB => ?_⟩
  rw [hx]
  have hg := hB.agg (ys.map (·.1))
  obtain ⟨w0, w1, rfl⟩ := exL2 (hy.trans (show _ = 2 from by kernel_rfl))
  obtain rfl : w0 = y0 := Option.some.inj e0
  have p0 := m0 B BA hB
  have g0 := hB.cons w0.1 [w1.1]
  obtain rfl : w1 = y1 := Option.some.inj e1
  have p1 := m1 B BA hB
  have g1 := hB.cons w1.1 []
  have hg : BA [w0.1, w1.1] + 1 ≤ B (.agg [w0.1, w1.1]) := hg
  show Msr.m d0 + Msr.m d1 + 1 ≤ B (.agg [w0.1, w1.1])
  omega
end Go.Dc
