/- The law on sketches, where the texts are no greater than the row says. -/
import Derived.Test.YtnlleniemknjcaaDcPE
import Derived.Test.YtnlleniemknjcaaDcI
namespace Go.Dc
open Go
theorem msum_len {α : Type} [Msr α] (h1 : ∀ x : α, 1 ≤ Msr.m x) : ∀ l : List α, l.length ≤ msum l
  | [] => Nat.zero_le _
  | x :: r => by
    have := msum_len h1 r
    have := h1 x
    simp only [List.length_cons, msum]; omega
theorem m_str (s : ByteArray) : 1 ≤ Msr.m s := Nat.le_add_left _ _
theorem m_list {α : Type} [Msr α] (l : List α) : Msr.m l = msum l + 1 := rfl
theorem union_upto (a b : List ByteArray) (h : Msr.m a + Msr.m b ≤ 1048576) : changeforgelaw2_RenameSketchUnion a b = some true := by
  have h1 := msum_len m_str a
  have h2 := msum_len m_str b
  rw [m_list, m_list] at h
  exact union_eq a b (by omega)
end Go.Dc
