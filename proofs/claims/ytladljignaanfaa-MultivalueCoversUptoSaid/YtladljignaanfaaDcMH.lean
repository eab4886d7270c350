/- Covers, where the registers are no greater than the row says. -/
import Derived.Test.YtladljignaanfaaDcMG
import Derived.Test.YtladljignaanfaaDcRd
namespace Go.Dc
open Go
theorem msum_lenV : ∀ l : List VV, l.length ≤ msum l
  | [] => Nat.zero_le _
  | x :: r => by
    have := msum_lenV r
    have h : 1 ≤ Msr.m x := Nat.le_add_left _ _
    simp only [List.length_cons, msum]; omega
theorem covers_upto (a b : List VV) (i : Int) (h : Msr.m a + Msr.m b + Msr.m i ≤ 1048576) : changeforgelaw2_MultivalueCovers a b i = some true := by
  have h1 := msum_lenV a
  have h2 := msum_lenV b
  have e : ∀ l : List VV, Msr.m l = msum l + 1 := fun _ => rfl
  rw [e, e] at h
  exact covers_law a b i (by omega)
end Go.Dc
