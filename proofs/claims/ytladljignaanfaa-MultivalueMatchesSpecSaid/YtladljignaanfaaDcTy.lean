/- The data of the program. -/
import Derived.Test.YtladljignaanfaaDcX
namespace Go.Dc
open Go
structure VersionedValue where
  Value : Int
  Vector : (List Int)
instance : Rep VersionedValue where
  n := 2
  rep := fun g x cs => ∃ v1 : Value, cs = [.int .i64 x.Value, v1] ∧ RepSl g x.Vector v1
  len := fun h => by obtain ⟨v1, rfl, h1⟩ := h; rfl
  mono := fun hl h => by obtain ⟨v1, h, h1⟩ := h; exact ⟨v1, h, h1.mono hl⟩
  one := fun h => by obtain ⟨v1, rfl, h1⟩ := h; exact one_cons rfl (one_cons h1.one (one_nil))
theorem rep_VersionedValue {g : Gh} {x : VersionedValue} {cs : List Value} (h : Rep.rep g x cs) : ∃ v1 : Value, cs = [.int .i64 x.Value, v1] ∧ RepSl g x.Vector v1 := h
theorem rep_VersionedValue_mk {g : Gh} {x : VersionedValue} {v1 : Value} (h1 : RepSl g x.Vector v1) : Rep.rep g x [.int .i64 x.Value, v1] := ⟨v1, rfl, h1⟩

structure Fault where
  Code : Int
  Index : Int
instance : Rep Fault where
  n := 2
  rep := fun g x cs => cs = [.int .i64 x.Code, .int .i64 x.Index]
  len := fun h => by obtain rfl := h; rfl
  mono := fun hl h => by obtain h := h; exact h
  one := fun h => by obtain rfl := h; exact one_cons rfl (one_cons rfl (one_nil))
theorem rep_Fault {g : Gh} {x : Fault} {cs : List Value} (h : Rep.rep g x cs) : cs = [.int .i64 x.Code, .int .i64 x.Index] := h
theorem rep_Fault_mk {g : Gh} {x : Fault} : Rep.rep g x [.int .i64 x.Code, .int .i64 x.Index] := rfl

end Go.Dc
