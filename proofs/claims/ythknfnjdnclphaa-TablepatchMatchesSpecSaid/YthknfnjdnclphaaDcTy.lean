/- The data of the program. -/
import Derived.Test.YthknfnjdnclphaaDcZ
namespace Go.Dc
open Go
structure Fault where
  Code : Int
  Index : Int
instance : Rep Fault where
  n := 2
  rep := fun g x cs => cs = [.int .i64 x.Code, .int .i64 x.Index]
  len := fun h => by obtain rfl := h; rfl
  mono := fun hl h => by obtain h := h; exact h
  one := fun h => by obtain rfl := h; exact one_cons rfl (one_cons rfl (one_nil))
theorem rep_Fault {g : Gh} {x : Fault} {cs : List Value} (h : Rep.rep g x cs) : cs = [.int .i64 x.Code, .int .i64 x.Index] := h
theorem rep_Fault_mk {g : Gh} {x : Fault} : Rep.rep g x [.int .i64 x.Code, .int .i64 x.Index] := rfl

structure Row where
  Key : ByteArray
  Cells : (List ByteArray)
instance : Rep Row where
  n := 2
  rep := fun g x cs => ∃ v1 : Value, cs = [.string x.Key, v1] ∧ RepSl g x.Cells v1
  len := fun h => by obtain ⟨v1, rfl, h1⟩ := h; rfl
  mono := fun hl h => by obtain ⟨v1, h, h1⟩ := h; exact ⟨v1, h, h1.mono hl⟩
  one := fun h => by obtain ⟨v1, rfl, h1⟩ := h; exact one_cons rfl (one_cons h1.one (one_nil))
theorem rep_Row {g : Gh} {x : Row} {cs : List Value} (h : Rep.rep g x cs) : ∃ v1 : Value, cs = [.string x.Key, v1] ∧ RepSl g x.Cells v1 := h
theorem rep_Row_mk {g : Gh} {x : Row} {v1 : Value} (h1 : RepSl g x.Cells v1) : Rep.rep g x [.string x.Key, v1] := ⟨v1, rfl, h1⟩

structure Table where
  Columns : (List ByteArray)
  Rows : (List Row)
instance : Rep Table where
  n := 2
  rep := fun g x cs => ∃ v1 v2 : Value, cs = [v1, v2] ∧ RepSl g x.Columns v1 ∧ RepSl g x.Rows v2
  len := fun h => by obtain ⟨v1, v2, rfl, h1, h2⟩ := h; rfl
  mono := fun hl h => by obtain ⟨v1, v2, h, h1, h2⟩ := h; exact ⟨v1, v2, h, h1.mono hl, h2.mono hl⟩
  one := fun h => by obtain ⟨v1, v2, rfl, h1, h2⟩ := h; exact one_cons h1.one (one_cons h2.one (one_nil))
theorem rep_Table {g : Gh} {x : Table} {cs : List Value} (h : Rep.rep g x cs) : ∃ v1 v2 : Value, cs = [v1, v2] ∧ RepSl g x.Columns v1 ∧ RepSl g x.Rows v2 := h
theorem rep_Table_mk {g : Gh} {x : Table} {v1 : Value} {v2 : Value} (h1 : RepSl g x.Columns v1) (h2 : RepSl g x.Rows v2) : Rep.rep g x [v1, v2] := ⟨v1, v2, rfl, h1, h2⟩

structure CellChange where
  Key : ByteArray
  Column : Int
  Old : (List ByteArray)
  New : (List ByteArray)
instance : Rep CellChange where
  n := 4
  rep := fun g x cs => ∃ v1 v2 : Value, cs = [.string x.Key, .int .i64 x.Column, v1, v2] ∧ RepSl g x.Old v1 ∧ RepSl g x.New v2
  len := fun h => by obtain ⟨v1, v2, rfl, h1, h2⟩ := h; rfl
  mono := fun hl h => by obtain ⟨v1, v2, h, h1, h2⟩ := h; exact ⟨v1, v2, h, h1.mono hl, h2.mono hl⟩
  one := fun h => by obtain ⟨v1, v2, rfl, h1, h2⟩ := h; exact one_cons rfl (one_cons rfl (one_cons h1.one (one_cons h2.one (one_nil))))
theorem rep_CellChange {g : Gh} {x : CellChange} {cs : List Value} (h : Rep.rep g x cs) : ∃ v1 v2 : Value, cs = [.string x.Key, .int .i64 x.Column, v1, v2] ∧ RepSl g x.Old v1 ∧ RepSl g x.New v2 := h
theorem rep_CellChange_mk {g : Gh} {x : CellChange} {v1 : Value} {v2 : Value} (h1 : RepSl g x.Old v1) (h2 : RepSl g x.New v2) : Rep.rep g x [.string x.Key, .int .i64 x.Column, v1, v2] := ⟨v1, v2, rfl, h1, h2⟩

instance : ORep Row where
  orep := fun g x cs c => ∃ (v1 : Value) (c1 : Hl), cs = [.string x.Key, v1] ∧ c = (c1 ++ []) ∧ OwnS g x.Cells v1 c1
  olen := fun h => by obtain ⟨v1, c1, rfl, rfl, h1⟩ := h; rfl
  omono := fun hl h => by obtain ⟨v1, c1, hc, hd, h1⟩ := h; exact ⟨v1, c1, hc, hd, h1.mono hl⟩
  oone := fun h => by obtain ⟨v1, c1, rfl, rfl, h1⟩ := h; exact one_cons rfl (one_cons h1.one (one_nil))
  ofz := fun hl hf h => by obtain ⟨v1, c1, rfl, rfl, h1⟩ := h; exact ⟨v1, rfl, h1.fz hl hf.left⟩
theorem orep_Row {g : Gh} {x : Row} {cs : List Value} {c : Hl} (h : ORep.orep g x cs c) : ∃ (v1 : Value) (c1 : Hl), cs = [.string x.Key, v1] ∧ c = (c1 ++ []) ∧ OwnS g x.Cells v1 c1 := h
theorem orep_Row_mk {g : Gh} {x : Row} {v1 : Value} {c1 : Hl} (h1 : OwnS g x.Cells v1 c1) : ORep.orep g x [.string x.Key, v1] (c1 ++ []) := ⟨v1, c1, rfl, rfl, h1⟩

end Go.Dc
