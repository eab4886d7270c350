/- The data of the program. -/
import Derived.Test.YtgcjgmfdnhimmaaDcO
namespace Go.Dc
open Go
structure Hunk where
  At : Int
  Old : (List ByteArray)
  New : (List ByteArray)
instance : Rep Hunk where
  n := 3
  rep := fun g x cs => ∃ v1 v2 : Value, cs = [.int .i64 x.At, v1, v2] ∧ RepSl g x.Old v1 ∧ RepSl g x.New v2
  len := fun h => by obtain ⟨v1, v2, rfl, h1, h2⟩ := h; rfl
  mono := fun hl h => by obtain ⟨v1, v2, h, h1, h2⟩ := h; exact ⟨v1, v2, h, h1.mono hl, h2.mono hl⟩
  one := fun h => by obtain ⟨v1, v2, rfl, h1, h2⟩ := h; exact one_cons rfl (one_cons h1.one (one_cons h2.one (one_nil)))
theorem rep_Hunk {g : Gh} {x : Hunk} {cs : List Value} (h : Rep.rep g x cs) : ∃ v1 v2 : Value, cs = [.int .i64 x.At, v1, v2] ∧ RepSl g x.Old v1 ∧ RepSl g x.New v2 := h
theorem rep_Hunk_mk {g : Gh} {x : Hunk} {v1 : Value} {v2 : Value} (h1 : RepSl g x.Old v1) (h2 : RepSl g x.New v2) : Rep.rep g x [.int .i64 x.At, v1, v2] := ⟨v1, v2, rfl, h1, h2⟩

structure Fault where
  Code : Int
  Index : Int
instance : Rep Fault where
  n := 2
  rep := fun g x cs => cs = [.int .i64 x.Code, .int .i64 x.Index]
  len := fun h => by obtain rfl := h; rfl
  mono := fun hl h => by obtain h := h; exact h
  one := fun h => by obtain rfl := h; exact one_cons rfl (one_cons rfl (one_nil))
theorem rep_Fault {g : Gh} {x : Fault} {cs : List Value} (h : Rep.rep g x cs) : cs = [.int .i64 x.Code, .int .i64 x.Index] := h
theorem rep_Fault_mk {g : Gh} {x : Fault} : Rep.rep g x [.int .i64 x.Code, .int .i64 x.Index] := rfl

structure Patch where
  Hunks : (List Hunk)
instance : Rep Patch where
  n := 1
  rep := fun g x cs => ∃ v1 : Value, cs = [v1] ∧ RepSl g x.Hunks v1
  len := fun h => by obtain ⟨v1, rfl, h1⟩ := h; rfl
  mono := fun hl h => by obtain ⟨v1, h, h1⟩ := h; exact ⟨v1, h, h1.mono hl⟩
  one := fun h => by obtain ⟨v1, rfl, h1⟩ := h; exact one_cons h1.one (one_nil)
theorem rep_Patch {g : Gh} {x : Patch} {cs : List Value} (h : Rep.rep g x cs) : ∃ v1 : Value, cs = [v1] ∧ RepSl g x.Hunks v1 := h
theorem rep_Patch_mk {g : Gh} {x : Patch} {v1 : Value} (h1 : RepSl g x.Hunks v1) : Rep.rep g x [v1] := ⟨v1, rfl, h1⟩

structure Range_commute where
  Low : Int
  High : Int
  Growth : Int
instance : Rep Range_commute where
  n := 3
  rep := fun g x cs => cs = [.int .i64 x.Low, .int .i64 x.High, .int .i64 x.Growth]
  len := fun h => by obtain rfl := h; rfl
  mono := fun hl h => by obtain h := h; exact h
  one := fun h => by obtain rfl := h; exact one_cons rfl (one_cons rfl (one_cons rfl (one_nil)))
theorem rep_Range_commute {g : Gh} {x : Range_commute} {cs : List Value} (h : Rep.rep g x cs) : cs = [.int .i64 x.Low, .int .i64 x.High, .int .i64 x.Growth] := h
theorem rep_Range_commute_mk {g : Gh} {x : Range_commute} : Rep.rep g x [.int .i64 x.Low, .int .i64 x.High, .int .i64 x.Growth] := rfl

structure Middle_textpatch where
  inserted : Bool
  line : ByteArray
  before : (List ByteArray)
instance : Rep Middle_textpatch where
  n := 3
  rep := fun g x cs => ∃ v1 : Value, cs = [.bool x.inserted, .string x.line, v1] ∧ RepSl g x.before v1
  len := fun h => by obtain ⟨v1, rfl, h1⟩ := h; rfl
  mono := fun hl h => by obtain ⟨v1, h, h1⟩ := h; exact ⟨v1, h, h1.mono hl⟩
  one := fun h => by obtain ⟨v1, rfl, h1⟩ := h; exact one_cons rfl (one_cons rfl (one_cons h1.one (one_nil)))
theorem rep_Middle_textpatch {g : Gh} {x : Middle_textpatch} {cs : List Value} (h : Rep.rep g x cs) : ∃ v1 : Value, cs = [.bool x.inserted, .string x.line, v1] ∧ RepSl g x.before v1 := h
theorem rep_Middle_textpatch_mk {g : Gh} {x : Middle_textpatch} {v1 : Value} (h1 : RepSl g x.before v1) : Rep.rep g x [.bool x.inserted, .string x.line, v1] := ⟨v1, rfl, h1⟩

structure Collector_diff where
  hunks : (List Hunk)
  at_ : Int
  open_ : Bool
instance : Rep Collector_diff where
  n := 3
  rep := fun g x cs => ∃ v1 : Value, cs = [v1, .int .i64 x.at_, .bool x.open_] ∧ RepSl g x.hunks v1
  len := fun h => by obtain ⟨v1, rfl, h1⟩ := h; rfl
  mono := fun hl h => by obtain ⟨v1, h, h1⟩ := h; exact ⟨v1, h, h1.mono hl⟩
  one := fun h => by obtain ⟨v1, rfl, h1⟩ := h; exact one_cons h1.one (one_cons rfl (one_cons rfl (one_nil)))
theorem rep_Collector_diff {g : Gh} {x : Collector_diff} {cs : List Value} (h : Rep.rep g x cs) : ∃ v1 : Value, cs = [v1, .int .i64 x.at_, .bool x.open_] ∧ RepSl g x.hunks v1 := h
theorem rep_Collector_diff_mk {g : Gh} {x : Collector_diff} {v1 : Value} (h1 : RepSl g x.hunks v1) : Rep.rep g x [v1, .int .i64 x.at_, .bool x.open_] := ⟨v1, rfl, h1⟩

instance : ORep Hunk where
  orep := fun g x cs c => ∃ (v1 : Value) (c1 : Hl), ∃ (v2 : Value) (c2 : Hl), cs = [.int .i64 x.At, v1, v2] ∧ c = (c1 ++ (c2 ++ [])) ∧ OwnS g x.Old v1 c1 ∧ OwnS g x.New v2 c2
  olen := fun h => by obtain ⟨v1, c1, v2, c2, rfl, rfl, h1, h2⟩ := h; rfl
  omono := fun hl h => by obtain ⟨v1, c1, v2, c2, hc, hd, h1, h2⟩ := h; exact ⟨v1, c1, v2, c2, hc, hd, h1.mono hl, h2.mono hl⟩
  oone := fun h => by obtain ⟨v1, c1, v2, c2, rfl, rfl, h1, h2⟩ := h; exact one_cons rfl (one_cons h1.one (one_cons h2.one (one_nil)))
  ofz := fun hl hf h => by obtain ⟨v1, c1, v2, c2, rfl, rfl, h1, h2⟩ := h; exact ⟨v1, v2, rfl, h1.fz hl hf.left, h2.fz hl hf.right.left⟩
theorem orep_Hunk {g : Gh} {x : Hunk} {cs : List Value} {c : Hl} (h : ORep.orep g x cs c) : ∃ (v1 : Value) (c1 : Hl), ∃ (v2 : Value) (c2 : Hl), cs = [.int .i64 x.At, v1, v2] ∧ c = (c1 ++ (c2 ++ [])) ∧ OwnS g x.Old v1 c1 ∧ OwnS g x.New v2 c2 := h
theorem orep_Hunk_mk {g : Gh} {x : Hunk} {v1 : Value} {c1 : Hl} {v2 : Value} {c2 : Hl} (h1 : OwnS g x.Old v1 c1) (h2 : OwnS g x.New v2 c2) : ORep.orep g x [.int .i64 x.At, v1, v2] (c1 ++ (c2 ++ [])) := ⟨v1, c1, v2, c2, rfl, rfl, h1, h2⟩

structure Item_changeforgeref1 where
  Old : Int
  Text : ByteArray
instance : Rep Item_changeforgeref1 where
  n := 2
  rep := fun g x cs => cs = [.int .i64 x.Old, .string x.Text]
  len := fun h => by obtain rfl := h; rfl
  mono := fun hl h => by obtain h := h; exact h
  one := fun h => by obtain rfl := h; exact one_cons rfl (one_cons rfl (one_nil))
theorem rep_Item_changeforgeref1 {g : Gh} {x : Item_changeforgeref1} {cs : List Value} (h : Rep.rep g x cs) : cs = [.int .i64 x.Old, .string x.Text] := h
theorem rep_Item_changeforgeref1_mk {g : Gh} {x : Item_changeforgeref1} : Rep.rep g x [.int .i64 x.Old, .string x.Text] := rfl

end Go.Dc
