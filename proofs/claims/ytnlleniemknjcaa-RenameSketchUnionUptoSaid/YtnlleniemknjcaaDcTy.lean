/- The data of the program. -/
import Derived.Test.YtnlleniemknjcaaDcK
namespace Go.Dc
open Go
structure Fault where
  Code : Int
  Index : Int
instance : Rep Fault where
  n := 2
  rep := fun g x cs => cs = [.int .i64 x.Code, .int .i64 x.Index]
  len := fun h => by obtain rfl := h; rfl
  mono := fun hl h => by obtain h := h; exact h
  one := fun h => by obtain rfl := h; exact one_cons rfl (one_cons rfl (one_nil))
theorem rep_Fault {g : Gh} {x : Fault} {cs : List Value} (h : Rep.rep g x cs) : cs = [.int .i64 x.Code, .int .i64 x.Index] := h
theorem rep_Fault_mk {g : Gh} {x : Fault} : Rep.rep g x [.int .i64 x.Code, .int .i64 x.Index] := rfl

structure Step_changeforgeref1 where
  Kind : Int
  Text : ByteArray
instance : Rep Step_changeforgeref1 where
  n := 2
  rep := fun g x cs => cs = [.int .i64 x.Kind, .string x.Text]
  len := fun h => by obtain rfl := h; rfl
  mono := fun hl h => by obtain h := h; exact h
  one := fun h => by obtain rfl := h; exact one_cons rfl (one_cons rfl (one_nil))
theorem rep_Step_changeforgeref1 {g : Gh} {x : Step_changeforgeref1} {cs : List Value} (h : Rep.rep g x cs) : cs = [.int .i64 x.Kind, .string x.Text] := h
theorem rep_Step_changeforgeref1_mk {g : Gh} {x : Step_changeforgeref1} : Rep.rep g x [.int .i64 x.Kind, .string x.Text] := rfl

structure Hunk where
  At : Int
  Old : (List ByteArray)
  New : (List ByteArray)
instance : Rep Hunk where
  n := 3
  rep := fun g x cs => ∃ v1 v2 : Value, cs = [.int .i64 x.At, v1, v2] ∧ RepSl g x.Old v1 ∧ RepSl g x.New v2
  len := fun h => by obtain ⟨v1, v2, rfl, h1, h2⟩ := h; rfl
  mono := fun hl h => by obtain ⟨v1, v2, h, h1, h2⟩ := h; exact ⟨v1, v2, h, h1.mono hl, h2.mono hl⟩
  one := fun h => by obtain ⟨v1, v2, rfl, h1, h2⟩ := h; exact one_cons rfl (one_cons h1.one (one_cons h2.one (one_nil)))
theorem rep_Hunk {g : Gh} {x : Hunk} {cs : List Value} (h : Rep.rep g x cs) : ∃ v1 v2 : Value, cs = [.int .i64 x.At, v1, v2] ∧ RepSl g x.Old v1 ∧ RepSl g x.New v2 := h
theorem rep_Hunk_mk {g : Gh} {x : Hunk} {v1 : Value} {v2 : Value} (h1 : RepSl g x.Old v1) (h2 : RepSl g x.New v2) : Rep.rep g x [.int .i64 x.At, v1, v2] := ⟨v1, v2, rfl, h1, h2⟩

structure Patch where
  Hunks : (List Hunk)
instance : Rep Patch where
  n := 1
  rep := fun g x cs => ∃ v1 : Value, cs = [v1] ∧ RepSl g x.Hunks v1
  len := fun h => by obtain ⟨v1, rfl, h1⟩ := h; rfl
  mono := fun hl h => by obtain ⟨v1, h, h1⟩ := h; exact ⟨v1, h, h1.mono hl⟩
  one := fun h => by obtain ⟨v1, rfl, h1⟩ := h; exact one_cons h1.one (one_nil)
theorem rep_Patch {g : Gh} {x : Patch} {cs : List Value} (h : Rep.rep g x cs) : ∃ v1 : Value, cs = [v1] ∧ RepSl g x.Hunks v1 := h
theorem rep_Patch_mk {g : Gh} {x : Patch} {v1 : Value} (h1 : RepSl g x.Hunks v1) : Rep.rep g x [v1] := ⟨v1, rfl, h1⟩

instance : ORep Hunk where
  orep := fun g x cs c => ∃ (v1 : Value) (c1 : Hl), ∃ (v2 : Value) (c2 : Hl), cs = [.int .i64 x.At, v1, v2] ∧ c = (c1 ++ (c2 ++ [])) ∧ OwnS g x.Old v1 c1 ∧ OwnS g x.New v2 c2
  olen := fun h => by obtain ⟨v1, c1, v2, c2, rfl, rfl, h1, h2⟩ := h; rfl
  omono := fun hl h => by obtain ⟨v1, c1, v2, c2, hc, hd, h1, h2⟩ := h; exact ⟨v1, c1, v2, c2, hc, hd, h1.mono hl, h2.mono hl⟩
  oone := fun h => by obtain ⟨v1, c1, v2, c2, rfl, rfl, h1, h2⟩ := h; exact one_cons rfl (one_cons h1.one (one_cons h2.one (one_nil)))
  ofz := fun hl hf h => by obtain ⟨v1, c1, v2, c2, rfl, rfl, h1, h2⟩ := h; exact ⟨v1, v2, rfl, h1.fz hl hf.left, h2.fz hl hf.right.left⟩
theorem orep_Hunk {g : Gh} {x : Hunk} {cs : List Value} {c : Hl} (h : ORep.orep g x cs c) : ∃ (v1 : Value) (c1 : Hl), ∃ (v2 : Value) (c2 : Hl), cs = [.int .i64 x.At, v1, v2] ∧ c = (c1 ++ (c2 ++ [])) ∧ OwnS g x.Old v1 c1 ∧ OwnS g x.New v2 c2 := h
theorem orep_Hunk_mk {g : Gh} {x : Hunk} {v1 : Value} {c1 : Hl} {v2 : Value} {c2 : Hl} (h1 : OwnS g x.Old v1 c1) (h2 : OwnS g x.New v2 c2) : ORep.orep g x [.int .i64 x.At, v1, v2] (c1 ++ (c2 ++ [])) := ⟨v1, c1, v2, c2, rfl, rfl, h1, h2⟩

structure Step_digest where
  e0 : Int
  e1 : Int
instance : Rep Step_digest where
  n := 2
  rep := fun g x cs => cs = [.int .i64 x.e0, .int .i64 x.e1]
  len := fun h => by obtain rfl := h; rfl
  mono := fun hl h => by obtain h := h; exact h
  one := fun h => by obtain rfl := h; exact one_cons rfl (one_cons rfl (one_nil))
theorem rep_Step_digest {g : Gh} {x : Step_digest} {cs : List Value} (h : Rep.rep g x cs) : cs = [.int .i64 x.e0, .int .i64 x.e1] := h
theorem rep_Step_digest_mk {g : Gh} {x : Step_digest} : Rep.rep g x [.int .i64 x.e0, .int .i64 x.e1] := rfl

end Go.Dc
