/- The data of the program. -/
import Derived.Test.YtibigfejalemjaaDoorDcZM
namespace Go.Dc
open Go
structure Fault where
  Code : Int
  Index : Int
instance : Rep Fault where
  n := 2
  rep := fun g x cs => cs = [.int .i64 x.Code, .int .i64 x.Index]
  len := fun h => by obtain rfl := h; rfl
  mono := fun hl h => by obtain h := h; exact h
  one := fun h => by obtain rfl := h; exact one_cons rfl (one_cons rfl (one_nil))
theorem rep_Fault {g : Gh} {x : Fault} {cs : List Value} (h : Rep.rep g x cs) : cs = [.int .i64 x.Code, .int .i64 x.Index] := h
theorem rep_Fault_mk {g : Gh} {x : Fault} : Rep.rep g x [.int .i64 x.Code, .int .i64 x.Index] := rfl

structure Hunk where
  At : Int
  Old : (List ByteArray)
  New : (List ByteArray)
instance : Rep Hunk where
  n := 3
  rep := fun g x cs => ∃ v1 v2 : Value, cs = [.int .i64 x.At, v1, v2] ∧ RepSl g x.Old v1 ∧ RepSl g x.New v2
  len := fun h => by obtain ⟨v1, v2, rfl, h1, h2⟩ := h; rfl
  mono := fun hl h => by obtain ⟨v1, v2, h, h1, h2⟩ := h; exact ⟨v1, v2, h, h1.mono hl, h2.mono hl⟩
  one := fun h => by obtain ⟨v1, v2, rfl, h1, h2⟩ := h; exact one_cons rfl (one_cons h1.one (one_cons h2.one (one_nil)))
theorem rep_Hunk {g : Gh} {x : Hunk} {cs : List Value} (h : Rep.rep g x cs) : ∃ v1 v2 : Value, cs = [.int .i64 x.At, v1, v2] ∧ RepSl g x.Old v1 ∧ RepSl g x.New v2 := h
theorem rep_Hunk_mk {g : Gh} {x : Hunk} {v1 : Value} {v2 : Value} (h1 : RepSl g x.Old v1) (h2 : RepSl g x.New v2) : Rep.rep g x [.int .i64 x.At, v1, v2] := ⟨v1, v2, rfl, h1, h2⟩

structure Patch where
  Hunks : (List Hunk)
instance : Rep Patch where
  n := 1
  rep := fun g x cs => ∃ v1 : Value, cs = [v1] ∧ RepSl g x.Hunks v1
  len := fun h => by obtain ⟨v1, rfl, h1⟩ := h; rfl
  mono := fun hl h => by obtain ⟨v1, h, h1⟩ := h; exact ⟨v1, h, h1.mono hl⟩
  one := fun h => by obtain ⟨v1, rfl, h1⟩ := h; exact one_cons h1.one (one_nil)
theorem rep_Patch {g : Gh} {x : Patch} {cs : List Value} (h : Rep.rep g x cs) : ∃ v1 : Value, cs = [v1] ∧ RepSl g x.Hunks v1 := h
theorem rep_Patch_mk {g : Gh} {x : Patch} {v1 : Value} (h1 : RepSl g x.Hunks v1) : Rep.rep g x [v1] := ⟨v1, rfl, h1⟩

structure TreeChange where
  Kind : Int
  Path : ByteArray
  To : ByteArray
  Lines : (List ByteArray)
  Patch : Patch
instance : Rep TreeChange where
  n := 5
  rep := fun g x cs => ∃ v1 v2 : Value, cs = [.int .i64 x.Kind, .string x.Path, .string x.To, v1, v2] ∧ RepSl g x.Lines v1 ∧ RepSl g x.Patch.Hunks v2
  len := fun h => by obtain ⟨v1, v2, rfl, h1, h2⟩ := h; rfl
  mono := fun hl h => by obtain ⟨v1, v2, h, h1, h2⟩ := h; exact ⟨v1, v2, h, h1.mono hl, h2.mono hl⟩
  one := fun h => by obtain ⟨v1, v2, rfl, h1, h2⟩ := h; exact one_cons rfl (one_cons rfl (one_cons rfl (one_cons h1.one (one_cons h2.one (one_nil)))))
theorem rep_TreeChange {g : Gh} {x : TreeChange} {cs : List Value} (h : Rep.rep g x cs) : ∃ v1 v2 : Value, cs = [.int .i64 x.Kind, .string x.Path, .string x.To, v1, v2] ∧ RepSl g x.Lines v1 ∧ RepSl g x.Patch.Hunks v2 := h
theorem rep_TreeChange_mk {g : Gh} {x : TreeChange} {v1 : Value} {v2 : Value} (h1 : RepSl g x.Lines v1) (h2 : RepSl g x.Patch.Hunks v2) : Rep.rep g x [.int .i64 x.Kind, .string x.Path, .string x.To, v1, v2] := ⟨v1, v2, rfl, h1, h2⟩

structure TreePatch where
  Changes : (List TreeChange)
instance : Rep TreePatch where
  n := 1
  rep := fun g x cs => ∃ v1 : Value, cs = [v1] ∧ RepSl g x.Changes v1
  len := fun h => by obtain ⟨v1, rfl, h1⟩ := h; rfl
  mono := fun hl h => by obtain ⟨v1, h, h1⟩ := h; exact ⟨v1, h, h1.mono hl⟩
  one := fun h => by obtain ⟨v1, rfl, h1⟩ := h; exact one_cons h1.one (one_nil)
theorem rep_TreePatch {g : Gh} {x : TreePatch} {cs : List Value} (h : Rep.rep g x cs) : ∃ v1 : Value, cs = [v1] ∧ RepSl g x.Changes v1 := h
theorem rep_TreePatch_mk {g : Gh} {x : TreePatch} {v1 : Value} (h1 : RepSl g x.Changes v1) : Rep.rep g x [v1] := ⟨v1, rfl, h1⟩

structure File where
  Path : ByteArray
  Lines : (List ByteArray)
instance : Rep File where
  n := 2
  rep := fun g x cs => ∃ v1 : Value, cs = [.string x.Path, v1] ∧ RepSl g x.Lines v1
  len := fun h => by obtain ⟨v1, rfl, h1⟩ := h; rfl
  mono := fun hl h => by obtain ⟨v1, h, h1⟩ := h; exact ⟨v1, h, h1.mono hl⟩
  one := fun h => by obtain ⟨v1, rfl, h1⟩ := h; exact one_cons rfl (one_cons h1.one (one_nil))
theorem rep_File {g : Gh} {x : File} {cs : List Value} (h : Rep.rep g x cs) : ∃ v1 : Value, cs = [.string x.Path, v1] ∧ RepSl g x.Lines v1 := h
theorem rep_File_mk {g : Gh} {x : File} {v1 : Value} (h1 : RepSl g x.Lines v1) : Rep.rep g x [.string x.Path, v1] := ⟨v1, rfl, h1⟩

structure FileTree where
  Files : (List File)
instance : Rep FileTree where
  n := 1
  rep := fun g x cs => ∃ v1 : Value, cs = [v1] ∧ RepSl g x.Files v1
  len := fun h => by obtain ⟨v1, rfl, h1⟩ := h; rfl
  mono := fun hl h => by obtain ⟨v1, h, h1⟩ := h; exact ⟨v1, h, h1.mono hl⟩
  one := fun h => by obtain ⟨v1, rfl, h1⟩ := h; exact one_cons h1.one (one_nil)
theorem rep_FileTree {g : Gh} {x : FileTree} {cs : List Value} (h : Rep.rep g x cs) : ∃ v1 : Value, cs = [v1] ∧ RepSl g x.Files v1 := h
theorem rep_FileTree_mk {g : Gh} {x : FileTree} {v1 : Value} (h1 : RepSl g x.Files v1) : Rep.rep g x [v1] := ⟨v1, rfl, h1⟩

structure SeqOp where
  Delete : Bool
  Replica : Int
  Counter : Int
  AfterReplica : Int
  AfterCounter : Int
  Line : ByteArray
instance : Rep SeqOp where
  n := 6
  rep := fun g x cs => cs = [.bool x.Delete, .int .i64 x.Replica, .int .i64 x.Counter, .int .i64 x.AfterReplica, .int .i64 x.AfterCounter, .string x.Line]
  len := fun h => by obtain rfl := h; rfl
  mono := fun hl h => by obtain h := h; exact h
  one := fun h => by obtain rfl := h; exact one_cons rfl (one_cons rfl (one_cons rfl (one_cons rfl (one_cons rfl (one_cons rfl (one_nil))))))
theorem rep_SeqOp {g : Gh} {x : SeqOp} {cs : List Value} (h : Rep.rep g x cs) : cs = [.bool x.Delete, .int .i64 x.Replica, .int .i64 x.Counter, .int .i64 x.AfterReplica, .int .i64 x.AfterCounter, .string x.Line] := h
theorem rep_SeqOp_mk {g : Gh} {x : SeqOp} : Rep.rep g x [.bool x.Delete, .int .i64 x.Replica, .int .i64 x.Counter, .int .i64 x.AfterReplica, .int .i64 x.AfterCounter, .string x.Line] := rfl

structure Element_sequence where
  counter : Int
  replica : Int
instance : Rep Element_sequence where
  n := 2
  rep := fun g x cs => cs = [.int .i64 x.counter, .int .i64 x.replica]
  len := fun h => by obtain rfl := h; rfl
  mono := fun hl h => by obtain h := h; exact h
  one := fun h => by obtain rfl := h; exact one_cons rfl (one_cons rfl (one_nil))
theorem rep_Element_sequence {g : Gh} {x : Element_sequence} {cs : List Value} (h : Rep.rep g x cs) : cs = [.int .i64 x.counter, .int .i64 x.replica] := h
theorem rep_Element_sequence_mk {g : Gh} {x : Element_sequence} : Rep.rep g x [.int .i64 x.counter, .int .i64 x.replica] := rfl

structure Step_digest where
  e0 : Int
  e1 : Int
instance : Rep Step_digest where
  n := 2
  rep := fun g x cs => cs = [.int .i64 x.e0, .int .i64 x.e1]
  len := fun h => by obtain rfl := h; rfl
  mono := fun hl h => by obtain h := h; exact h
  one := fun h => by obtain rfl := h; exact one_cons rfl (one_cons rfl (one_nil))
theorem rep_Step_digest {g : Gh} {x : Step_digest} {cs : List Value} (h : Rep.rep g x cs) : cs = [.int .i64 x.e0, .int .i64 x.e1] := h
theorem rep_Step_digest_mk {g : Gh} {x : Step_digest} : Rep.rep g x [.int .i64 x.e0, .int .i64 x.e1] := rfl

end Go.Dc
