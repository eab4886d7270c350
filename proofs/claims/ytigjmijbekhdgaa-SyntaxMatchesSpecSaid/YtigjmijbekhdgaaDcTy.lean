/- The data of the program. -/
import Derived.Test.YtigjmijbekhdgaaDcO
namespace Go.Dc
open Go
structure Node where
  Label : ByteArray
  Children : (List Int)
instance : Rep Node where
  n := 2
  rep := fun g x cs => ∃ v1 : Value, cs = [.string x.Label, v1] ∧ RepSl g x.Children v1
  len := fun h => by obtain ⟨v1, rfl, h1⟩ := h; rfl
  mono := fun hl h => by obtain ⟨v1, h, h1⟩ := h; exact ⟨v1, h, h1.mono hl⟩
  one := fun h => by obtain ⟨v1, rfl, h1⟩ := h; exact one_cons rfl (one_cons h1.one (one_nil))
theorem rep_Node {g : Gh} {x : Node} {cs : List Value} (h : Rep.rep g x cs) : ∃ v1 : Value, cs = [.string x.Label, v1] ∧ RepSl g x.Children v1 := h
theorem rep_Node_mk {g : Gh} {x : Node} {v1 : Value} (h1 : RepSl g x.Children v1) : Rep.rep g x [.string x.Label, v1] := ⟨v1, rfl, h1⟩

structure Reader_syntax where
  text : ByteArray
  at_ : Int
  nodes : (List Node)
instance : Rep Reader_syntax where
  n := 3
  rep := fun g x cs => ∃ v1 : Value, cs = [.string x.text, .int .i64 x.at_, v1] ∧ RepSl g x.nodes v1
  len := fun h => by obtain ⟨v1, rfl, h1⟩ := h; rfl
  mono := fun hl h => by obtain ⟨v1, h, h1⟩ := h; exact ⟨v1, h, h1.mono hl⟩
  one := fun h => by obtain ⟨v1, rfl, h1⟩ := h; exact one_cons rfl (one_cons rfl (one_cons h1.one (one_nil)))
theorem rep_Reader_syntax {g : Gh} {x : Reader_syntax} {cs : List Value} (h : Rep.rep g x cs) : ∃ v1 : Value, cs = [.string x.text, .int .i64 x.at_, v1] ∧ RepSl g x.nodes v1 := h
theorem rep_Reader_syntax_mk {g : Gh} {x : Reader_syntax} {v1 : Value} (h1 : RepSl g x.nodes v1) : Rep.rep g x [.string x.text, .int .i64 x.at_, v1] := ⟨v1, rfl, h1⟩

structure SyntaxTree where
  Nodes : (List Node)
instance : Rep SyntaxTree where
  n := 1
  rep := fun g x cs => ∃ v1 : Value, cs = [v1] ∧ RepSl g x.Nodes v1
  len := fun h => by obtain ⟨v1, rfl, h1⟩ := h; rfl
  mono := fun hl h => by obtain ⟨v1, h, h1⟩ := h; exact ⟨v1, h, h1.mono hl⟩
  one := fun h => by obtain ⟨v1, rfl, h1⟩ := h; exact one_cons h1.one (one_nil)
theorem rep_SyntaxTree {g : Gh} {x : SyntaxTree} {cs : List Value} (h : Rep.rep g x cs) : ∃ v1 : Value, cs = [v1] ∧ RepSl g x.Nodes v1 := h
theorem rep_SyntaxTree_mk {g : Gh} {x : SyntaxTree} {v1 : Value} (h1 : RepSl g x.Nodes v1) : Rep.rep g x [v1] := ⟨v1, rfl, h1⟩

structure Fault where
  Code : Int
  Index : Int
instance : Rep Fault where
  n := 2
  rep := fun g x cs => cs = [.int .i64 x.Code, .int .i64 x.Index]
  len := fun h => by obtain rfl := h; rfl
  mono := fun hl h => by obtain h := h; exact h
  one := fun h => by obtain rfl := h; exact one_cons rfl (one_cons rfl (one_nil))
theorem rep_Fault {g : Gh} {x : Fault} {cs : List Value} (h : Rep.rep g x cs) : cs = [.int .i64 x.Code, .int .i64 x.Index] := h
theorem rep_Fault_mk {g : Gh} {x : Fault} : Rep.rep g x [.int .i64 x.Code, .int .i64 x.Index] := rfl

structure Shape_syntax where
  starts : (List Int)
  depths : (List Int)
instance : Rep Shape_syntax where
  n := 2
  rep := fun g x cs => ∃ v1 v2 : Value, cs = [v1, v2] ∧ RepSl g x.starts v1 ∧ RepSl g x.depths v2
  len := fun h => by obtain ⟨v1, v2, rfl, h1, h2⟩ := h; rfl
  mono := fun hl h => by obtain ⟨v1, v2, h, h1, h2⟩ := h; exact ⟨v1, v2, h, h1.mono hl, h2.mono hl⟩
  one := fun h => by obtain ⟨v1, v2, rfl, h1, h2⟩ := h; exact one_cons h1.one (one_cons h2.one (one_nil))
theorem rep_Shape_syntax {g : Gh} {x : Shape_syntax} {cs : List Value} (h : Rep.rep g x cs) : ∃ v1 v2 : Value, cs = [v1, v2] ∧ RepSl g x.starts v1 ∧ RepSl g x.depths v2 := h
theorem rep_Shape_syntax_mk {g : Gh} {x : Shape_syntax} {v1 : Value} {v2 : Value} (h1 : RepSl g x.starts v1) (h2 : RepSl g x.depths v2) : Rep.rep g x [v1, v2] := ⟨v1, v2, rfl, h1, h2⟩

structure Merger_syntax where
  base : SyntaxTree
  left : SyntaxTree
  right : SyntaxTree
  out : (List Node)
  bad : (List Int)
instance : Rep Merger_syntax where
  n := 5
  rep := fun g x cs => ∃ v1 v2 v3 v4 v5 : Value, cs = [v1, v2, v3, v4, v5] ∧ RepSl g x.base.Nodes v1 ∧ RepSl g x.left.Nodes v2 ∧ RepSl g x.right.Nodes v3 ∧ RepSl g x.out v4 ∧ RepSl g x.bad v5
  len := fun h => by obtain ⟨v1, v2, v3, v4, v5, rfl, h1, h2, h3, h4, h5⟩ := h; rfl
  mono := fun hl h => by obtain ⟨v1, v2, v3, v4, v5, h, h1, h2, h3, h4, h5⟩ := h; exact ⟨v1, v2, v3, v4, v5, h, h1.mono hl, h2.mono hl, h3.mono hl, h4.mono hl, h5.mono hl⟩
  one := fun h => by obtain ⟨v1, v2, v3, v4, v5, rfl, h1, h2, h3, h4, h5⟩ := h; exact one_cons h1.one (one_cons h2.one (one_cons h3.one (one_cons h4.one (one_cons h5.one (one_nil)))))
theorem rep_Merger_syntax {g : Gh} {x : Merger_syntax} {cs : List Value} (h : Rep.rep g x cs) : ∃ v1 v2 v3 v4 v5 : Value, cs = [v1, v2, v3, v4, v5] ∧ RepSl g x.base.Nodes v1 ∧ RepSl g x.left.Nodes v2 ∧ RepSl g x.right.Nodes v3 ∧ RepSl g x.out v4 ∧ RepSl g x.bad v5 := h
theorem rep_Merger_syntax_mk {g : Gh} {x : Merger_syntax} {v1 : Value} {v2 : Value} {v3 : Value} {v4 : Value} {v5 : Value} (h1 : RepSl g x.base.Nodes v1) (h2 : RepSl g x.left.Nodes v2) (h3 : RepSl g x.right.Nodes v3) (h4 : RepSl g x.out v4) (h5 : RepSl g x.bad v5) : Rep.rep g x [v1, v2, v3, v4, v5] := ⟨v1, v2, v3, v4, v5, rfl, h1, h2, h3, h4, h5⟩

structure SyntaxMerge_changeforgeref2 where
  Nodes : (List Node)
  Conflicts : (List Int)
instance : Rep SyntaxMerge_changeforgeref2 where
  n := 2
  rep := fun g x cs => ∃ v1 v2 : Value, cs = [v1, v2] ∧ RepSl g x.Nodes v1 ∧ RepSl g x.Conflicts v2
  len := fun h => by obtain ⟨v1, v2, rfl, h1, h2⟩ := h; rfl
  mono := fun hl h => by obtain ⟨v1, v2, h, h1, h2⟩ := h; exact ⟨v1, v2, h, h1.mono hl, h2.mono hl⟩
  one := fun h => by obtain ⟨v1, v2, rfl, h1, h2⟩ := h; exact one_cons h1.one (one_cons h2.one (one_nil))
theorem rep_SyntaxMerge_changeforgeref2 {g : Gh} {x : SyntaxMerge_changeforgeref2} {cs : List Value} (h : Rep.rep g x cs) : ∃ v1 v2 : Value, cs = [v1, v2] ∧ RepSl g x.Nodes v1 ∧ RepSl g x.Conflicts v2 := h
theorem rep_SyntaxMerge_changeforgeref2_mk {g : Gh} {x : SyntaxMerge_changeforgeref2} {v1 : Value} {v2 : Value} (h1 : RepSl g x.Nodes v1) (h2 : RepSl g x.Conflicts v2) : Rep.rep g x [v1, v2] := ⟨v1, v2, rfl, h1, h2⟩

end Go.Dc
