/- The functions as pure models. -/
import Derived.Test.YtigjmijbekhdgaaDcTy
namespace Go.Dc
open Go
set_option linter.unusedVariables false
noncomputable def stringslite_IndexByte (s_ : ByteArray) (c_ : Int) : Option Int :=
 some (idxB s_ c_)

noncomputable def strings_IndexByte (s_ : ByteArray) (c_ : Int) : Option Int :=
(stringslite_IndexByte s_ c_).bind fun y1 =>
 some y1

noncomputable def syntax_reader__blanks.j1 (r_ : Reader_syntax) (x1 : Int) : Option Reader_syntax :=
 some ({ text := r_.text, at_ := x1, nodes := r_.nodes } : Reader_syntax)

noncomputable def syntax_reader__blanks.l1 (r_ : Reader_syntax) (x2 : Int) : Option (Step Int Int) :=
(if decide (x2 < (r_.text.size : Int)) then (sAt? r_.text x2).bind fun y1 =>
(strings_IndexByte (⟨#[32, 9, 10]⟩ : ByteArray) y1).bind fun y2 =>
 some (decide (y2 ≥ 0)) else some false).bind fun x4 =>
 if x4 then
(ckK .i64 (x2 + 1)).bind fun z1 =>
 some (Step.next z1)
 else
 some (Step.done x2)

noncomputable def syntax_reader__blanks (r_ : Reader_syntax) : Option Reader_syntax :=
(iter (fun s => syntax_reader__blanks.l1 r_ s) r_.at_).bind fun r1 =>
 syntax_reader__blanks.j1 r_ r1

noncomputable def syntax_labelByte (c_ : Int) : Option Bool :=
(if decide (c_ ≥ 33) then some (decide (c_ ≤ 126)) else some false).bind fun x1 =>
(if x1 then some (!decide (c_ = 40)) else some false).bind fun x2 =>
(if x2 then some (!decide (c_ = 41)) else some false).bind fun x3 =>
 some x3

noncomputable def syntax_reader__is (r_ : Reader_syntax) (c_ : Int) : Option (Bool × Reader_syntax) :=
(syntax_reader__blanks r_).bind fun y1 =>
(if decide (y1.at_ < (y1.text.size : Int)) then (sAt? y1.text y1.at_).bind fun y2 =>
 some (decide (y2 = c_)) else some false).bind fun x1 =>
 some (x1, y1)

noncomputable def syntax_reader__label.j1 (y1 : Reader_syntax) (x1 : Int) : Option (ByteArray × Int × Reader_syntax) :=
(if decide (x1 = y1.at_) then some true else (ckK .i64 (x1 - y1.at_)).bind fun z1 =>
 some (decide (z1 > 20))).bind fun x2 =>
 if x2 then
 some ((⟨#[]⟩ : ByteArray), 1, y1)
 else
(scut? y1.text y1.at_ x1).bind fun y2 =>
 some (y2, 0, ({ text := y1.text, at_ := x1, nodes := y1.nodes } : Reader_syntax))

noncomputable def syntax_reader__label.l1 (y1 : Reader_syntax) (x3 : Int) : Option (Step Int Int) :=
(if decide (x3 < (y1.text.size : Int)) then (sAt? y1.text x3).bind fun y3 =>
(syntax_labelByte y3).bind fun y4 =>
 some y4 else some false).bind fun x5 =>
 if x5 then
(ckK .i64 (x3 + 1)).bind fun z2 =>
 some (Step.next z2)
 else
 some (Step.done x3)

noncomputable def syntax_reader__label (r_ : Reader_syntax) : Option (ByteArray × Int × Reader_syntax) :=
(syntax_reader__blanks r_).bind fun y1 =>
(iter (fun s => syntax_reader__label.l1 y1 s) y1.at_).bind fun r1 =>
 syntax_reader__label.j1 y1 r1

noncomputable def syntax_reader__node.j1 (y6 : ByteArray × Int × Reader_syntax) (x4 : List Node) : Option (Int × Reader_syntax) :=
 some (y6.2.1, ({ text := y6.2.2.text, at_ := y6.2.2.at_, nodes := x4 } : Reader_syntax))

noncomputable def syntax_reader__node.j2 (y8 : ByteArray × Int × Reader_syntax) (x5 : List Int) (x6 : ByteArray) (x7 : Int) (x8 : List Node) : Option (Int × Reader_syntax) :=
(ckK .i64 (x7 + 1)).bind fun z2 =>
(app? 40 x8 ([({ Label := y8.1, Children := x5 } : Node)] : List Node)).bind fun y9 =>
 some (0, ({ text := x6, at_ := z2, nodes := y9 } : Reader_syntax))

noncomputable def syntax_reader__node.l1 (above : Int) (rec_ : Reader_syntax → Int → Option (Int × Reader_syntax)) (x9 : List Int) (x10 : ByteArray) (x11 : Int) (x12 : List Node) : Option (Step ((List Int) × ByteArray × Int × (List Node)) ((Int × Reader_syntax) ⊕ ((List Int) × ByteArray × Int × (List Node)))) :=
(syntax_reader__is ({ text := x10, at_ := x11, nodes := x12 } : Reader_syntax) 41).bind fun y10 =>
 if !y10.1 then
(ckK .i64 (above + 1)).bind fun z3 =>
(rec_ y10.2 z3).bind fun y11 =>
 if !decide (y11.1 = 0) then
 some (Step.done (Sum.inl (y11.1, y11.2)))
 else
(ckK .i64 ((y11.2.nodes.length : Int) - 1)).bind fun z4 =>
(app? 8 x9 ([z4] : List Int)).bind fun y12 =>
 some (Step.next (y12, y11.2.text, y11.2.at_, y11.2.nodes))
 else
 some (Step.done (Sum.inr (x9, y10.2.text, y10.2.at_, y10.2.nodes)))

noncomputable def syntax_reader__node.body (rec_ : Reader_syntax → Int → Option (Int × Reader_syntax)) (r_ : Reader_syntax) (above : Int) : Option (Int × Reader_syntax) :=
(syntax_reader__blanks r_).bind fun y1 =>
(if decide (y1.at_ < (y1.text.size : Int)) then (sAt? y1.text y1.at_).bind fun y2 =>
(if decide (y2 = 40) then some true else (sAt? y1.text y1.at_).bind fun y3 =>
(syntax_labelByte y3).bind fun y4 =>
 some y4).bind fun x2 =>
 some x2 else some false).bind fun x1 =>
(if x1 then some (decide (above > 11)) else some false).bind fun x3 =>
 if x3 then
 some (10, y1)
 else
(syntax_reader__is y1 40).bind fun y5 =>
 if !y5.1 then
(syntax_reader__label y5.2).bind fun y6 =>
 if decide (y6.2.1 = 0) then
(app? 40 y6.2.2.nodes ([({ Label := y6.1, Children := [] } : Node)] : List Node)).bind fun y7 =>
 syntax_reader__node.j1 y6 y7
 else
 syntax_reader__node.j1 y6 y6.2.2.nodes
 else
(ckK .i64 (y5.2.at_ + 1)).bind fun z1 =>
(syntax_reader__label ({ text := y5.2.text, at_ := z1, nodes := y5.2.nodes } : Reader_syntax)).bind fun y8 =>
 if !decide (y8.2.1 = 0) then
 some (y8.2.1, y8.2.2)
 else
(iter (fun s => syntax_reader__node.l1 above rec_ s.1 s.2.1 s.2.2.1 s.2.2.2) ([], y8.2.2.text, y8.2.2.at_, y8.2.2.nodes)).bind fun r1 =>
(match r1 with
| .inl p => some p
| .inr p => syntax_reader__node.j2 y8 p.1 p.2.1 p.2.2.1 p.2.2.2)

noncomputable def syntax_reader__node.m : Nat → Reader_syntax → Int → Option (Int × Reader_syntax)
| 0 => fun _ _ => Option.none
| k + 1 => syntax_reader__node.body (syntax_reader__node.m k)

noncomputable def syntax_reader__node (r_ : Reader_syntax) (above : Int) : Option (Int × Reader_syntax) := syntax_reader__node.m ((13 - above).toNat + 1) r_ above

noncomputable def syntax_Parse (text : ByteArray) : Option (SyntaxTree × Fault) :=
 if decide ((text.size : Int) > 4096) then
 some (({ Nodes := [] } : SyntaxTree), ({ Code := 2, Index := (-1) } : Fault))
 else
(syntax_reader__node ({ text := text, at_ := 0, nodes := [] } : Reader_syntax) 0).bind fun y1 =>
 if !decide (y1.1 = 0) then
 some (({ Nodes := [] } : SyntaxTree), ({ Code := y1.1, Index := y1.2.at_ } : Fault))
 else
(syntax_reader__blanks y1.2).bind fun y2 =>
 if decide (y2.at_ < (text.size : Int)) then
 some (({ Nodes := [] } : SyntaxTree), ({ Code := 1, Index := y2.at_ } : Fault))
 else
 if decide ((y2.nodes.length : Int) > 80) then
 some (({ Nodes := [] } : SyntaxTree), ({ Code := 10, Index := (-1) } : Fault))
 else
 some (({ Nodes := y2.nodes } : SyntaxTree), ({ Code := 0, Index := 0 } : Fault))

noncomputable def changeforgeref1_At (code : Int) (index : Int) : Option Fault :=
 some ({ Code := code, Index := index } : Fault)

noncomputable def syntax_isLabel.j1 (s_ : ByteArray) : Option Bool :=
(if decide ((s_.size : Int) ≥ 1) then some (decide ((s_.size : Int) ≤ 20)) else some false).bind fun x1 =>
 some x1

noncomputable def syntax_isLabel.l1 (s_ : ByteArray) (x2 : Int) : Option (Step Int (Bool ⊕ Unit)) :=
 if decide (x2 < (s_.size : Int)) then
(sAt? s_ x2).bind fun y1 =>
(syntax_labelByte y1).bind fun y2 =>
 if !y2 then
 some (Step.done (Sum.inl false))
 else
(ckK .i64 (x2 + 1)).bind fun z1 =>
 some (Step.next z1)
 else
 some (Step.done (Sum.inr ()))

noncomputable def syntax_isLabel (s_ : ByteArray) : Option Bool :=
(iter (fun s => syntax_isLabel.l1 s_ s) 0).bind fun r1 =>
(match r1 with
| .inl p => some p
| .inr _ => syntax_isLabel.j1 s_)

noncomputable def syntax_shape__add.j2 (s_ : Shape_syntax) (x1 : Int) (y1 : List Int) : Option (Bool × Shape_syntax) :=
(app? 8 s_.depths ([x1] : List Int)).bind fun y2 =>
 some (true, ({ starts := y1, depths := y2 } : Shape_syntax))

noncomputable def syntax_shape__add.j1 (s_ : Shape_syntax) (x1 : Int) (x2 : Int) : Option (Bool × Shape_syntax) :=
(app? 8 s_.starts ([x2] : List Int)).bind fun y1 =>
 syntax_shape__add.j2 s_ x1 y1

noncomputable def syntax_shape__add.l1 (s_ : Shape_syntax) (n_ : Node) (x5 : Int) (x6 : Int) (x7 : Int) : Option (Step (Int × Int × Int) ((Bool × Shape_syntax) ⊕ (Int × Int))) :=
 if decide (x5 ≥ 0) then
(at? n_.Children x5).bind fun y3 =>
(ckK .i64 (x7 - 1)).bind fun z2 =>
(if !decide (y3 = z2) then some true else some (decide (y3 < 0))).bind fun x9 =>
 if x9 then
 some (Step.done (Sum.inl (false, s_)))
 else
(at? s_.starts y3).bind fun y4 =>
(at? s_.depths y3).bind fun y5 =>
(ckK .i64 (y5 + 1)).bind fun z3 =>
(ckK .i64 (x5 - 1)).bind fun z4 =>
 some (Step.next (z4, max x6 z3, y4))
 else
 some (Step.done (Sum.inr (x6, x7)))

noncomputable def syntax_shape__add (s_ : Shape_syntax) (n_ : Node) : Option (Bool × Shape_syntax) :=
(ckK .i64 ((n_.Children.length : Int) - 1)).bind fun z1 =>
(iter (fun s => syntax_shape__add.l1 s_ n_ s.1 s.2.1 s.2.2) (z1, 1, (s_.starts.length : Int))).bind fun r1 =>
(match r1 with
| .inl p => some p
| .inr p => syntax_shape__add.j1 s_ p.1 p.2)

noncomputable def syntax_Validate.j1 (t_ : SyntaxTree) (x2 : List Int) (x3 : List Int) : Option Fault :=
(ckK .i64 ((t_.Nodes.length : Int) - 1)).bind fun z1 =>
(at? x2 z1).bind fun y1 =>
 if !decide (y1 = 0) then
 some ({ Code := 5, Index := (-1) } : Fault)
 else
 some ({ Code := 0, Index := 0 } : Fault)

noncomputable def syntax_Validate.l1 (t_ : SyntaxTree) (x4 : Int) (x5 : List Int) (x6 : List Int) : Option (Step (Int × (List Int) × (List Int)) (Fault ⊕ ((List Int) × (List Int)))) :=
 if decide (x4 < (t_.Nodes.length : Int)) then
(at? t_.Nodes x4).bind fun y2 =>
(syntax_isLabel y2.Label).bind fun y3 =>
 if !y3 then
 some (Step.done (Sum.inl ({ Code := 12, Index := x4 } : Fault)))
 else
(syntax_shape__add ({ starts := x5, depths := x6 } : Shape_syntax) y2).bind fun y4 =>
 if !y4.1 then
 some (Step.done (Sum.inl ({ Code := 5, Index := x4 } : Fault)))
 else
(at? y4.2.depths x4).bind fun y5 =>
 if decide (y5 > 12) then
 some (Step.done (Sum.inl ({ Code := 10, Index := x4 } : Fault)))
 else
(ckK .i64 (x4 + 1)).bind fun z2 =>
 some (Step.next (z2, y4.2.starts, y4.2.depths))
 else
 some (Step.done (Sum.inr (x5, x6)))

noncomputable def syntax_Validate (t_ : SyntaxTree) : Option Fault :=
(if decide ((t_.Nodes.length : Int) = 0) then some true else some (decide ((t_.Nodes.length : Int) > 80))).bind fun x1 =>
 if x1 then
 some ({ Code := 2, Index := (-1) } : Fault)
 else
(iter (fun s => syntax_Validate.l1 t_ s.1 s.2.1 s.2.2) (0, [], [])).bind fun r1 =>
(match r1 with
| .inl p => some p
| .inr p => syntax_Validate.j1 t_ p.1 p.2)

noncomputable def syntax_Print.j1 (x1 : List ByteArray) : Option (ByteArray × Fault) :=
(ckK .i64 ((x1.length : Int) - 1)).bind fun z1 =>
(at? x1 z1).bind fun y3 =>
 some (y3, ({ Code := 0, Index := 0 } : Fault))

noncomputable def syntax_Print.j2 (x2 : Int) (x5 : List ByteArray) : Option (Step (Int × (List ByteArray)) (List ByteArray)) :=
(ckK .i64 (x2 + 1)).bind fun z2 =>
 some (Step.next (z2, x5))

noncomputable def syntax_Print.j3 (x2 : Int) (x6 : List ByteArray) : Option (Step (Int × (List ByteArray)) (List ByteArray)) :=
(at? x6 x2).bind fun y7 =>
(cat? (⟨#[40]⟩ : ByteArray) y7).bind fun z3 =>
(cat? z3 (⟨#[41]⟩ : ByteArray)).bind fun z4 =>
(at? x6 x2).bind fun y8 =>
(some (x6.set x2.toNat z4)).bind fun y9 =>
 syntax_Print.j2 x2 y9

noncomputable def syntax_Print.l2 (x2 : Int) (y4 : Node) (x7 : Int) (x8 : List ByteArray) : Option (Step (Int × (List ByteArray)) (List ByteArray)) :=
 if decide (x7 < (y4.Children.length : Int)) then
(at? y4.Children x7).bind fun y10 =>
(at? x8 x2).bind fun y11 =>
(at? x8 y10).bind fun y12 =>
(cat? (⟨#[32]⟩ : ByteArray) y12).bind fun z5 =>
(cat? y11 z5).bind fun z6 =>
(at? x8 x2).bind fun y13 =>
(some (x8.set x2.toNat z6)).bind fun y14 =>
(ckK .i64 (x7 + 1)).bind fun z7 =>
 some (Step.next (z7, y14))
 else
 some (Step.done x8)

noncomputable def syntax_Print.l1 (t_ : SyntaxTree) (x2 : Int) (x3 : List ByteArray) : Option (Step (Int × (List ByteArray)) (List ByteArray)) :=
 if decide (x2 < (t_.Nodes.length : Int)) then
(at? t_.Nodes x2).bind fun y4 =>
(at? x3 x2).bind fun y5 =>
(some (x3.set x2.toNat y4.Label)).bind fun y6 =>
 if decide ((y4.Children.length : Int) = 0) then
 syntax_Print.j2 x2 y6
 else
(iter (fun s => syntax_Print.l2 x2 y4 s.1 s.2) (0, y6)).bind fun r2 =>
 syntax_Print.j3 x2 r2
 else
 some (Step.done x3)

noncomputable def syntax_Print (t_ : SyntaxTree) : Option (ByteArray × Fault) :=
(syntax_Validate t_).bind fun y1 =>
 if !(decide (y1.Code = 0) && decide (y1.Index = 0)) then
 some ((⟨#[]⟩ : ByteArray), y1)
 else
(mk? 16 (t_.Nodes.length : Int) ByteArray.empty).bind fun y2 =>
(iter (fun s => syntax_Print.l1 t_ s.1 s.2) (0, y2)).bind fun r1 =>
 syntax_Print.j1 r1

noncomputable def changeforgeref2_LabelValid.j1 (s_ : ByteArray) : Option Bool :=
(if !decide (s_ = (⟨#[]⟩ : ByteArray)) then some (decide ((s_.size : Int) ≤ 20)) else some false).bind fun x1 =>
 some x1

noncomputable def changeforgeref2_LabelValid.l1 (s_ : ByteArray) (x2 : Int) : Option (Step Int (Bool ⊕ Unit)) :=
 if decide (x2 < (s_.size : Int)) then
(sAt? s_ x2).bind fun y1 =>
(if decide (y1 < 33) then some true else (sAt? s_ x2).bind fun y2 =>
 some (decide (y2 > 126))).bind fun x4 =>
(if x4 then some true else (sAt? s_ x2).bind fun y3 =>
 some (decide (y3 = 40))).bind fun x5 =>
(if x5 then some true else (sAt? s_ x2).bind fun y4 =>
 some (decide (y4 = 41))).bind fun x6 =>
 if x6 then
 some (Step.done (Sum.inl false))
 else
(ckK .i64 (x2 + 1)).bind fun z1 =>
 some (Step.next z1)
 else
 some (Step.done (Sum.inr ()))

noncomputable def changeforgeref2_LabelValid (s_ : ByteArray) : Option Bool :=
(iter (fun s => changeforgeref2_LabelValid.l1 s_ s) 0).bind fun r1 =>
(match r1 with
| .inl p => some p
| .inr _ => changeforgeref2_LabelValid.j1 s_)

noncomputable def changeforgeref2_Size.j1 (x1 : Int) : Option Int :=
 some x1

noncomputable def changeforgeref2_Size.l1 (t_ : SyntaxTree) (i_ : Int) (rec_ : SyntaxTree → Int → Option Int) (x2 : Int) (x3 : Int) : Option (Step (Int × Int) Int) :=
(at? t_.Nodes i_).bind fun y1 =>
 if decide (x2 < (y1.Children.length : Int)) then
(at? t_.Nodes i_).bind fun y2 =>
(at? y2.Children x2).bind fun y3 =>
(rec_ t_ y3).bind fun y4 =>
(ckK .i64 (x3 + y4)).bind fun z1 =>
(ckK .i64 (x2 + 1)).bind fun z2 =>
 some (Step.next (z2, z1))
 else
 some (Step.done x3)

noncomputable def changeforgeref2_Size.body (rec_ : SyntaxTree → Int → Option Int) (t_ : SyntaxTree) (i_ : Int) : Option Int :=
(iter (fun s => changeforgeref2_Size.l1 t_ i_ rec_ s.1 s.2) (0, 1)).bind fun r1 =>
 changeforgeref2_Size.j1 r1

noncomputable def changeforgeref2_Size.m : Nat → SyntaxTree → Int → Option Int
| 0 => fun _ _ => Option.none
| k + 1 => changeforgeref2_Size.body (changeforgeref2_Size.m k)

noncomputable def changeforgeref2_Size (t_ : SyntaxTree) (i_ : Int) : Option Int := changeforgeref2_Size.m (i_.natAbs + 1) t_ i_

noncomputable def changeforgeref2_Depth.j1 (x1 : Int) : Option Int :=
(ckK .i64 (x1 + 1)).bind fun z1 =>
 some z1

noncomputable def changeforgeref2_Depth.j2 (x2 : Int) (x5 : Int) : Option (Step (Int × Int) Int) :=
(ckK .i64 (x2 + 1)).bind fun z2 =>
 some (Step.next (z2, x5))

noncomputable def changeforgeref2_Depth.l1 (t_ : SyntaxTree) (i_ : Int) (rec_ : SyntaxTree → Int → Option Int) (x2 : Int) (x3 : Int) : Option (Step (Int × Int) Int) :=
(at? t_.Nodes i_).bind fun y1 =>
 if decide (x2 < (y1.Children.length : Int)) then
(at? t_.Nodes i_).bind fun y2 =>
(at? y2.Children x2).bind fun y3 =>
(rec_ t_ y3).bind fun y4 =>
 if decide (y4 > x3) then
 changeforgeref2_Depth.j2 x2 y4
 else
 changeforgeref2_Depth.j2 x2 x3
 else
 some (Step.done x3)

noncomputable def changeforgeref2_Depth.body (rec_ : SyntaxTree → Int → Option Int) (t_ : SyntaxTree) (i_ : Int) : Option Int :=
(iter (fun s => changeforgeref2_Depth.l1 t_ i_ rec_ s.1 s.2) (0, 0)).bind fun r1 =>
 changeforgeref2_Depth.j1 r1

noncomputable def changeforgeref2_Depth.m : Nat → SyntaxTree → Int → Option Int
| 0 => fun _ _ => Option.none
| k + 1 => changeforgeref2_Depth.body (changeforgeref2_Depth.m k)

noncomputable def changeforgeref2_Depth (t_ : SyntaxTree) (i_ : Int) : Option Int := changeforgeref2_Depth.m (i_.natAbs + 1) t_ i_

noncomputable def changeforgeref2_SyntaxFault.j1 (t_ : SyntaxTree) : Option Fault :=
(ckK .i64 ((t_.Nodes.length : Int) - 1)).bind fun z1 =>
(changeforgeref2_Size t_ z1).bind fun y2 =>
 if !decide (y2 = (t_.Nodes.length : Int)) then
(changeforgeref1_At 5 (-1)).bind fun y3 =>
 some y3
 else
 some ({ Code := 0, Index := 0 } : Fault)

noncomputable def changeforgeref2_SyntaxFault.j2 (x2 : Int) : Option (Step Int (Fault ⊕ Unit)) :=
(ckK .i64 (x2 + 1)).bind fun z2 =>
 some (Step.next z2)

noncomputable def changeforgeref2_SyntaxFault.j3 (t_ : SyntaxTree) (x2 : Int) : Option (Step Int (Fault ⊕ Unit)) :=
(changeforgeref2_Depth t_ x2).bind fun y8 =>
 if decide (y8 > 12) then
(changeforgeref1_At 10 x2).bind fun y9 =>
 some (Step.done (Sum.inl y9))
 else
 changeforgeref2_SyntaxFault.j2 x2

noncomputable def changeforgeref2_SyntaxFault.l2 (t_ : SyntaxTree) (x2 : Int) (y7 : Node) (x4 : Int) (x5 : Int) : Option (Step (Int × Int) (Fault ⊕ Unit)) :=
 if decide (x4 ≥ 0) then
(at? y7.Children x4).bind fun y10 =>
(if decide (y10 < 0) then some true else (at? y7.Children x4).bind fun y11 =>
(ckK .i64 (x5 - 1)).bind fun z4 =>
 some (!decide (y11 = z4))).bind fun x7 =>
 if x7 then
(changeforgeref1_At 5 x2).bind fun y12 =>
 some (Step.done (Sum.inl y12))
 else
(at? y7.Children x4).bind fun y13 =>
(changeforgeref2_Size t_ y13).bind fun y14 =>
(ckK .i64 (x5 - y14)).bind fun z5 =>
(ckK .i64 (x4 - 1)).bind fun z6 =>
 some (Step.next (z6, z5))
 else
 some (Step.done (Sum.inr ()))

noncomputable def changeforgeref2_SyntaxFault.l1 (t_ : SyntaxTree) (x2 : Int) : Option (Step Int (Fault ⊕ Unit)) :=
 if decide (x2 < (t_.Nodes.length : Int)) then
(at? t_.Nodes x2).bind fun y4 =>
(changeforgeref2_LabelValid y4.Label).bind fun y5 =>
 if !y5 then
(changeforgeref1_At 12 x2).bind fun y6 =>
 some (Step.done (Sum.inl y6))
 else
(at? t_.Nodes x2).bind fun y7 =>
(ckK .i64 ((y7.Children.length : Int) - 1)).bind fun z3 =>
(iter (fun s => changeforgeref2_SyntaxFault.l2 t_ x2 y7 s.1 s.2) (z3, x2)).bind fun r2 =>
(match r2 with
| .inl p => some (Step.done (Sum.inl p))
| .inr _ => changeforgeref2_SyntaxFault.j3 t_ x2)
 else
 some (Step.done (Sum.inr ()))

noncomputable def changeforgeref2_SyntaxFault (t_ : SyntaxTree) : Option Fault :=
(if decide ((t_.Nodes.length : Int) = 0) then some true else some (decide ((t_.Nodes.length : Int) > 80))).bind fun x1 =>
 if x1 then
(changeforgeref1_At 2 (-1)).bind fun y1 =>
 some y1
 else
(iter (fun s => changeforgeref2_SyntaxFault.l1 t_ s) 0).bind fun r1 =>
(match r1 with
| .inl p => some p
| .inr _ => changeforgeref2_SyntaxFault.j1 t_)

noncomputable def changeforgeequal_Ints.j1 : Option Bool :=
 some true

noncomputable def changeforgeequal_Ints.l1 (a_ : (List Int)) (b_ : (List Int)) (x1 : Int) : Option (Step Int (Bool ⊕ Unit)) :=
 if decide (x1 < (a_.length : Int)) then
(at? a_ x1).bind fun y1 =>
(at? b_ x1).bind fun y2 =>
 if !decide (y1 = y2) then
 some (Step.done (Sum.inl false))
 else
(ckK .i64 (x1 + 1)).bind fun z1 =>
 some (Step.next z1)
 else
 some (Step.done (Sum.inr ()))

noncomputable def changeforgeequal_Ints (a_ : (List Int)) (b_ : (List Int)) : Option Bool :=
 if !decide ((a_.length : Int) = (b_.length : Int)) then
 some false
 else
(iter (fun s => changeforgeequal_Ints.l1 a_ b_ s) 0).bind fun r1 =>
(match r1 with
| .inl p => some p
| .inr _ => changeforgeequal_Ints.j1)

noncomputable def changeforgeequal_Syntax.j1 : Option Bool :=
 some true

noncomputable def changeforgeequal_Syntax.l1 (a_ : SyntaxTree) (b_ : SyntaxTree) (x1 : Int) : Option (Step Int (Bool ⊕ Unit)) :=
 if decide (x1 < (a_.Nodes.length : Int)) then
(at? a_.Nodes x1).bind fun y1 =>
(at? b_.Nodes x1).bind fun y2 =>
(if !decide (y1.Label = y2.Label) then some true else (at? a_.Nodes x1).bind fun y3 =>
(at? b_.Nodes x1).bind fun y4 =>
(changeforgeequal_Ints y3.Children y4.Children).bind fun y5 =>
 some !y5).bind fun x3 =>
 if x3 then
 some (Step.done (Sum.inl false))
 else
(ckK .i64 (x1 + 1)).bind fun z1 =>
 some (Step.next z1)
 else
 some (Step.done (Sum.inr ()))

noncomputable def changeforgeequal_Syntax (a_ : SyntaxTree) (b_ : SyntaxTree) : Option Bool :=
 if !decide ((a_.Nodes.length : Int) = (b_.Nodes.length : Int)) then
 some false
 else
(iter (fun s => changeforgeequal_Syntax.l1 a_ b_ s) 0).bind fun r1 =>
(match r1 with
| .inl p => some p
| .inr _ => changeforgeequal_Syntax.j1)

noncomputable def changeforgelaw2_leaf (label : ByteArray) : Option Node :=
 some ({ Label := label, Children := [] } : Node)

noncomputable def changeforgelaw2_parsed.j1 (x1 : Bool) : Option Bool :=
 some x1

noncomputable def changeforgelaw2_parsed.j2 (y1 : SyntaxTree × Fault) (y3 : Node) (y4 : Node) : Option Bool :=
(changeforgeequal_Syntax y1.1 ({ Nodes := ([y3, y4, ({ Label := (⟨#[102]⟩ : ByteArray), Children := ([0, 1] : List Int) } : Node)] : List Node) } : SyntaxTree)).bind fun y5 =>
 changeforgelaw2_parsed.j1 y5

noncomputable def changeforgelaw2_parsed : Option Bool :=
(syntax_Parse (⟨#[40, 102, 32, 120, 32, 40, 103, 41, 41]⟩ : ByteArray)).bind fun y1 =>
(syntax_Print y1.1).bind fun y2 =>
 if decide (y1.2.Code = 0) then
 if decide (y2.2.Code = 0) then
 if decide (y2.1 = (⟨#[40, 102, 32, 120, 32, 103, 41]⟩ : ByteArray)) then
(changeforgelaw2_leaf (⟨#[120]⟩ : ByteArray)).bind fun y3 =>
(changeforgelaw2_leaf (⟨#[103]⟩ : ByteArray)).bind fun y4 =>
 changeforgelaw2_parsed.j2 y1 y3 y4
 else
 changeforgelaw2_parsed.j1 false
 else
 changeforgelaw2_parsed.j1 false
 else
 changeforgelaw2_parsed.j1 false

noncomputable def changeforgeref2_Printed.j1 (x1 : ByteArray) : Option ByteArray :=
(cat? x1 (⟨#[41]⟩ : ByteArray)).bind fun z2 =>
 some z2

noncomputable def changeforgeref2_Printed.l1 (t_ : SyntaxTree) (rec_ : SyntaxTree → Int → Option ByteArray) (y1 : Node) (x2 : Int) (x3 : ByteArray) : Option (Step (Int × ByteArray) ByteArray) :=
 if decide (x2 < (y1.Children.length : Int)) then
(cat? x3 (⟨#[32]⟩ : ByteArray)).bind fun z3 =>
(at? y1.Children x2).bind fun y4 =>
(rec_ t_ y4).bind fun y5 =>
(cat? z3 y5).bind fun z4 =>
(ckK .i64 (x2 + 1)).bind fun z5 =>
 some (Step.next (z5, z4))
 else
 some (Step.done x3)

noncomputable def changeforgeref2_Printed.body (rec_ : SyntaxTree → Int → Option ByteArray) (t_ : SyntaxTree) (i_ : Int) : Option ByteArray :=
(at? t_.Nodes i_).bind fun y1 =>
 if decide ((y1.Children.length : Int) = 0) then
(at? t_.Nodes i_).bind fun y2 =>
 some y2.Label
 else
(at? t_.Nodes i_).bind fun y3 =>
(cat? (⟨#[40]⟩ : ByteArray) y3.Label).bind fun z1 =>
(iter (fun s => changeforgeref2_Printed.l1 t_ rec_ y1 s.1 s.2) (0, z1)).bind fun r1 =>
 changeforgeref2_Printed.j1 r1

noncomputable def changeforgeref2_Printed.m : Nat → SyntaxTree → Int → Option ByteArray
| 0 => fun _ _ => Option.none
| k + 1 => changeforgeref2_Printed.body (changeforgeref2_Printed.m k)

noncomputable def changeforgeref2_Printed (t_ : SyntaxTree) (i_ : Int) : Option ByteArray := changeforgeref2_Printed.m (i_.natAbs + 1) t_ i_

noncomputable def changeforgelaw2_SyntaxRestored (t_ : SyntaxTree) : Option Bool :=
(syntax_Print t_).bind fun y1 =>
 if !decide (y1.2.Code = 0) then
(changeforgelaw2_parsed).bind fun y2 =>
 some y2
 else
(syntax_Parse y1.1).bind fun y3 =>
(if decide (y3.2.Code = 0) then (changeforgeequal_Syntax y3.1 t_).bind fun y4 =>
 some y4 else some false).bind fun x1 =>
(if x1 then (changeforgelaw2_parsed).bind fun y5 =>
 some y5 else some false).bind fun x2 =>
 some x2

noncomputable def changeforgelaw2_SyntaxNormal (text : ByteArray) : Option Bool :=
(syntax_Parse text).bind fun y1 =>
 if !decide (y1.2.Code = 0) then
(changeforgelaw2_parsed).bind fun y2 =>
 some y2
 else
(syntax_Print y1.1).bind fun y3 =>
(syntax_Parse y3.1).bind fun y4 =>
(if decide (y3.2.Code = 0) then some (decide (y4.2.Code = 0)) else some false).bind fun x1 =>
(if x1 then (changeforgeequal_Syntax y4.1 y1.1).bind fun y5 =>
 some y5 else some false).bind fun x2 =>
(if x2 then (syntax_Validate y1.1).bind fun y6 =>
 some (decide (y6.Code = 0)) else some false).bind fun x3 =>
(if x3 then (changeforgelaw2_parsed).bind fun y7 =>
 some y7 else some false).bind fun x4 =>
 some x4

noncomputable def syntax_equal.j2 : Option Bool :=
 some true

noncomputable def syntax_equal.l1 (s_ : SyntaxTree) (t_ : SyntaxTree) (rec_ : SyntaxTree → Int → SyntaxTree → Int → Option Bool) (y1 : Node) (y2 : Node) (x4 : Int) : Option (Step Int (Bool ⊕ Unit)) :=
 if decide (x4 < (y1.Children.length : Int)) then
(at? y1.Children x4).bind fun y3 =>
(at? y2.Children x4).bind fun y4 =>
(rec_ s_ y3 t_ y4).bind fun y5 =>
 if !y5 then
 some (Step.done (Sum.inl false))
 else
(ckK .i64 (x4 + 1)).bind fun z1 =>
 some (Step.next z1)
 else
 some (Step.done (Sum.inr ()))

noncomputable def syntax_equal.j1 (s_ : SyntaxTree) (t_ : SyntaxTree) (rec_ : SyntaxTree → Int → SyntaxTree → Int → Option Bool) (y1 : Node) (y2 : Node) (x1 : ByteArray) (x2 : ByteArray) : Option Bool :=
(if !decide (y1.Label = y2.Label) then some true else some (!decide ((y1.Children.length : Int) = (y2.Children.length : Int)))).bind fun x3 =>
 if x3 then
 some false
 else
(iter (fun s => syntax_equal.l1 s_ t_ rec_ y1 y2 s) 0).bind fun r1 =>
(match r1 with
| .inl p => some p
| .inr _ => syntax_equal.j2)

noncomputable def syntax_equal.body (rec_ : SyntaxTree → Int → SyntaxTree → Int → Option Bool) (s_ : SyntaxTree) (i_ : Int) (t_ : SyntaxTree) (k_ : Int) : Option Bool :=
(at? s_.Nodes i_).bind fun y1 =>
(at? t_.Nodes k_).bind fun y2 =>
 syntax_equal.j1 s_ t_ rec_ y1 y2 ByteArray.empty ByteArray.empty

noncomputable def syntax_equal.m : Nat → SyntaxTree → Int → SyntaxTree → Int → Option Bool
| 0 => fun _ _ _ _ => Option.none
| k + 1 => syntax_equal.body (syntax_equal.m k)

noncomputable def syntax_equal (s_ : SyntaxTree) (i_ : Int) (t_ : SyntaxTree) (k_ : Int) : Option Bool := syntax_equal.m (i_.natAbs + 1) s_ i_ t_ k_

noncomputable def syntax_merger__copy.j1 (y1 : Node) (x1 : List Int) (x2 : List Node) (x3 : List Node) (x4 : List Node) (x5 : List Node) (x6 : List Int) : Option Merger_syntax :=
(app? 40 x5 ([({ Label := y1.Label, Children := x1 } : Node)] : List Node)).bind fun y2 =>
 some ({ base := ({ Nodes := x2 } : SyntaxTree), left := ({ Nodes := x3 } : SyntaxTree), right := ({ Nodes := x4 } : SyntaxTree), out := y2, bad := x6 } : Merger_syntax)

noncomputable def syntax_merger__copy.l1 (t_ : SyntaxTree) (rec_ : Merger_syntax → SyntaxTree → Int → Option Merger_syntax) (y3 : Node) (x7 : Int) (x8 : List Int) (x9 : List Node) (x10 : List Node) (x11 : List Node) (x12 : List Node) (x13 : List Int) : Option (Step (Int × (List Int) × (List Node) × (List Node) × (List Node) × (List Node) × (List Int)) ((List Int) × (List Node) × (List Node) × (List Node) × (List Node) × (List Int))) :=
 if decide (x7 < (y3.Children.length : Int)) then
(at? y3.Children x7).bind fun y4 =>
(rec_ ({ base := ({ Nodes := x9 } : SyntaxTree), left := ({ Nodes := x10 } : SyntaxTree), right := ({ Nodes := x11 } : SyntaxTree), out := x12, bad := x13 } : Merger_syntax) t_ y4).bind fun y5 =>
(ckK .i64 ((y5.out.length : Int) - 1)).bind fun z1 =>
(app? 8 x8 ([z1] : List Int)).bind fun y6 =>
(ckK .i64 (x7 + 1)).bind fun z2 =>
 some (Step.next (z2, y6, y5.base.Nodes, y5.left.Nodes, y5.right.Nodes, y5.out, y5.bad))
 else
 some (Step.done (x8, x9, x10, x11, x12, x13))

noncomputable def syntax_merger__copy.body (rec_ : Merger_syntax → SyntaxTree → Int → Option Merger_syntax) (m_ : Merger_syntax) (t_ : SyntaxTree) (i_ : Int) : Option Merger_syntax :=
(at? t_.Nodes i_).bind fun y1 =>
(at? t_.Nodes i_).bind fun y3 =>
(iter (fun s => syntax_merger__copy.l1 t_ rec_ y3 s.1 s.2.1 s.2.2.1 s.2.2.2.1 s.2.2.2.2.1 s.2.2.2.2.2.1 s.2.2.2.2.2.2) (0, [], m_.base.Nodes, m_.left.Nodes, m_.right.Nodes, m_.out, m_.bad)).bind fun r1 =>
 syntax_merger__copy.j1 y1 r1.1 r1.2.1 r1.2.2.1 r1.2.2.2.1 r1.2.2.2.2.1 r1.2.2.2.2.2

noncomputable def syntax_merger__copy.m : Nat → Merger_syntax → SyntaxTree → Int → Option Merger_syntax
| 0 => fun _ _ _ => Option.none
| k + 1 => syntax_merger__copy.body (syntax_merger__copy.m k)

noncomputable def syntax_merger__copy (m_ : Merger_syntax) (t_ : SyntaxTree) (i_ : Int) : Option Merger_syntax := syntax_merger__copy.m (i_.natAbs + 1) m_ t_ i_

noncomputable def syntax_merger__merge.j2 (x4 : List Node) (x5 : List Node) (x6 : List Node) (x7 : List Node) (x8 : List Int) : Option Merger_syntax :=
 some ({ base := ({ Nodes := x4 } : SyntaxTree), left := ({ Nodes := x5 } : SyntaxTree), right := ({ Nodes := x6 } : SyntaxTree), out := x7, bad := x8 } : Merger_syntax)

noncomputable def syntax_merger__merge.j4 (x14 : ByteArray) (x15 : List Int) (x16 : List Node) (x17 : List Node) (x18 : List Node) (x19 : List Node) (x20 : List Int) : Option Merger_syntax :=
(app? 40 x19 ([({ Label := x14, Children := x15 } : Node)] : List Node)).bind fun y9 =>
 syntax_merger__merge.j2 x16 x17 x18 y9 x20

noncomputable def syntax_merger__merge.l1 (rec_ : Merger_syntax → Int → Int → Int → Option Merger_syntax) (y1 : Node) (y2 : Node) (y3 : Node) (x21 : Int) (x22 : List Int) (x23 : List Node) (x24 : List Node) (x25 : List Node) (x26 : List Node) (x27 : List Int) : Option (Step (Int × (List Int) × (List Node) × (List Node) × (List Node) × (List Node) × (List Int)) ((List Int) × (List Node) × (List Node) × (List Node) × (List Node) × (List Int))) :=
 if decide (x21 < (y1.Children.length : Int)) then
(at? y1.Children x21).bind fun y10 =>
(at? y2.Children x21).bind fun y11 =>
(at? y3.Children x21).bind fun y12 =>
(rec_ ({ base := ({ Nodes := x23 } : SyntaxTree), left := ({ Nodes := x24 } : SyntaxTree), right := ({ Nodes := x25 } : SyntaxTree), out := x26, bad := x27 } : Merger_syntax) y10 y11 y12).bind fun y13 =>
(ckK .i64 ((y13.out.length : Int) - 1)).bind fun z1 =>
(app? 8 x22 ([z1] : List Int)).bind fun y14 =>
(ckK .i64 (x21 + 1)).bind fun z2 =>
 some (Step.next (z2, y14, y13.base.Nodes, y13.left.Nodes, y13.right.Nodes, y13.out, y13.bad))
 else
 some (Step.done (x22, x23, x24, x25, x26, x27))

noncomputable def syntax_merger__merge.j3 (m_ : Merger_syntax) (rec_ : Merger_syntax → Int → Int → Int → Option Merger_syntax) (y1 : Node) (y2 : Node) (y3 : Node) (x14 : ByteArray) : Option Merger_syntax :=
(iter (fun s => syntax_merger__merge.l1 rec_ y1 y2 y3 s.1 s.2.1 s.2.2.1 s.2.2.2.1 s.2.2.2.2.1 s.2.2.2.2.2.1 s.2.2.2.2.2.2) (0, [], m_.base.Nodes, m_.left.Nodes, m_.right.Nodes, m_.out, m_.bad)).bind fun r1 =>
 syntax_merger__merge.j4 x14 r1.1 r1.2.1 r1.2.2.1 r1.2.2.2.1 r1.2.2.2.2.1 r1.2.2.2.2.2

noncomputable def syntax_merger__merge.j1 (m_ : Merger_syntax) (o_ : Int) (a_ : Int) (b_ : Int) (rec_ : Merger_syntax → Int → Int → Int → Option Merger_syntax) (y1 : Node) (y2 : Node) (y3 : Node) (x1 : ByteArray) (x2 : ByteArray) (x3 : ByteArray) : Option Merger_syntax :=
(syntax_equal m_.right b_ m_.base o_).bind fun y4 =>
(if y4 then some true else (syntax_equal m_.right b_ m_.left a_).bind fun y5 =>
 some y5).bind fun x9 =>
 if x9 then
(syntax_merger__copy m_ m_.left a_).bind fun y6 =>
 syntax_merger__merge.j2 y6.base.Nodes y6.left.Nodes y6.right.Nodes y6.out y6.bad
 else
(syntax_equal m_.left a_ m_.base o_).bind fun y7 =>
 if y7 then
(syntax_merger__copy m_ m_.right b_).bind fun y8 =>
 syntax_merger__merge.j2 y8.base.Nodes y8.left.Nodes y8.right.Nodes y8.out y8.bad
 else
(if decide ((y1.Children.length : Int) = (y2.Children.length : Int)) then some (decide ((y1.Children.length : Int) = (y3.Children.length : Int))) else some false).bind fun x10 =>
(if x10 then (if decide (y1.Label = y2.Label) then some true else some (decide (y1.Label = y3.Label))).bind fun x12 =>
(if x12 then some true else some (decide (y2.Label = y3.Label))).bind fun x13 =>
 some x13 else some false).bind fun x11 =>
 if x11 then
(if !decide (y3.Label = y1.Label) then some (!decide (y3.Label = y2.Label)) else some false).bind fun x29 =>
 if x29 then
 syntax_merger__merge.j3 m_ rec_ y1 y2 y3 y3.Label
 else
 syntax_merger__merge.j3 m_ rec_ y1 y2 y3 y2.Label
 else
(syntax_merger__copy m_ m_.left a_).bind fun y15 =>
(ckK .i64 ((y15.out.length : Int) - 1)).bind fun z3 =>
(app? 8 y15.bad ([z3] : List Int)).bind fun y16 =>
 syntax_merger__merge.j2 y15.base.Nodes y15.left.Nodes y15.right.Nodes y15.out y16

noncomputable def syntax_merger__merge.body (rec_ : Merger_syntax → Int → Int → Int → Option Merger_syntax) (m_ : Merger_syntax) (o_ : Int) (a_ : Int) (b_ : Int) : Option Merger_syntax :=
(at? m_.base.Nodes o_).bind fun y1 =>
(at? m_.left.Nodes a_).bind fun y2 =>
(at? m_.right.Nodes b_).bind fun y3 =>
 syntax_merger__merge.j1 m_ o_ a_ b_ rec_ y1 y2 y3 ByteArray.empty ByteArray.empty ByteArray.empty

noncomputable def syntax_merger__merge.m : Nat → Merger_syntax → Int → Int → Int → Option Merger_syntax
| 0 => fun _ _ _ _ => Option.none
| k + 1 => syntax_merger__merge.body (syntax_merger__merge.m k)

noncomputable def syntax_merger__merge (m_ : Merger_syntax) (o_ : Int) (a_ : Int) (b_ : Int) : Option Merger_syntax := syntax_merger__merge.m (o_.natAbs + 1) m_ o_ a_ b_

noncomputable def syntax_Merge.j1 (base : SyntaxTree) (left : SyntaxTree) (right : SyntaxTree) : Option (SyntaxTree × (List Int) × Fault) :=
(ckK .i64 ((base.Nodes.length : Int) - 1)).bind fun z1 =>
(ckK .i64 ((left.Nodes.length : Int) - 1)).bind fun z2 =>
(ckK .i64 ((right.Nodes.length : Int) - 1)).bind fun z3 =>
(syntax_merger__merge ({ base := base, left := left, right := right, out := [], bad := [] } : Merger_syntax) z1 z2 z3).bind fun y1 =>
 if decide ((y1.out.length : Int) > 80) then
 some (({ Nodes := [] } : SyntaxTree), [], ({ Code := 10, Index := (-1) } : Fault))
 else
 some (({ Nodes := y1.out } : SyntaxTree), y1.bad, ({ Code := 0, Index := 0 } : Fault))

noncomputable def syntax_Merge.j2 (x1 : Int) (y3 : Fault) (x3 : Int) : Option (Step Int ((SyntaxTree × (List Int) × Fault) ⊕ Unit)) :=
 if !(decide (y3.Code = 0) && decide (x3 = 0)) then
 some (Step.done (Sum.inl (({ Nodes := [] } : SyntaxTree), [], ({ Code := y3.Code, Index := x3 } : Fault))))
 else
(ckK .i64 (x1 + 1)).bind fun z4 =>
 some (Step.next z4)

noncomputable def syntax_Merge.l1 (base : SyntaxTree) (left : SyntaxTree) (right : SyntaxTree) (x1 : Int) : Option (Step Int ((SyntaxTree × (List Int) × Fault) ⊕ Unit)) :=
 if decide (x1 < (([base, left, right] : List SyntaxTree).length : Int)) then
(at? ([base, left, right] : List SyntaxTree) x1).bind fun y2 =>
(syntax_Validate y2).bind fun y3 =>
(if !(decide (y3.Code = 0) && decide (y3.Index = 0)) then some (decide (x1 > 0)) else some false).bind fun x4 =>
 if x4 then
(ckK .i64 ((-1) - x1)).bind fun z5 =>
 syntax_Merge.j2 x1 y3 z5
 else
 syntax_Merge.j2 x1 y3 y3.Index
 else
 some (Step.done (Sum.inr ()))

noncomputable def syntax_Merge (base : SyntaxTree) (left : SyntaxTree) (right : SyntaxTree) : Option (SyntaxTree × (List Int) × Fault) :=
(iter (fun s => syntax_Merge.l1 base left right s) 0).bind fun r1 =>
(match r1 with
| .inl p => some p
| .inr _ => syntax_Merge.j1 base left right)

noncomputable def changeforgeref2_copied.j1 (m_ : SyntaxMerge_changeforgeref2) (x1 : List Node) : Option SyntaxMerge_changeforgeref2 :=
 some ({ Nodes := x1, Conflicts := m_.Conflicts } : SyntaxMerge_changeforgeref2)

noncomputable def changeforgeref2_copied.j2 (x2 : Int) (x5 : List Node) : Option (Step (Int × (List Node)) (List Node)) :=
(ckK .i64 (x2 + 1)).bind fun z4 =>
 some (Step.next (z4, x5))

noncomputable def changeforgeref2_copied.j3 (t_ : SyntaxTree) (x2 : Int) (x3 : List Node) (x6 : List Int) : Option (Step (Int × (List Node)) (List Node)) :=
(at? t_.Nodes x2).bind fun y2 =>
(app? 40 x3 ([({ Label := y2.Label, Children := x6 } : Node)] : List Node)).bind fun y3 =>
 changeforgeref2_copied.j2 x2 y3

noncomputable def changeforgeref2_copied.l2 (t_ : SyntaxTree) (z3 : Int) (x2 : Int) (x7 : Int) (x8 : List Int) : Option (Step (Int × (List Int)) (List Int)) :=
(at? t_.Nodes x2).bind fun y4 =>
 if decide (x7 < (y4.Children.length : Int)) then
(at? t_.Nodes x2).bind fun y5 =>
(at? y5.Children x7).bind fun y6 =>
(ckK .i64 (y6 + z3)).bind fun z5 =>
(app? 8 x8 ([z5] : List Int)).bind fun y7 =>
(ckK .i64 (x7 + 1)).bind fun z6 =>
 some (Step.next (z6, y7))
 else
 some (Step.done x8)

noncomputable def changeforgeref2_copied.l1 (t_ : SyntaxTree) (i_ : Int) (z3 : Int) (x2 : Int) (x3 : List Node) : Option (Step (Int × (List Node)) (List Node)) :=
 if decide (x2 ≤ i_) then
(iter (fun s => changeforgeref2_copied.l2 t_ z3 x2 s.1 s.2) (0, [])).bind fun r2 =>
 changeforgeref2_copied.j3 t_ x2 x3 r2
 else
 some (Step.done x3)

noncomputable def changeforgeref2_copied (m_ : SyntaxMerge_changeforgeref2) (t_ : SyntaxTree) (i_ : Int) : Option SyntaxMerge_changeforgeref2 :=
(ckK .i64 (i_ + 1)).bind fun z1 =>
(changeforgeref2_Size t_ i_).bind fun y1 =>
(ckK .i64 (z1 - y1)).bind fun z2 =>
(ckK .i64 ((m_.Nodes.length : Int) - z2)).bind fun z3 =>
(iter (fun s => changeforgeref2_copied.l1 t_ i_ z3 s.1 s.2) (z2, m_.Nodes)).bind fun r1 =>
 changeforgeref2_copied.j1 m_ r1

noncomputable def changeforgeref2_merged.j2 (x6 : ByteArray) (x7 : List Int) (x8 : List Node) (x9 : List Int) : Option SyntaxMerge_changeforgeref2 :=
(app? 40 x8 ([({ Label := x6, Children := x7 } : Node)] : List Node)).bind fun y14 =>
 some ({ Nodes := y14, Conflicts := x9 } : SyntaxMerge_changeforgeref2)

noncomputable def changeforgeref2_merged.l1 (base : SyntaxTree) (i_ : Int) (left : SyntaxTree) (j : Int) (right : SyntaxTree) (k_ : Int) (rec_ : SyntaxMerge_changeforgeref2 → SyntaxTree → Int → SyntaxTree → Int → SyntaxTree → Int → Option SyntaxMerge_changeforgeref2) (y6 : Node) (x10 : Int) (x11 : List Int) (x12 : List Node) (x13 : List Int) : Option (Step (Int × (List Int) × (List Node) × (List Int)) ((List Int) × (List Node) × (List Int))) :=
 if decide (x10 < (y6.Children.length : Int)) then
(at? base.Nodes i_).bind fun y15 =>
(at? y15.Children x10).bind fun y16 =>
(at? left.Nodes j).bind fun y17 =>
(at? y17.Children x10).bind fun y18 =>
(at? right.Nodes k_).bind fun y19 =>
(at? y19.Children x10).bind fun y20 =>
(rec_ ({ Nodes := x12, Conflicts := x13 } : SyntaxMerge_changeforgeref2) base y16 left y18 right y20).bind fun y21 =>
(ckK .i64 ((y21.Nodes.length : Int) - 1)).bind fun z2 =>
(app? 8 x11 ([z2] : List Int)).bind fun y22 =>
(ckK .i64 (x10 + 1)).bind fun z3 =>
 some (Step.next (z3, y22, y21.Nodes, y21.Conflicts))
 else
 some (Step.done (x11, x12, x13))

noncomputable def changeforgeref2_merged.j1 (m_ : SyntaxMerge_changeforgeref2) (base : SyntaxTree) (i_ : Int) (left : SyntaxTree) (j : Int) (right : SyntaxTree) (k_ : Int) (rec_ : SyntaxMerge_changeforgeref2 → SyntaxTree → Int → SyntaxTree → Int → SyntaxTree → Int → Option SyntaxMerge_changeforgeref2) (y6 : Node) (x6 : ByteArray) : Option SyntaxMerge_changeforgeref2 :=
(iter (fun s => changeforgeref2_merged.l1 base i_ left j right k_ rec_ y6 s.1 s.2.1 s.2.2.1 s.2.2.2) (0, [], m_.Nodes, m_.Conflicts)).bind fun r1 =>
 changeforgeref2_merged.j2 x6 r1.1 r1.2.1 r1.2.2

noncomputable def changeforgeref2_merged.body (rec_ : SyntaxMerge_changeforgeref2 → SyntaxTree → Int → SyntaxTree → Int → SyntaxTree → Int → Option SyntaxMerge_changeforgeref2) (m_ : SyntaxMerge_changeforgeref2) (base : SyntaxTree) (i_ : Int) (left : SyntaxTree) (j : Int) (right : SyntaxTree) (k_ : Int) : Option SyntaxMerge_changeforgeref2 :=
(changeforgeref2_Printed base i_).bind fun y1 =>
(changeforgeref2_Printed left j).bind fun y2 =>
(changeforgeref2_Printed right k_).bind fun y3 =>
(if decide (y3 = y1) then some true else some (decide (y2 = y3))).bind fun x1 =>
 if x1 then
(changeforgeref2_copied m_ left j).bind fun y4 =>
 some y4
 else
 if decide (y2 = y1) then
(changeforgeref2_copied m_ right k_).bind fun y5 =>
 some y5
 else
(at? base.Nodes i_).bind fun y6 =>
(at? left.Nodes j).bind fun y7 =>
(at? right.Nodes k_).bind fun y8 =>
(at? base.Nodes i_).bind fun y9 =>
(at? left.Nodes j).bind fun y10 =>
(if !decide ((y10.Children.length : Int) = (y6.Children.length : Int)) then some true else (at? right.Nodes k_).bind fun y11 =>
 some (!decide ((y11.Children.length : Int) = (y6.Children.length : Int)))).bind fun x2 =>
(if x2 then some true else (if !decide (y7.Label = y8.Label) then some (!decide (y7.Label = y9.Label)) else some false).bind fun x4 =>
(if x4 then some (!decide (y8.Label = y9.Label)) else some false).bind fun x5 =>
 some x5).bind fun x3 =>
 if x3 then
(changeforgeref2_copied m_ left j).bind fun y12 =>
(ckK .i64 ((y12.Nodes.length : Int) - 1)).bind fun z1 =>
(app? 8 y12.Conflicts ([z1] : List Int)).bind fun y13 =>
 some ({ Nodes := y12.Nodes, Conflicts := y13 } : SyntaxMerge_changeforgeref2)
 else
 if decide (y7.Label = y9.Label) then
 changeforgeref2_merged.j1 m_ base i_ left j right k_ rec_ y6 y8.Label
 else
 changeforgeref2_merged.j1 m_ base i_ left j right k_ rec_ y6 y7.Label

noncomputable def changeforgeref2_merged.m : Nat → SyntaxMerge_changeforgeref2 → SyntaxTree → Int → SyntaxTree → Int → SyntaxTree → Int → Option SyntaxMerge_changeforgeref2
| 0 => fun _ _ _ _ _ _ _ => Option.none
| k + 1 => changeforgeref2_merged.body (changeforgeref2_merged.m k)

noncomputable def changeforgeref2_merged (m_ : SyntaxMerge_changeforgeref2) (base : SyntaxTree) (i_ : Int) (left : SyntaxTree) (j : Int) (right : SyntaxTree) (k_ : Int) : Option SyntaxMerge_changeforgeref2 := changeforgeref2_merged.m (i_.natAbs + 1) m_ base i_ left j right k_

noncomputable def changeforgeref2_MergeSyntax.j2 (base : SyntaxTree) (left : SyntaxTree) (right : SyntaxTree) (x3 : Int) (x4 : Int) : Option (SyntaxTree × (List Int) × Fault) :=
 if !decide (x3 = 0) then
 some (({ Nodes := [] } : SyntaxTree), [], ({ Code := x3, Index := x4 } : Fault))
 else
(ckK .i64 ((base.Nodes.length : Int) - 1)).bind fun z1 =>
(ckK .i64 ((left.Nodes.length : Int) - 1)).bind fun z2 =>
(ckK .i64 ((right.Nodes.length : Int) - 1)).bind fun z3 =>
(changeforgeref2_merged ({ Nodes := [], Conflicts := [] } : SyntaxMerge_changeforgeref2) base z1 left z2 right z3).bind fun y2 =>
 if decide ((y2.Nodes.length : Int) > 80) then
(changeforgeref1_At 10 (-1)).bind fun y3 =>
 some (({ Nodes := [] } : SyntaxTree), [], y3)
 else
 some (({ Nodes := y2.Nodes } : SyntaxTree), y2.Conflicts, ({ Code := 0, Index := 0 } : Fault))

noncomputable def changeforgeref2_MergeSyntax.j1 (base : SyntaxTree) (left : SyntaxTree) (right : SyntaxTree) (x1 : Int) (x2 : Int) : Option (SyntaxTree × (List Int) × Fault) :=
(if decide (x1 = 0) then (changeforgeref2_SyntaxFault right).bind fun y4 =>
 some (!decide (y4.Code = 0)) else some false).bind fun x5 =>
 if x5 then
(changeforgeref2_SyntaxFault right).bind fun y5 =>
(changeforgeref1_At y5.Code (-3)).bind fun y6 =>
 changeforgeref2_MergeSyntax.j2 base left right y6.Code y6.Index
 else
 changeforgeref2_MergeSyntax.j2 base left right x1 x2

noncomputable def changeforgeref2_MergeSyntax (base : SyntaxTree) (left : SyntaxTree) (right : SyntaxTree) : Option (SyntaxTree × (List Int) × Fault) :=
(changeforgeref2_SyntaxFault base).bind fun y1 =>
(if decide (y1.Code = 0) then (changeforgeref2_SyntaxFault left).bind fun y7 =>
 some (!decide (y7.Code = 0)) else some false).bind fun x6 =>
 if x6 then
(changeforgeref2_SyntaxFault left).bind fun y8 =>
(changeforgeref1_At y8.Code (-2)).bind fun y9 =>
 changeforgeref2_MergeSyntax.j1 base left right y9.Code y9.Index
 else
 changeforgeref2_MergeSyntax.j1 base left right y1.Code y1.Index

noncomputable def changeforgelaw2_SyntaxMergeMatchesSpec (base : SyntaxTree) (left : SyntaxTree) (right : SyntaxTree) : Option Bool :=
(syntax_Merge base left right).bind fun y1 =>
(changeforgeref2_MergeSyntax base left right).bind fun y2 =>
(changeforgeequal_Syntax y1.1 y2.1).bind fun y3 =>
(if y3 then (changeforgeequal_Ints y1.2.1 y2.2.1).bind fun y4 =>
 some y4 else some false).bind fun x1 =>
(if x1 then some (decide (y1.2.2.Code = y2.2.2.Code) && decide (y1.2.2.Index = y2.2.2.Index)) else some false).bind fun x2 =>
(if x2 then (changeforgelaw2_parsed).bind fun y5 =>
 some y5 else some false).bind fun x3 =>
 some x3

noncomputable def changeforgelaw2_SyntaxMergeOneSided (base : SyntaxTree) (other : SyntaxTree) : Option Bool :=
(syntax_Merge base base other).bind fun y1 =>
(syntax_Merge base other base).bind fun y2 =>
(syntax_Merge base other other).bind fun y3 =>
(syntax_Validate base).bind fun y4 =>
(if !decide (y4.Code = 0) then some true else (syntax_Validate other).bind fun y5 =>
 some (!decide (y5.Code = 0))).bind fun x1 =>
 if x1 then
(if !decide (y1.2.2.Code = 0) then some (!decide (y2.2.2.Code = 0)) else some false).bind fun x2 =>
(if x2 then some (!decide (y3.2.2.Code = 0)) else some false).bind fun x3 =>
(if x3 then (changeforgelaw2_parsed).bind fun y6 =>
 some y6 else some false).bind fun x4 =>
 some x4
 else
(if decide (y1.2.2.Code = 0) then some (decide (y2.2.2.Code = 0)) else some false).bind fun x5 =>
(if x5 then some (decide (y3.2.2.Code = 0)) else some false).bind fun x6 =>
(if x6 then (changeforgeequal_Syntax y1.1 other).bind fun y7 =>
 some y7 else some false).bind fun x7 =>
(if x7 then (changeforgeequal_Syntax y2.1 other).bind fun y8 =>
 some y8 else some false).bind fun x8 =>
(if x8 then (changeforgeequal_Syntax y3.1 other).bind fun y9 =>
 some y9 else some false).bind fun x9 =>
(if x9 then (ckK .i64 ((y1.2.1.length : Int) + (y2.2.1.length : Int))).bind fun z1 =>
(ckK .i64 (z1 + (y3.2.1.length : Int))).bind fun z2 =>
 some (decide (z2 = 0)) else some false).bind fun x10 =>
(if x10 then (changeforgelaw2_parsed).bind fun y10 =>
 some y10 else some false).bind fun x11 =>
 some x11

noncomputable def changeforgelaw2_SyntaxMergeSymmetric (base : SyntaxTree) (left : SyntaxTree) (right : SyntaxTree) : Option Bool :=
(syntax_Merge base left right).bind fun y1 =>
(syntax_Merge base right left).bind fun y2 =>
(if !decide (y1.2.2.Code = 0) then some true else some (!decide (y2.2.2.Code = 0))).bind fun x1 =>
 if x1 then
(changeforgelaw2_parsed).bind fun y3 =>
 some y3
 else
(if decide ((y1.2.1.length : Int) = (y2.2.1.length : Int)) then (if decide ((y1.2.1.length : Int) > 0) then some true else (changeforgeequal_Syntax y1.1 y2.1).bind fun y4 =>
 some y4).bind fun x3 =>
 some x3 else some false).bind fun x2 =>
(if x2 then (changeforgelaw2_parsed).bind fun y5 =>
 some y5 else some false).bind fun x4 =>
 some x4

noncomputable def changeforgelaw2_SyntaxMergeValid.j1 (y1 : SyntaxTree × (List Int) × Fault) : Option Bool :=
(syntax_Validate y1.1).bind fun y3 =>
(if decide (y3.Code = 0) then (changeforgelaw2_parsed).bind fun y4 =>
 some y4 else some false).bind fun x1 =>
 some x1

noncomputable def changeforgelaw2_SyntaxMergeValid.l1 (y1 : SyntaxTree × (List Int) × Fault) (x2 : Int) : Option (Step Int (Bool ⊕ Unit)) :=
 if decide (x2 < (y1.2.1.length : Int)) then
(at? y1.2.1 x2).bind fun y5 =>
(if decide (y5 < 0) then some true else (at? y1.2.1 x2).bind fun y6 =>
 some (decide (y6 ≥ (y1.1.Nodes.length : Int)))).bind fun x4 =>
(if x4 then some true else (if decide (x2 > 0) then (at? y1.2.1 x2).bind fun y7 =>
(ckK .i64 (x2 - 1)).bind fun z1 =>
(at? y1.2.1 z1).bind fun y8 =>
 some (decide (y7 ≤ y8)) else some false).bind fun x6 =>
 some x6).bind fun x5 =>
 if x5 then
 some (Step.done (Sum.inl false))
 else
(ckK .i64 (x2 + 1)).bind fun z2 =>
 some (Step.next z2)
 else
 some (Step.done (Sum.inr ()))

noncomputable def changeforgelaw2_SyntaxMergeValid (base : SyntaxTree) (left : SyntaxTree) (right : SyntaxTree) : Option Bool :=
(syntax_Merge base left right).bind fun y1 =>
 if !decide (y1.2.2.Code = 0) then
(changeforgelaw2_parsed).bind fun y2 =>
 some y2
 else
(iter (fun s => changeforgelaw2_SyntaxMergeValid.l1 y1 s) 0).bind fun r1 =>
(match r1 with
| .inl p => some p
| .inr _ => changeforgelaw2_SyntaxMergeValid.j1 y1)
end Go.Dc
