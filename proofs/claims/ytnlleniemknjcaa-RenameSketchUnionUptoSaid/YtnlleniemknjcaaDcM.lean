/- The functions as pure models. -/
import Derived.Test.YtnlleniemknjcaaDcTy
namespace Go.Dc
open Go
set_option linter.unusedVariables false
noncomputable def stringslite_IndexByte (s_ : ByteArray) (c_ : Int) : Option Int :=
 some (idxB s_ c_)

noncomputable def strings_IndexByte (s_ : ByteArray) (c_ : Int) : Option Int :=
(stringslite_IndexByte s_ c_).bind fun y1 =>
 some y1

noncomputable def lines_Validate.j1 : Option Fault :=
 some ({ Code := 0, Index := 0 } : Fault)

noncomputable def lines_Validate.l1 (lines : (List ByteArray)) (x1 : Int) : Option (Step Int (Fault ⊕ Unit)) :=
 if decide (x1 < (lines.length : Int)) then
(at? lines x1).bind fun y1 =>
 if decide ((y1.size : Int) > 80) then
 some (Step.done (Sum.inl ({ Code := 2, Index := x1 } : Fault)))
 else
(strings_IndexByte y1 10).bind fun y2 =>
 if decide (y2 ≥ 0) then
 some (Step.done (Sum.inl ({ Code := 5, Index := x1 } : Fault)))
 else
(ckK .i64 (x1 + 1)).bind fun z1 =>
 some (Step.next z1)
 else
 some (Step.done (Sum.inr ()))

noncomputable def lines_Validate (lines : (List ByteArray)) : Option Fault :=
 if decide ((lines.length : Int) > 120) then
 some ({ Code := 2, Index := (-1) } : Fault)
 else
(iter (fun s => lines_Validate.l1 lines s) 0).bind fun r1 =>
(match r1 with
| .inl p => some p
| .inr _ => lines_Validate.j1)

noncomputable def lines_Second (b_ : (List ByteArray)) (index : Int) : Option Fault :=
(lines_Validate b_).bind fun y1 =>
 if !(decide (y1.Code = 0) && decide (y1.Index = 0)) then
 some ({ Code := y1.Code, Index := index } : Fault)
 else
 some ({ Code := 0, Index := 0 } : Fault)

noncomputable def diff_Align_s1 (i_ : Int) (j : Int) (u2 : (List Int)) (u3 : Int) : Option Int :=
(ckK .i64 (i_ * u3)).bind fun z1 =>
(ckK .i64 (z1 + j)).bind fun z2 =>
(at? u2 z2).bind fun y1 =>
 some y1

noncomputable def diff_Align.j2 (x2 : List Int) : Option (List Int) :=
 some x2

noncomputable def diff_Align.l1 (a_ : (List ByteArray)) (b_ : (List ByteArray)) (z1 : Int) (x1 : List Int) (x3 : Int) (x4 : Int) (x5 : List Int) : Option (Step (Int × Int × (List Int)) (List Int)) :=
(if decide (x4 < (a_.length : Int)) then some true else some (decide (x3 < (b_.length : Int)))).bind fun x7 =>
 if x7 then
(if decide (x4 < (a_.length : Int)) then some (decide (x3 < (b_.length : Int))) else some false).bind fun x8 =>
(if x8 then (at? a_ x4).bind fun y2 =>
(at? b_ x3).bind fun y3 =>
 some (decide (y2 = y3)) else some false).bind fun x9 =>
 if x9 then
(app? 8 x5 ([0] : List Int)).bind fun y4 =>
(ckK .i64 (x4 + 1)).bind fun z4 =>
(ckK .i64 (x3 + 1)).bind fun z5 =>
 some (Step.next (z5, z4, y4))
 else
(if decide (x3 = (b_.length : Int)) then some true else (if decide (x4 < (a_.length : Int)) then (ckK .i64 (x4 + 1)).bind fun z6 =>
(diff_Align_s1 z6 x3 x1 z1).bind fun y5 =>
(ckK .i64 (x3 + 1)).bind fun z7 =>
(diff_Align_s1 x4 z7 x1 z1).bind fun y6 =>
 some (decide (y5 ≥ y6)) else some false).bind fun x11 =>
 some x11).bind fun x10 =>
 if x10 then
(app? 8 x5 ([1] : List Int)).bind fun y7 =>
(ckK .i64 (x4 + 1)).bind fun z8 =>
 some (Step.next (x3, z8, y7))
 else
(app? 8 x5 ([2] : List Int)).bind fun y8 =>
(ckK .i64 (x3 + 1)).bind fun z9 =>
 some (Step.next (z9, x4, y8))
 else
 some (Step.done x5)

noncomputable def diff_Align.j1 (a_ : (List ByteArray)) (b_ : (List ByteArray)) (z1 : Int) (x1 : List Int) : Option (List Int) :=
(iter (fun s => diff_Align.l1 a_ b_ z1 x1 s.1 s.2.1 s.2.2) (0, 0, [])).bind fun r1 =>
 diff_Align.j2 r1

noncomputable def diff_Align.j3 (x12 : Int) (x15 : List Int) : Option (Step (Int × (List Int)) (List Int)) :=
(ckK .i64 (x12 - 1)).bind fun z11 =>
 some (Step.next (z11, x15))

noncomputable def diff_Align.j4 (x12 : Int) (x16 : List Int) : Option (Step (Int × (List Int)) (List Int)) :=
 diff_Align.j3 x12 x16

noncomputable def diff_Align.j5 (z1 : Int) (x12 : Int) (x17 : Int) (x18 : List Int) (x20 : Int) : Option (Step (Int × (List Int)) (List Int)) :=
(ckK .i64 (x12 * z1)).bind fun z15 =>
(ckK .i64 (z15 + x17)).bind fun z16 =>
(at? x18 z16).bind fun y11 =>
(some (x18.set z16.toNat x20)).bind fun y12 =>
(ckK .i64 (x17 - 1)).bind fun z17 =>
 some (Step.next (z17, y12))

noncomputable def diff_Align.l3 (a_ : (List ByteArray)) (b_ : (List ByteArray)) (z1 : Int) (x12 : Int) (x17 : Int) (x18 : List Int) : Option (Step (Int × (List Int)) (List Int)) :=
 if decide (x17 ≥ 0) then
(ckK .i64 (x12 + 1)).bind fun z13 =>
(diff_Align_s1 z13 x17 x18 z1).bind fun y9 =>
(ckK .i64 (x17 + 1)).bind fun z14 =>
(diff_Align_s1 x12 z14 x18 z1).bind fun y10 =>
(at? a_ x12).bind fun y13 =>
(at? b_ x17).bind fun y14 =>
 if decide (y13 = y14) then
(ckK .i64 (x12 + 1)).bind fun z18 =>
(ckK .i64 (x17 + 1)).bind fun z19 =>
(diff_Align_s1 z18 z19 x18 z1).bind fun y15 =>
(ckK .i64 (y15 + 1)).bind fun z20 =>
 diff_Align.j5 z1 x12 x17 x18 z20
 else
 diff_Align.j5 z1 x12 x17 x18 (max y9 y10)
 else
 some (Step.done x18)

noncomputable def diff_Align.l2 (a_ : (List ByteArray)) (b_ : (List ByteArray)) (z1 : Int) (x12 : Int) (x13 : List Int) : Option (Step (Int × (List Int)) (List Int)) :=
 if decide (x12 ≥ 0) then
(ckK .i64 ((b_.length : Int) - 1)).bind fun z12 =>
(iter (fun s => diff_Align.l3 a_ b_ z1 x12 s.1 s.2) (z12, x13)).bind fun r3 =>
 diff_Align.j4 x12 r3
 else
 some (Step.done x13)

noncomputable def diff_Align (a_ : (List ByteArray)) (b_ : (List ByteArray)) : Option (List Int) :=
(ckK .i64 ((b_.length : Int) + 1)).bind fun z1 =>
(ckK .i64 ((a_.length : Int) + 1)).bind fun z2 =>
(ckK .i64 (z2 * z1)).bind fun z3 =>
(mk? 8 z3 (0 : Int)).bind fun y1 =>
(ckK .i64 ((a_.length : Int) - 1)).bind fun z10 =>
(iter (fun s => diff_Align.l2 a_ b_ z1 s.1 s.2) (z10, y1)).bind fun r2 =>
 diff_Align.j1 a_ b_ z1 r2

noncomputable def blame_Annotate.j2 (x1 : List Int) : Option ((List Int) × Fault) :=
 some (x1, ({ Code := 0, Index := 0 } : Fault))

noncomputable def blame_Annotate.j3 (x2 : Int) (x5 : List Int) : Option (Step (Int × (List Int)) (List Int)) :=
(ckK .i64 (x2 + 1)).bind fun z1 =>
 some (Step.next (z1, x5))

noncomputable def blame_Annotate.j4 (x2 : Int) (x6 : List Int) : Option (Step (Int × (List Int)) (List Int)) :=
 blame_Annotate.j3 x2 x6

noncomputable def blame_Annotate.j5 (x7 : Int) (x11 : List Int) (x12 : List Int) : Option (Step (Int × (List Int) × (List Int)) (List Int)) :=
(ckK .i64 (x7 + 1)).bind fun z3 =>
 some (Step.next (z3, x11, x12))

noncomputable def blame_Annotate.j6 (x7 : Int) (x9 : List Int) (x13 : List Int) : Option (Step (Int × (List Int) × (List Int)) (List Int)) :=
(cut? x9 1 (x9.length : Int)).bind fun y7 =>
 blame_Annotate.j5 x7 x13 y7

noncomputable def blame_Annotate.l2 (x2 : Int) (y4 : (List Int)) (x7 : Int) (x8 : List Int) (x9 : List Int) : Option (Step (Int × (List Int) × (List Int)) (List Int)) :=
 if decide (x7 < (y4.length : Int)) then
(at? y4 x7).bind fun y5 =>
 if decide (y5 = 2) then
(app? 8 x8 ([x2] : List Int)).bind fun y6 =>
 blame_Annotate.j5 x7 y6 x9
 else
 if decide (y5 = 0) then
(at? x9 0).bind fun y8 =>
(app? 8 x8 ([y8] : List Int)).bind fun y9 =>
 blame_Annotate.j6 x7 x9 y9
 else
 blame_Annotate.j6 x7 x9 x8
 else
 some (Step.done x8)

noncomputable def blame_Annotate.l1 (versions : (List (List ByteArray))) (x2 : Int) (x3 : List Int) : Option (Step (Int × (List Int)) (List Int)) :=
 if decide (x2 < (versions.length : Int)) then
(at? versions x2).bind fun y1 =>
 if decide (x2 = 0) then
(mk? 8 (y1.length : Int) (0 : Int)).bind fun y2 =>
 blame_Annotate.j3 x2 y2
 else
(ckK .i64 (x2 - 1)).bind fun z2 =>
(at? versions z2).bind fun y3 =>
(diff_Align y3 y1).bind fun y4 =>
(iter (fun s => blame_Annotate.l2 x2 y4 s.1 s.2.1 s.2.2) (0, [], x3)).bind fun r2 =>
 blame_Annotate.j4 x2 r2
 else
 some (Step.done x3)

noncomputable def blame_Annotate.j1 (versions : (List (List ByteArray))) : Option ((List Int) × Fault) :=
(iter (fun s => blame_Annotate.l1 versions s.1 s.2) (0, [])).bind fun r1 =>
 blame_Annotate.j2 r1

noncomputable def blame_Annotate.l3 (versions : (List (List ByteArray))) (x14 : Int) : Option (Step Int (((List Int) × Fault) ⊕ Unit)) :=
 if decide (x14 < (versions.length : Int)) then
(at? versions x14).bind fun y10 =>
(lines_Second y10 x14).bind fun y11 =>
 if !(decide (y11.Code = 0) && decide (y11.Index = 0)) then
 some (Step.done (Sum.inl ([], y11)))
 else
(ckK .i64 (x14 + 1)).bind fun z4 =>
 some (Step.next z4)
 else
 some (Step.done (Sum.inr ()))

noncomputable def blame_Annotate (versions : (List (List ByteArray))) : Option ((List Int) × Fault) :=
 if decide ((versions.length : Int) > 16) then
 some ([], ({ Code := 2, Index := (-1) } : Fault))
 else
(iter (fun s => blame_Annotate.l3 versions s) 0).bind fun r3 =>
(match r3 with
| .inl p => some p
| .inr _ => blame_Annotate.j1 versions)

noncomputable def changeforgeref1_At (code : Int) (index : Int) : Option Fault :=
 some ({ Code := code, Index := index } : Fault)

noncomputable def changeforgeequal_Ints.j1 : Option Bool :=
 some true

noncomputable def changeforgeequal_Ints.l1 (a_ : (List Int)) (b_ : (List Int)) (x1 : Int) : Option (Step Int (Bool ⊕ Unit)) :=
 if decide (x1 < (a_.length : Int)) then
(at? a_ x1).bind fun y1 =>
(at? b_ x1).bind fun y2 =>
 if !decide (y1 = y2) then
 some (Step.done (Sum.inl false))
 else
(ckK .i64 (x1 + 1)).bind fun z1 =>
 some (Step.next z1)
 else
 some (Step.done (Sum.inr ()))

noncomputable def changeforgeequal_Ints (a_ : (List Int)) (b_ : (List Int)) : Option Bool :=
 if !decide ((a_.length : Int) = (b_.length : Int)) then
 some false
 else
(iter (fun s => changeforgeequal_Ints.l1 a_ b_ s) 0).bind fun r1 =>
(match r1 with
| .inl p => some p
| .inr _ => changeforgeequal_Ints.j1)

noncomputable def changeforgelaw2_added : Option Bool :=
(blame_Annotate ([([(⟨#[97]⟩ : ByteArray)] : List ByteArray), ([(⟨#[98]⟩ : ByteArray), (⟨#[97]⟩ : ByteArray)] : List ByteArray)] : List (List ByteArray))).bind fun y1 =>
(if decide (y1.2.Code = 0) then (changeforgeequal_Ints y1.1 ([1, 0] : List Int)).bind fun y2 =>
 some y2 else some false).bind fun x1 =>
 some x1

noncomputable def changeforgeref1_LinesFault.j1 : Option Fault :=
 some ({ Code := 0, Index := 0 } : Fault)

noncomputable def changeforgeref1_LinesFault.j2 (x1 : Int) : Option (Step Int (Fault ⊕ Unit)) :=
(ckK .i64 (x1 + 1)).bind fun z1 =>
 some (Step.next z1)

noncomputable def changeforgeref1_LinesFault.j3 (x1 : Int) : Option (Step Int (Fault ⊕ Unit)) :=
 changeforgeref1_LinesFault.j2 x1

noncomputable def changeforgeref1_LinesFault.l2 (l_ : (List ByteArray)) (x1 : Int) (x3 : Int) : Option (Step Int (Fault ⊕ Unit)) :=
(at? l_ x1).bind fun y4 =>
 if decide (x3 < (y4.size : Int)) then
(at? l_ x1).bind fun y5 =>
(sAt? y5 x3).bind fun y6 =>
 if decide (y6 = 10) then
(changeforgeref1_At 5 x1).bind fun y7 =>
 some (Step.done (Sum.inl y7))
 else
(ckK .i64 (x3 + 1)).bind fun z2 =>
 some (Step.next z2)
 else
 some (Step.done (Sum.inr ()))

noncomputable def changeforgeref1_LinesFault.l1 (l_ : (List ByteArray)) (x1 : Int) : Option (Step Int (Fault ⊕ Unit)) :=
 if decide (x1 < (l_.length : Int)) then
(at? l_ x1).bind fun y2 =>
 if decide ((y2.size : Int) > 80) then
(changeforgeref1_At 2 x1).bind fun y3 =>
 some (Step.done (Sum.inl y3))
 else
(iter (fun s => changeforgeref1_LinesFault.l2 l_ x1 s) 0).bind fun r2 =>
(match r2 with
| .inl p => some (Step.done (Sum.inl p))
| .inr _ => changeforgeref1_LinesFault.j3 x1)
 else
 some (Step.done (Sum.inr ()))

noncomputable def changeforgeref1_LinesFault (l_ : (List ByteArray)) : Option Fault :=
 if decide ((l_.length : Int) > 120) then
(changeforgeref1_At 2 (-1)).bind fun y1 =>
 some y1
 else
(iter (fun s => changeforgeref1_LinesFault.l1 l_ s) 0).bind fun r1 =>
(match r1 with
| .inl p => some p
| .inr _ => changeforgeref1_LinesFault.j1)

noncomputable def changeforgeref1_LinesCode (l_ : (List ByteArray)) : Option Int :=
(changeforgeref1_LinesFault l_).bind fun y1 =>
 some y1.Code

noncomputable def changeforgeref1_suffixes.j1 (x1 : List (List Int)) : Option (List (List Int)) :=
 some x1

noncomputable def changeforgeref1_suffixes.j2 (x2 : Int) (x5 : List (List Int)) : Option (Step (Int × (List (List Int))) (List (List Int))) :=
(ckK .i64 (x2 - 1)).bind fun z2 =>
 some (Step.next (z2, x5))

noncomputable def changeforgeref1_suffixes.j3 (x2 : Int) (x6 : List (List Int)) : Option (Step (Int × (List (List Int))) (List (List Int))) :=
 changeforgeref1_suffixes.j2 x2 x6

noncomputable def changeforgeref1_suffixes.j5 (x2 : Int) (x7 : Int) (x12 : Int) (x13 : List (List Int)) : Option (Step (Int × (List (List Int))) (List (List Int))) :=
(at? x13 x2).bind fun y8 =>
(at? y8 x7).bind fun y9 =>
(some (y8.set x7.toNat x12)).bind fun y10 =>
(ckK .i64 (x7 - 1)).bind fun z6 =>
(some (x13.set x2.toNat y10)).bind fun y11 =>
 some (Step.next (z6, y11))

noncomputable def changeforgeref1_suffixes.j4 (a_ : (List ByteArray)) (b_ : (List ByteArray)) (x2 : Int) (x7 : Int) (x10 : Int) (x11 : List (List Int)) : Option (Step (Int × (List (List Int))) (List (List Int))) :=
(at? a_ x7).bind fun y12 =>
(at? b_ x2).bind fun y13 =>
(if decide (y12 = y13) then (ckK .i64 (x2 + 1)).bind fun z7 =>
(at? x11 z7).bind fun y14 =>
(ckK .i64 (x7 + 1)).bind fun z8 =>
(at? y14 z8).bind fun y15 =>
(ckK .i64 (y15 + 1)).bind fun z9 =>
 some (decide (z9 > x10)) else some false).bind fun x14 =>
 if x14 then
(ckK .i64 (x2 + 1)).bind fun z10 =>
(at? x11 z10).bind fun y16 =>
(ckK .i64 (x7 + 1)).bind fun z11 =>
(at? y16 z11).bind fun y17 =>
(ckK .i64 (y17 + 1)).bind fun z12 =>
 changeforgeref1_suffixes.j5 x2 x7 z12 x11
 else
 changeforgeref1_suffixes.j5 x2 x7 x10 x11

noncomputable def changeforgeref1_suffixes.l2 (a_ : (List ByteArray)) (b_ : (List ByteArray)) (x2 : Int) (x7 : Int) (x8 : List (List Int)) : Option (Step (Int × (List (List Int))) (List (List Int))) :=
 if decide (x7 ≥ 0) then
(ckK .i64 (x2 + 1)).bind fun z5 =>
(at? x8 z5).bind fun y6 =>
(at? y6 x7).bind fun y7 =>
(at? x8 x2).bind fun y18 =>
(ckK .i64 (x7 + 1)).bind fun z13 =>
(at? y18 z13).bind fun y19 =>
 if decide (y19 > y7) then
(ckK .i64 (x7 + 1)).bind fun z14 =>
(at? y18 z14).bind fun y20 =>
 changeforgeref1_suffixes.j4 a_ b_ x2 x7 y20 x8
 else
 changeforgeref1_suffixes.j4 a_ b_ x2 x7 y7 x8
 else
 some (Step.done x8)

noncomputable def changeforgeref1_suffixes.l1 (a_ : (List ByteArray)) (b_ : (List ByteArray)) (x2 : Int) (x3 : List (List Int)) : Option (Step (Int × (List (List Int))) (List (List Int))) :=
 if decide (x2 ≥ 0) then
(ckK .i64 ((a_.length : Int) + 1)).bind fun z3 =>
(mk? 8 z3 (0 : Int)).bind fun y2 =>
(at? x3 x2).bind fun y3 =>
 if decide (x2 = (b_.length : Int)) then
(some (x3.set x2.toNat y2)).bind fun y4 =>
 changeforgeref1_suffixes.j2 x2 y4
 else
(ckK .i64 ((a_.length : Int) - 1)).bind fun z4 =>
(some (x3.set x2.toNat y2)).bind fun y5 =>
(iter (fun s => changeforgeref1_suffixes.l2 a_ b_ x2 s.1 s.2) (z4, y5)).bind fun r2 =>
 changeforgeref1_suffixes.j3 x2 r2
 else
 some (Step.done x3)

noncomputable def changeforgeref1_suffixes (a_ : (List ByteArray)) (b_ : (List ByteArray)) : Option (List (List Int)) :=
(ckK .i64 ((b_.length : Int) + 1)).bind fun z1 =>
(mk? 24 z1 ([] : List Int)).bind fun y1 =>
(iter (fun s => changeforgeref1_suffixes.l1 a_ b_ s.1 s.2) ((b_.length : Int), y1)).bind fun r1 =>
 changeforgeref1_suffixes.j1 r1

noncomputable def changeforgeref1_Align.j1 (x1 : List Step_changeforgeref1) : Option (List Step_changeforgeref1) :=
 some x1

noncomputable def changeforgeref1_Align.l1 (a_ : (List ByteArray)) (b_ : (List ByteArray)) (y1 : (List (List Int))) (x2 : Int) (x3 : Int) (x4 : List Step_changeforgeref1) : Option (Step (Int × Int × (List Step_changeforgeref1)) (List Step_changeforgeref1)) :=
(if decide (x3 < (a_.length : Int)) then some true else some (decide (x2 < (b_.length : Int)))).bind fun x6 =>
 if x6 then
(if decide (x3 < (a_.length : Int)) then some (decide (x2 < (b_.length : Int))) else some false).bind fun x7 =>
(if x7 then (at? a_ x3).bind fun y2 =>
(at? b_ x2).bind fun y3 =>
 some (decide (y2 = y3)) else some false).bind fun x8 =>
 if x8 then
(at? a_ x3).bind fun y4 =>
(app? 24 x4 ([({ Kind := 0, Text := y4 } : Step_changeforgeref1)] : List Step_changeforgeref1)).bind fun y5 =>
(ckK .i64 (x3 + 1)).bind fun z1 =>
(ckK .i64 (x2 + 1)).bind fun z2 =>
 some (Step.next (z2, z1, y5))
 else
(if decide (x2 = (b_.length : Int)) then some true else (if decide (x3 < (a_.length : Int)) then (at? y1 x2).bind fun y6 =>
(ckK .i64 (x3 + 1)).bind fun z3 =>
(at? y6 z3).bind fun y7 =>
(ckK .i64 (x2 + 1)).bind fun z4 =>
(at? y1 z4).bind fun y8 =>
(at? y8 x3).bind fun y9 =>
 some (decide (y7 ≥ y9)) else some false).bind fun x10 =>
 some x10).bind fun x9 =>
 if x9 then
(at? a_ x3).bind fun y10 =>
(app? 24 x4 ([({ Kind := 1, Text := y10 } : Step_changeforgeref1)] : List Step_changeforgeref1)).bind fun y11 =>
(ckK .i64 (x3 + 1)).bind fun z5 =>
 some (Step.next (x2, z5, y11))
 else
(at? b_ x2).bind fun y12 =>
(app? 24 x4 ([({ Kind := 2, Text := y12 } : Step_changeforgeref1)] : List Step_changeforgeref1)).bind fun y13 =>
(ckK .i64 (x2 + 1)).bind fun z6 =>
 some (Step.next (z6, x3, y13))
 else
 some (Step.done x4)

noncomputable def changeforgeref1_Align (a_ : (List ByteArray)) (b_ : (List ByteArray)) : Option (List Step_changeforgeref1) :=
(changeforgeref1_suffixes a_ b_).bind fun y1 =>
(iter (fun s => changeforgeref1_Align.l1 a_ b_ y1 s.1 s.2.1 s.2.2) (0, 0, [])).bind fun r1 =>
 changeforgeref1_Align.j1 r1

noncomputable def changeforgeref2_Annotated.j1 (x1 : List Int) : Option (List Int) :=
 some x1

noncomputable def changeforgeref2_Annotated.j2 (x2 : Int) (x6 : List ByteArray) (x7 : List Int) : Option (Step (Int × (List ByteArray) × (List Int)) (List Int)) :=
(ckK .i64 (x2 + 1)).bind fun z1 =>
 some (Step.next (z1, x6, x7))

noncomputable def changeforgeref2_Annotated.j3 (versions : (List (List ByteArray))) (x2 : Int) (x8 : List Int) : Option (Step (Int × (List ByteArray) × (List Int)) (List Int)) :=
(at? versions x2).bind fun y3 =>
 changeforgeref2_Annotated.j2 x2 y3 x8

noncomputable def changeforgeref2_Annotated.j4 (x9 : Int) (x13 : List Int) (x14 : Int) : Option (Step (Int × Int × (List Int)) (List Int)) :=
(ckK .i64 (x9 + 1)).bind fun z2 =>
 some (Step.next (z2, x14, x13))

noncomputable def changeforgeref2_Annotated.j5 (x2 : Int) (y2 : (List Step_changeforgeref1)) (x9 : Int) (x10 : Int) (x15 : List Int) : Option (Step (Int × Int × (List Int)) (List Int)) :=
(at? y2 x9).bind fun y4 =>
 if decide (y4.Kind = 2) then
(app? 8 x15 ([x2] : List Int)).bind fun y5 =>
 changeforgeref2_Annotated.j4 x9 y5 x10
 else
(ckK .i64 (x10 + 1)).bind fun z3 =>
 changeforgeref2_Annotated.j4 x9 x15 z3

noncomputable def changeforgeref2_Annotated.l2 (x2 : Int) (x4 : List Int) (y2 : (List Step_changeforgeref1)) (x9 : Int) (x10 : Int) (x11 : List Int) : Option (Step (Int × Int × (List Int)) (List Int)) :=
 if decide (x9 < (y2.length : Int)) then
(at? y2 x9).bind fun y6 =>
 if decide (y6.Kind = 0) then
(at? x4 x10).bind fun y7 =>
(app? 8 x11 ([y7] : List Int)).bind fun y8 =>
 changeforgeref2_Annotated.j5 x2 y2 x9 x10 y8
 else
 changeforgeref2_Annotated.j5 x2 y2 x9 x10 x11
 else
 some (Step.done x11)

noncomputable def changeforgeref2_Annotated.l1 (versions : (List (List ByteArray))) (x2 : Int) (x3 : List ByteArray) (x4 : List Int) : Option (Step (Int × (List ByteArray) × (List Int)) (List Int)) :=
 if decide (x2 < (versions.length : Int)) then
(at? versions x2).bind fun y1 =>
(changeforgeref1_Align x3 y1).bind fun y2 =>
(iter (fun s => changeforgeref2_Annotated.l2 x2 x4 y2 s.1 s.2.1 s.2.2) (0, 0, [])).bind fun r2 =>
 changeforgeref2_Annotated.j3 versions x2 r2
 else
 some (Step.done x4)

noncomputable def changeforgeref2_Annotated (versions : (List (List ByteArray))) : Option (List Int) :=
(iter (fun s => changeforgeref2_Annotated.l1 versions s.1 s.2.1 s.2.2) (0, [], [])).bind fun r1 =>
 changeforgeref2_Annotated.j1 r1

noncomputable def changeforgelaw2_BlameMatchesSpec.j1 (versions : (List (List ByteArray))) (y1 : (List Int) × Fault) : Option Bool :=
(if decide (y1.2.Code = 0) then (changeforgeref2_Annotated versions).bind fun y4 =>
(changeforgeequal_Ints y1.1 y4).bind fun y5 =>
 some y5 else some false).bind fun x3 =>
(if x3 then (changeforgelaw2_added).bind fun y6 =>
 some y6 else some false).bind fun x4 =>
 some x4

noncomputable def changeforgelaw2_BlameMatchesSpec.l1 (versions : (List (List ByteArray))) (y1 : (List Int) × Fault) (x5 : Int) : Option (Step Int (Bool ⊕ Unit)) :=
 if decide (x5 < (versions.length : Int)) then
(at? versions x5).bind fun y7 =>
(changeforgeref1_LinesCode y7).bind fun y8 =>
 if !decide (y8 = 0) then
(changeforgeref1_At y8 x5).bind fun y9 =>
(if decide (y1.2.Code = y9.Code) && decide (y1.2.Index = y9.Index) then some (decide ((y1.1.length : Int) = 0)) else some false).bind fun x7 =>
(if x7 then (changeforgelaw2_added).bind fun y10 =>
 some y10 else some false).bind fun x8 =>
 some (Step.done (Sum.inl x8))
 else
(ckK .i64 (x5 + 1)).bind fun z1 =>
 some (Step.next z1)
 else
 some (Step.done (Sum.inr ()))

noncomputable def changeforgelaw2_BlameMatchesSpec (versions : (List (List ByteArray))) : Option Bool :=
(blame_Annotate versions).bind fun y1 =>
 if decide ((versions.length : Int) > 16) then
(changeforgeref1_At 2 (-1)).bind fun y2 =>
(if decide (y1.2.Code = y2.Code) && decide (y1.2.Index = y2.Index) then some (decide ((y1.1.length : Int) = 0)) else some false).bind fun x1 =>
(if x1 then (changeforgelaw2_added).bind fun y3 =>
 some y3 else some false).bind fun x2 =>
 some x2
 else
(iter (fun s => changeforgelaw2_BlameMatchesSpec.l1 versions y1 s) 0).bind fun r1 =>
(match r1 with
| .inl p => some p
| .inr _ => changeforgelaw2_BlameMatchesSpec.j1 versions y1)

noncomputable def changeforgelaw2_follows.j1 (l_ : (List ByteArray)) (x1 : Int) : Option Bool :=
 some (decide (x1 = (l_.length : Int)))

noncomputable def changeforgelaw2_follows.j2 (x2 : Int) (x6 : Int) : Option (Step (Int × Int) Int) :=
(ckK .i64 (x2 + 1)).bind fun z1 =>
 some (Step.next (z1, x6))

noncomputable def changeforgelaw2_follows.l1 (l_ : (List ByteArray)) (m_ : (List ByteArray)) (x2 : Int) (x3 : Int) : Option (Step (Int × Int) Int) :=
(if decide (x2 < (m_.length : Int)) then some (decide (x3 < (l_.length : Int))) else some false).bind fun x5 =>
 if x5 then
(at? m_ x2).bind fun y1 =>
(at? l_ x3).bind fun y2 =>
 if decide (y1 = y2) then
(ckK .i64 (x3 + 1)).bind fun z2 =>
 changeforgelaw2_follows.j2 x2 z2
 else
 changeforgelaw2_follows.j2 x2 x3
 else
 some (Step.done x3)

noncomputable def changeforgelaw2_follows (l_ : (List ByteArray)) (m_ : (List ByteArray)) : Option Bool :=
(iter (fun s => changeforgelaw2_follows.l1 l_ m_ s.1 s.2) (0, 0)).bind fun r1 =>
 changeforgelaw2_follows.j1 l_ r1

noncomputable def changeforgelaw2_BlameOrigins.j1 : Option Bool :=
(changeforgelaw2_added).bind fun y4 =>
 some y4

noncomputable def changeforgelaw2_BlameOrigins.j2 (x2 : Int) : Option (Step Int (Bool ⊕ Unit)) :=
(ckK .i64 (x2 + 1)).bind fun z2 =>
 some (Step.next z2)

noncomputable def changeforgelaw2_BlameOrigins.j3 (x2 : Int) : Option (Step Int (Bool ⊕ Unit)) :=
 changeforgelaw2_BlameOrigins.j2 x2

noncomputable def changeforgelaw2_BlameOrigins.l2 (versions : (List (List ByteArray))) (y3 : (List ByteArray)) (x2 : Int) (x5 : Int) : Option (Step Int (Bool ⊕ Unit)) :=
 if decide (x5 < (versions.length : Int)) then
(ckK .i64 (x2 + 1)).bind fun z3 =>
(cut? y3 x2 z3).bind fun y8 =>
(at? versions x5).bind fun y9 =>
(changeforgelaw2_follows y8 y9).bind fun y10 =>
 if !y10 then
 some (Step.done (Sum.inl false))
 else
(ckK .i64 (x5 + 1)).bind fun z4 =>
 some (Step.next z4)
 else
 some (Step.done (Sum.inr ()))

noncomputable def changeforgelaw2_BlameOrigins.l1 (versions : (List (List ByteArray))) (y1 : (List Int) × Fault) (y3 : (List ByteArray)) (x2 : Int) : Option (Step Int (Bool ⊕ Unit)) :=
 if decide (x2 < (y1.1.length : Int)) then
(at? y1.1 x2).bind fun y5 =>
(if decide (y5 < 0) then some true else (at? y1.1 x2).bind fun y6 =>
 some (decide (y6 ≥ (versions.length : Int)))).bind fun x4 =>
 if x4 then
 some (Step.done (Sum.inl false))
 else
(at? y1.1 x2).bind fun y7 =>
(iter (fun s => changeforgelaw2_BlameOrigins.l2 versions y3 x2 s) y7).bind fun r2 =>
(match r2 with
| .inl p => some (Step.done (Sum.inl p))
| .inr _ => changeforgelaw2_BlameOrigins.j3 x2)
 else
 some (Step.done (Sum.inr ()))

noncomputable def changeforgelaw2_BlameOrigins (versions : (List (List ByteArray))) : Option Bool :=
(blame_Annotate versions).bind fun y1 =>
(if !decide (y1.2.Code = 0) then some true else some (decide ((versions.length : Int) = 0))).bind fun x1 =>
 if x1 then
(changeforgelaw2_added).bind fun y2 =>
 some y2
 else
(ckK .i64 ((versions.length : Int) - 1)).bind fun z1 =>
(at? versions z1).bind fun y3 =>
 if !decide ((y1.1.length : Int) = (y3.length : Int)) then
 some false
 else
(iter (fun s => changeforgelaw2_BlameOrigins.l1 versions y1 y3 s) 0).bind fun r1 =>
(match r1 with
| .inl p => some p
| .inr _ => changeforgelaw2_BlameOrigins.j1)

noncomputable def changeforgelaw2_BlameUnchanged (versions : (List (List ByteArray))) : Option Bool :=
(blame_Annotate versions).bind fun y1 =>
(if !decide (y1.2.Code = 0) then some true else some (decide ((versions.length : Int) = 0))).bind fun x1 =>
(if x1 then some true else some (decide ((versions.length : Int) ≥ 16))).bind fun x2 =>
 if x2 then
(changeforgelaw2_added).bind fun y2 =>
 some y2
 else
(app? 24 ([] : List (List ByteArray)) versions).bind fun y3 =>
(ckK .i64 ((versions.length : Int) - 1)).bind fun z1 =>
(at? versions z1).bind fun y4 =>
(app? 24 y3 ([y4] : List (List ByteArray))).bind fun y5 =>
(blame_Annotate y5).bind fun y6 =>
(if decide (y6.2.Code = 0) then (changeforgeequal_Ints y1.1 y6.1).bind fun y7 =>
 some y7 else some false).bind fun x3 =>
(if x3 then (changeforgelaw2_added).bind fun y8 =>
 some y8 else some false).bind fun x4 =>
 some x4

noncomputable def lines_Both (a_ : (List ByteArray)) (b_ : (List ByteArray)) : Option Fault :=
(lines_Validate a_).bind fun y1 =>
 if !(decide (y1.Code = 0) && decide (y1.Index = 0)) then
 some y1
 else
(lines_Second b_ (-2)).bind fun y2 =>
 some y2

noncomputable def diff_Distance.j1 (x1 : Int) : Option (Int × Fault) :=
 some (x1, ({ Code := 0, Index := 0 } : Fault))

noncomputable def diff_Distance.j2 (x2 : Int) (x5 : Int) : Option (Step (Int × Int) Int) :=
(ckK .i64 (x2 + 1)).bind fun z1 =>
 some (Step.next (z1, x5))

noncomputable def diff_Distance.l1 (y2 : (List Int)) (x2 : Int) (x3 : Int) : Option (Step (Int × Int) Int) :=
 if decide (x2 < (y2.length : Int)) then
(at? y2 x2).bind fun y3 =>
 if !decide (y3 = 0) then
(ckK .i64 (x3 + 1)).bind fun z2 =>
 diff_Distance.j2 x2 z2
 else
 diff_Distance.j2 x2 x3
 else
 some (Step.done x3)

noncomputable def diff_Distance (a_ : (List ByteArray)) (b_ : (List ByteArray)) : Option (Int × Fault) :=
(lines_Both a_ b_).bind fun y1 =>
 if !(decide (y1.Code = 0) && decide (y1.Index = 0)) then
 some (0, y1)
 else
(diff_Align a_ b_).bind fun y2 =>
(iter (fun s => diff_Distance.l1 y2 s.1 s.2) (0, 0)).bind fun r1 =>
 diff_Distance.j1 r1

noncomputable def rename_Similarity (a_ : (List ByteArray)) (b_ : (List ByteArray)) : Option (Int × Fault) :=
(diff_Distance a_ b_).bind fun y1 =>
 if !(decide (y1.2.Code = 0) && decide (y1.2.Index = 0)) then
 some (0, y1.2)
 else
(ckK .i64 ((a_.length : Int) + (b_.length : Int))).bind fun z1 =>
 if decide (z1 = 0) then
 some (100, ({ Code := 0, Index := 0 } : Fault))
 else
(ckK .i64 (z1 - y1.1)).bind fun z2 =>
(ckK .i64 (100 * z2)).bind fun z3 =>
(quo? .i64 z3 z1).bind fun z4 =>
 some (z4, ({ Code := 0, Index := 0 } : Fault))

noncomputable def changeforgelaw2_half : Option Bool :=
(rename_Similarity ([(⟨#[120]⟩ : ByteArray), (⟨#[121]⟩ : ByteArray)] : List ByteArray) ([(⟨#[121]⟩ : ByteArray), (⟨#[122]⟩ : ByteArray)] : List ByteArray)).bind fun y1 =>
(if decide (y1.2.Code = 0) then some (decide (y1.1 = 50)) else some false).bind fun x1 =>
 some x1

noncomputable def changeforgeequal_Strings.j1 : Option Bool :=
 some true

noncomputable def changeforgeequal_Strings.l1 (a_ : (List ByteArray)) (b_ : (List ByteArray)) (x1 : Int) : Option (Step Int (Bool ⊕ Unit)) :=
 if decide (x1 < (a_.length : Int)) then
(at? a_ x1).bind fun y1 =>
(at? b_ x1).bind fun y2 =>
 if !decide (y1 = y2) then
 some (Step.done (Sum.inl false))
 else
(ckK .i64 (x1 + 1)).bind fun z1 =>
 some (Step.next z1)
 else
 some (Step.done (Sum.inr ()))

noncomputable def changeforgeequal_Strings (a_ : (List ByteArray)) (b_ : (List ByteArray)) : Option Bool :=
 if !decide ((a_.length : Int) = (b_.length : Int)) then
 some false
 else
(iter (fun s => changeforgeequal_Strings.l1 a_ b_ s) 0).bind fun r1 =>
(match r1 with
| .inl p => some p
| .inr _ => changeforgeequal_Strings.j1)

noncomputable def changeforgelaw2_RenameSimilarityBounds (a_ : (List ByteArray)) (b_ : (List ByteArray)) : Option Bool :=
(rename_Similarity a_ b_).bind fun y1 =>
(rename_Similarity b_ a_).bind fun y2 =>
(if !decide (y1.2.Code = 0) then some true else some (!decide (y2.2.Code = 0))).bind fun x1 =>
 if x1 then
(changeforgelaw2_half).bind fun y3 =>
 some y3
 else
(if decide (y1.1 = y2.1) then some (decide (y1.1 ≥ 0)) else some false).bind fun x2 =>
(if x2 then some (decide (y1.1 ≤ 100)) else some false).bind fun x3 =>
(if x3 then (changeforgeequal_Strings a_ b_).bind fun y4 =>
 some (decide (decide (y1.1 = 100) = y4)) else some false).bind fun x4 =>
(if x4 then (changeforgelaw2_half).bind fun y5 =>
 some y5 else some false).bind fun x5 =>
 some x5

noncomputable def diff_Script.j1 (x1 : List Hunk) (x2 : Int) (x3 : Bool) : Option (Patch × Fault) :=
 some (({ Hunks := x1 } : Patch), ({ Code := 0, Index := 0 } : Fault))

noncomputable def diff_Script.j2 (x4 : Int) (x11 : Int) (x12 : Int) (x13 : List Hunk) (x14 : Int) (x15 : Bool) : Option (Step (Int × Int × Int × (List Hunk) × Int × Bool) ((List Hunk) × Int × Bool)) :=
(ckK .i64 (x4 + 1)).bind fun z1 =>
 some (Step.next (z1, x11, x12, x13, x14, x15))

noncomputable def diff_Script.j3 (x4 : Int) (x5 : Int) (x6 : Int) (x7 : List Hunk) (x16 : Int) (x17 : Bool) : Option (Step (Int × Int × Int × (List Hunk) × Int × Bool) ((List Hunk) × Int × Bool)) :=
(ckK .i64 (x6 + 1)).bind fun z3 =>
(ckK .i64 (x5 + 1)).bind fun z4 =>
 diff_Script.j2 x4 z4 z3 x7 x16 x17

noncomputable def diff_Script.j4 (x4 : Int) (x5 : Int) (x6 : Int) (x8 : Int) (y4 : ByteArray) (x18 : List Hunk) (x19 : Bool) : Option (Step (Int × Int × Int × (List Hunk) × Int × Bool) ((List Hunk) × Int × Bool)) :=
(ckK .i64 ((x18.length : Int) - 1)).bind fun z5 =>
(at? x18 z5).bind fun y5 =>
(app? 16 y5.Old ([y4] : List ByteArray)).bind fun y6 =>
(ckK .i64 (x8 + 1)).bind fun z6 =>
(some (x18.set z5.toNat ({ At := y5.At, Old := y6, New := y5.New } : Hunk))).bind fun y7 =>
(ckK .i64 (x6 + 1)).bind fun z7 =>
 diff_Script.j2 x4 x5 z7 y7 z6 x19

noncomputable def diff_Script.j5 (x4 : Int) (x5 : Int) (x6 : Int) (x8 : Int) (y9 : ByteArray) (x20 : List Hunk) (x21 : Bool) : Option (Step (Int × Int × Int × (List Hunk) × Int × Bool) ((List Hunk) × Int × Bool)) :=
(ckK .i64 ((x20.length : Int) - 1)).bind fun z8 =>
(at? x20 z8).bind fun y10 =>
(app? 16 y10.New ([y9] : List ByteArray)).bind fun y11 =>
(some (x20.set z8.toNat ({ At := y10.At, Old := y10.Old, New := y11 } : Hunk))).bind fun y12 =>
(ckK .i64 (x5 + 1)).bind fun z9 =>
 diff_Script.j2 x4 z9 x6 y12 x8 x21

noncomputable def diff_Script.l1 (a_ : (List ByteArray)) (b_ : (List ByteArray)) (y2 : (List Int)) (x4 : Int) (x5 : Int) (x6 : Int) (x7 : List Hunk) (x8 : Int) (x9 : Bool) : Option (Step (Int × Int × Int × (List Hunk) × Int × Bool) ((List Hunk) × Int × Bool)) :=
 if decide (x4 < (y2.length : Int)) then
(at? y2 x4).bind fun y3 =>
 if decide (y3 = 0) then
 if decide (1 > 0) then
(ckK .i64 (x8 + 1)).bind fun z2 =>
 diff_Script.j3 x4 x5 x6 x7 z2 false
 else
 diff_Script.j3 x4 x5 x6 x7 x8 x9
 else
 if decide (y3 = 1) then
(at? a_ x6).bind fun y4 =>
 if !x9 then
(app? 56 x7 ([({ At := x8, Old := [], New := [] } : Hunk)] : List Hunk)).bind fun y8 =>
 diff_Script.j4 x4 x5 x6 x8 y4 y8 true
 else
 diff_Script.j4 x4 x5 x6 x8 y4 x7 x9
 else
(at? b_ x5).bind fun y9 =>
 if !x9 then
(app? 56 x7 ([({ At := x8, Old := [], New := [] } : Hunk)] : List Hunk)).bind fun y13 =>
 diff_Script.j5 x4 x5 x6 x8 y9 y13 true
 else
 diff_Script.j5 x4 x5 x6 x8 y9 x7 x9
 else
 some (Step.done (x7, x8, x9))

noncomputable def diff_Script (a_ : (List ByteArray)) (b_ : (List ByteArray)) : Option (Patch × Fault) :=
(lines_Both a_ b_).bind fun y1 =>
 if !(decide (y1.Code = 0) && decide (y1.Index = 0)) then
 some (({ Hunks := [] } : Patch), y1)
 else
(diff_Align a_ b_).bind fun y2 =>
(iter (fun s => diff_Script.l1 a_ b_ y2 s.1 s.2.1 s.2.2.1 s.2.2.2.1 s.2.2.2.2.1 s.2.2.2.2.2) (0, 0, 0, [], 0, false)).bind fun r1 =>
 diff_Script.j1 r1.1 r1.2.1 r1.2.2

noncomputable def changeforgelaw2_BlameNewest.j2 (y5 : Patch × Fault) (x3 : Int) : Option Bool :=
(if decide (y5.2.Code = 0) then some (decide (x3 = 0)) else some false).bind fun x4 =>
(if x4 then (changeforgelaw2_added).bind fun y6 =>
 some y6 else some false).bind fun x5 =>
 some x5

noncomputable def changeforgelaw2_BlameNewest.j3 (x6 : Int) (x9 : Int) : Option (Step (Int × Int) Int) :=
(ckK .i64 (x6 + 1)).bind fun z3 =>
 some (Step.next (z3, x9))

noncomputable def changeforgelaw2_BlameNewest.l1 (versions : (List (List ByteArray))) (y1 : (List Int) × Fault) (x6 : Int) (x7 : Int) : Option (Step (Int × Int) Int) :=
 if decide (x6 < (y1.1.length : Int)) then
(at? y1.1 x6).bind fun y7 =>
(ckK .i64 ((versions.length : Int) - 1)).bind fun z4 =>
 if decide (y7 = z4) then
(ckK .i64 (x7 - 1)).bind fun z5 =>
 changeforgelaw2_BlameNewest.j3 x6 z5
 else
 changeforgelaw2_BlameNewest.j3 x6 x7
 else
 some (Step.done x7)

noncomputable def changeforgelaw2_BlameNewest.j1 (versions : (List (List ByteArray))) (y1 : (List Int) × Fault) (y5 : Patch × Fault) (x2 : Int) : Option Bool :=
(iter (fun s => changeforgelaw2_BlameNewest.l1 versions y1 s.1 s.2) (0, x2)).bind fun r1 =>
 changeforgelaw2_BlameNewest.j2 y5 r1

noncomputable def changeforgelaw2_BlameNewest.l2 (y5 : Patch × Fault) (x10 : Int) (x11 : Int) : Option (Step (Int × Int) Int) :=
 if decide (x10 < (y5.1.Hunks.length : Int)) then
(at? y5.1.Hunks x10).bind fun y8 =>
(ckK .i64 (x11 + (y8.New.length : Int))).bind fun z6 =>
(ckK .i64 (x10 + 1)).bind fun z7 =>
 some (Step.next (z7, z6))
 else
 some (Step.done x11)

noncomputable def changeforgelaw2_BlameNewest (versions : (List (List ByteArray))) : Option Bool :=
(blame_Annotate versions).bind fun y1 =>
(if !decide (y1.2.Code = 0) then some true else some (decide ((versions.length : Int) < 2))).bind fun x1 =>
 if x1 then
(changeforgelaw2_added).bind fun y2 =>
 some y2
 else
(ckK .i64 ((versions.length : Int) - 2)).bind fun z1 =>
(at? versions z1).bind fun y3 =>
(ckK .i64 ((versions.length : Int) - 1)).bind fun z2 =>
(at? versions z2).bind fun y4 =>
(diff_Script y3 y4).bind fun y5 =>
(iter (fun s => changeforgelaw2_BlameNewest.l2 y5 s.1 s.2) (0, 0)).bind fun r2 =>
 changeforgelaw2_BlameNewest.j1 versions y1 y5 r2

noncomputable def digest_mul.j1 (x1 : Int) : Option Int :=
 some x1

noncomputable def digest_mul.j2 (x3 : Int) (x4 : Int) (x6 : Int) : Option (Step (Int × Int × Int) Int) :=
(ckK .i64 (2 * x3)).bind fun z1 =>
(rem? z1 2305843009213693951).bind fun z2 =>
(shr? .i64 x4 1).bind fun z3 =>
 some (Step.next (x6, z2, z3))

noncomputable def digest_mul.l1 (x2 : Int) (x3 : Int) (x4 : Int) : Option (Step (Int × Int × Int) Int) :=
 if decide (x4 > 0) then
 if decide (andI .i64 x4 1 = 1) then
(ckK .i64 (x2 + x3)).bind fun z4 =>
(rem? z4 2305843009213693951).bind fun z5 =>
 digest_mul.j2 x3 x4 z5
 else
 digest_mul.j2 x3 x4 x2
 else
 some (Step.done x2)

noncomputable def digest_mul (a_ : Int) (b_ : Int) : Option Int :=
(iter (fun s => digest_mul.l1 s.1 s.2.1 s.2.2) (0, a_, b_)).bind fun r1 =>
 digest_mul.j1 r1

noncomputable def digest_next (s_ : Step_digest) (factor : Int) : Option Int :=
(digest_mul s_.e0 factor).bind fun y1 =>
(ckK .i64 (y1 + s_.e1)).bind fun z1 =>
(rem? z1 2305843009213693951).bind fun z2 =>
 some z2

noncomputable def digest_Of.j1 (x1 : Int) : Option (Int × Fault) :=
 some (x1, ({ Code := 0, Index := 0 } : Fault))

noncomputable def digest_Of.l1 (data : (List UInt8)) (x2 : Int) (x3 : Int) : Option (Step (Int × Int) Int) :=
 if decide (x2 < (data.length : Int)) then
(at? data x2).bind fun y1 =>
(ckK .i64 (y1.toNat : Int)).bind fun z1 =>
(ckK .i64 (z1 + 1)).bind fun z2 =>
(digest_next ({ e0 := x3, e1 := z2 } : Step_digest) 257).bind fun y2 =>
(ckK .i64 (x2 + 1)).bind fun z3 =>
 some (Step.next (z3, y2))
 else
 some (Step.done x3)

noncomputable def digest_Of (data : (List UInt8)) : Option (Int × Fault) :=
 if decide ((data.length : Int) > 4096) then
 some (0, ({ Code := 2, Index := 0 } : Fault))
 else
(iter (fun s => digest_Of.l1 data s.1 s.2) (0, 1)).bind fun r1 =>
 digest_Of.j1 r1

noncomputable def digest_is (a_ : Int) : Option Bool :=
(if decide (a_ ≥ 0) then some (decide (a_ < 2305843009213693951)) else some false).bind fun x1 =>
 some x1

noncomputable def digest_pair (a_ : Int) (b_ : Int) : Option Int :=
(digest_next ({ e0 := b_, e1 := 7 } : Step_digest) 31).bind fun y1 =>
(digest_next ({ e0 := a_, e1 := y1 } : Step_digest) 1000003).bind fun y2 =>
 some y2

noncomputable def digest_Pair.j1 (a_ : Int) (b_ : Int) : Option (Int × Fault) :=
(digest_pair a_ b_).bind fun y1 =>
 some (y1, ({ Code := 0, Index := 0 } : Fault))

noncomputable def digest_Pair.l1 (a_ : Int) (b_ : Int) (x1 : Int) : Option (Step Int ((Int × Fault) ⊕ Unit)) :=
 if decide (x1 < 2) then
(at? ([a_, b_] : List Int) x1).bind fun y2 =>
(digest_is y2).bind fun y3 =>
 if !y3 then
 some (Step.done (Sum.inl (0, ({ Code := 3, Index := x1 } : Fault))))
 else
(ckK .i64 (x1 + 1)).bind fun z1 =>
 some (Step.next z1)
 else
 some (Step.done (Sum.inr ()))

noncomputable def digest_Pair (a_ : Int) (b_ : Int) : Option (Int × Fault) :=
(iter (fun s => digest_Pair.l1 a_ b_ s) 0).bind fun r1 =>
(match r1 with
| .inl p => some p
| .inr _ => digest_Pair.j1 a_ b_)

noncomputable def rename_Sketch.j1 (x1 : List Int) : Option ((List Int) × Fault) :=
(arrl? 8 x1).bind fun y2 =>
 some (y2, ({ Code := 0, Index := 0 } : Fault))

noncomputable def rename_Sketch.j2 (x2 : Int) (x5 : List Int) : Option (Step (Int × (List Int)) (List Int)) :=
(ckK .i64 (x2 + 1)).bind fun z1 =>
 some (Step.next (z1, x5))

noncomputable def rename_Sketch.j3 (x2 : Int) (x6 : List Int) : Option (Step (Int × (List Int)) (List Int)) :=
 rename_Sketch.j2 x2 x6

noncomputable def rename_Sketch.j4 (x7 : Int) (x10 : List Int) : Option (Step (Int × (List Int)) (List Int)) :=
(ckK .i64 (x7 + 1)).bind fun z2 =>
 some (Step.next (z2, x10))

noncomputable def rename_Sketch.l2 (x2 : Int) (y4 : Int × Fault) (x7 : Int) (x8 : List Int) : Option (Step (Int × (List Int)) (List Int)) :=
 if decide (x7 < 8) then
(ckK .i64 (x7 + 1)).bind fun z3 =>
(digest_Pair z3 y4.1).bind fun y5 =>
(if decide (x2 = 0) then some true else (arr? 8 x8 x7).bind fun y6 =>
 some (decide (y5.1 < y6))).bind fun x11 =>
 if x11 then
(arr? 8 x8 x7).bind fun y7 =>
(some (x8.set x7.toNat y5.1)).bind fun y8 =>
 rename_Sketch.j4 x7 y8
 else
 rename_Sketch.j4 x7 x8
 else
 some (Step.done x8)

noncomputable def rename_Sketch.l1 (text : (List ByteArray)) (x2 : Int) (x3 : List Int) : Option (Step (Int × (List Int)) (List Int)) :=
 if decide (x2 < (text.length : Int)) then
(at? text x2).bind fun y3 =>
(digest_Of y3.data.toList).bind fun y4 =>
(iter (fun s => rename_Sketch.l2 x2 y4 s.1 s.2) (0, x3)).bind fun r2 =>
 rename_Sketch.j3 x2 r2
 else
 some (Step.done x3)

noncomputable def rename_Sketch (text : (List ByteArray)) : Option ((List Int) × Fault) :=
(lines_Validate text).bind fun y1 =>
 if !(decide (y1.Code = 0) && decide (y1.Index = 0)) then
 some ([], y1)
 else
 if decide ((text.length : Int) = 0) then
 some ([], ({ Code := 0, Index := 0 } : Fault))
 else
(iter (fun s => rename_Sketch.l1 text s.1 s.2) (0, ([0, 0, 0, 0, 0, 0, 0, 0] : List Int))).bind fun r1 =>
 rename_Sketch.j1 r1

noncomputable def changeforgelaw2_RenameSketchUnion.j1 : Option Bool :=
(changeforgelaw2_half).bind fun y7 =>
 some y7

noncomputable def changeforgelaw2_RenameSketchUnion.l1 (y1 : (List Int) × Fault) (y2 : (List Int) × Fault) (y5 : (List Int) × Fault) (x7 : Int) : Option (Step Int (Bool ⊕ Unit)) :=
 if decide (x7 < 8) then
(at? y5.1 x7).bind fun y8 =>
(at? y1.1 x7).bind fun y9 =>
(if decide (y8 > y9) then some true else (at? y5.1 x7).bind fun y10 =>
(at? y2.1 x7).bind fun y11 =>
 some (decide (y10 > y11))).bind fun x9 =>
(if x9 then some true else (at? y5.1 x7).bind fun y12 =>
(at? y1.1 x7).bind fun y13 =>
(if !decide (y12 = y13) then (at? y5.1 x7).bind fun y14 =>
(at? y2.1 x7).bind fun y15 =>
 some (!decide (y14 = y15)) else some false).bind fun x11 =>
 some x11).bind fun x10 =>
 if x10 then
 some (Step.done (Sum.inl false))
 else
(ckK .i64 (x7 + 1)).bind fun z1 =>
 some (Step.next z1)
 else
 some (Step.done (Sum.inr ()))

noncomputable def changeforgelaw2_RenameSketchUnion (a_ : (List ByteArray)) (b_ : (List ByteArray)) : Option Bool :=
(rename_Sketch a_).bind fun y1 =>
(rename_Sketch b_).bind fun y2 =>
(app? 16 ([] : List ByteArray) a_).bind fun y3 =>
(app? 16 y3 b_).bind fun y4 =>
(rename_Sketch y4).bind fun y5 =>
(if !decide (y1.2.Code = 0) then some true else some (!decide (y2.2.Code = 0))).bind fun x1 =>
(if x1 then some true else some (!decide (y5.2.Code = 0))).bind fun x2 =>
(if x2 then some true else some (decide ((y1.1.length : Int) = 0))).bind fun x3 =>
(if x3 then some true else some (decide ((y2.1.length : Int) = 0))).bind fun x4 =>
 if x4 then
(changeforgelaw2_half).bind fun y6 =>
 some y6
 else
(if !decide ((y1.1.length : Int) = 8) then some true else some (!decide ((y2.1.length : Int) = 8))).bind fun x5 =>
(if x5 then some true else some (!decide ((y5.1.length : Int) = 8))).bind fun x6 =>
 if x6 then
 some false
 else
(iter (fun s => changeforgelaw2_RenameSketchUnion.l1 y1 y2 y5 s) 0).bind fun r1 =>
(match r1 with
| .inl p => some p
| .inr _ => changeforgelaw2_RenameSketchUnion.j1)

noncomputable def textpatch_End (h_ : Hunk) : Option Int :=
(ckK .i64 (h_.At + (h_.Old.length : Int))).bind fun z1 =>
 some z1

noncomputable def textpatch_hunk.j1 (h_ : Hunk) (end_ : Int) : Option Int :=
(ckK .i64 ((h_.Old.length : Int) + (h_.New.length : Int))).bind fun z1 =>
(if decide (z1 = 0) then some true else some (decide (h_.At ≤ end_))).bind fun x2 =>
 if x2 then
 some 5
 else
(textpatch_End h_).bind fun y1 =>
 if decide (y1 > 120) then
 some 3
 else
 some 0

noncomputable def textpatch_hunk.l1 (h_ : Hunk) (x3 : Int) : Option (Step Int (Int ⊕ Unit)) :=
 if decide (x3 < 2) then
(at? ([h_.Old, h_.New] : List (List ByteArray)) x3).bind fun y2 =>
(lines_Validate y2).bind fun y3 =>
 if !(decide (y3.Code = 0) && decide (y3.Index = 0)) then
 some (Step.done (Sum.inl y3.Code))
 else
(ckK .i64 (x3 + 1)).bind fun z2 =>
 some (Step.next z2)
 else
 some (Step.done (Sum.inr ()))

noncomputable def textpatch_hunk (h_ : Hunk) (end_ : Int) : Option Int :=
(if decide (h_.At < 0) then some true else some (decide (h_.At > 120))).bind fun x1 =>
 if x1 then
 some 3
 else
(iter (fun s => textpatch_hunk.l1 h_ s) 0).bind fun r1 =>
(match r1 with
| .inl p => some p
| .inr _ => textpatch_hunk.j1 h_ end_)

noncomputable def textpatch_Validate.j1 : Option Fault :=
 some ({ Code := 0, Index := 0 } : Fault)

noncomputable def textpatch_Validate.l1 (p_ : Patch) (x1 : Int) (x2 : Int) : Option (Step (Int × Int) (Fault ⊕ Unit)) :=
 if decide (x1 < (p_.Hunks.length : Int)) then
(at? p_.Hunks x1).bind fun y1 =>
(textpatch_hunk y1 x2).bind fun y2 =>
 if !decide (y2 = 0) then
 some (Step.done (Sum.inl ({ Code := y2, Index := x1 } : Fault)))
 else
(textpatch_End y1).bind fun y3 =>
(ckK .i64 (x1 + 1)).bind fun z1 =>
 some (Step.next (z1, y3))
 else
 some (Step.done (Sum.inr ()))

noncomputable def textpatch_Validate (p_ : Patch) : Option Fault :=
 if decide ((p_.Hunks.length : Int) > 130) then
 some ({ Code := 2, Index := (-1) } : Fault)
 else
(iter (fun s => textpatch_Validate.l1 p_ s.1 s.2) (0, (-1))).bind fun r1 =>
(match r1 with
| .inl p => some p
| .inr _ => textpatch_Validate.j1)

noncomputable def slices_Equal.j1 : Option Bool :=
 some true

noncomputable def slices_Equal.l1 (s1_ : (List ByteArray)) (s2_ : (List ByteArray)) (x1 : Int) : Option (Step Int (Bool ⊕ Unit)) :=
 if decide (x1 < (s1_.length : Int)) then
(at? s1_ x1).bind fun y1 =>
(at? s2_ x1).bind fun y2 =>
 if !decide (y1 = y2) then
 some (Step.done (Sum.inl false))
 else
(ckK .i64 (x1 + 1)).bind fun z1 =>
 some (Step.next z1)
 else
 some (Step.done (Sum.inr ()))

noncomputable def slices_Equal (s1_ : (List ByteArray)) (s2_ : (List ByteArray)) : Option Bool :=
 if !decide ((s1_.length : Int) = (s2_.length : Int)) then
 some false
 else
(iter (fun s => slices_Equal.l1 s1_ s2_ s) 0).bind fun r1 =>
(match r1 with
| .inl p => some p
| .inr _ => slices_Equal.j1)

noncomputable def lines_Occurs (text : (List ByteArray)) (part : (List ByteArray)) (at_ : Int) : Option Bool :=
(if decide (at_ ≥ 0) then some (decide (at_ ≤ (text.length : Int))) else some false).bind fun x1 =>
(if x1 then (ckK .i64 ((text.length : Int) - at_)).bind fun z1 =>
 some (decide ((part.length : Int) ≤ z1)) else some false).bind fun x2 =>
(if x2 then (ckK .i64 (at_ + (part.length : Int))).bind fun z2 =>
(cut? text at_ z2).bind fun y1 =>
(slices_Equal y1 part).bind fun y2 =>
 some y2 else some false).bind fun x3 =>
 some x3

noncomputable def textpatch_Raw.j1 (text : (List ByteArray)) (high : Int) (x1 : List ByteArray) (x2 : Int) : Option (List ByteArray) :=
(cut? text x2 high).bind fun y1 =>
(app? 16 x1 y1).bind fun y2 =>
 some y2

noncomputable def textpatch_Raw.l1 (hunks : (List Hunk)) (text : (List ByteArray)) (x3 : Int) (x4 : List ByteArray) (x5 : Int) : Option (Step (Int × (List ByteArray) × Int) ((List ByteArray) × Int)) :=
 if decide (x3 < (hunks.length : Int)) then
(at? hunks x3).bind fun y3 =>
(cut? text x5 y3.At).bind fun y4 =>
(app? 16 x4 y4).bind fun y5 =>
(app? 16 y5 y3.New).bind fun y6 =>
(textpatch_End y3).bind fun y7 =>
(ckK .i64 (x3 + 1)).bind fun z1 =>
 some (Step.next (z1, y6, y7))
 else
 some (Step.done (x4, x5))

noncomputable def textpatch_Raw (hunks : (List Hunk)) (text : (List ByteArray)) (low : Int) (high : Int) : Option (List ByteArray) :=
(iter (fun s => textpatch_Raw.l1 hunks text s.1 s.2.1 s.2.2) (0, [], low)).bind fun r1 =>
 textpatch_Raw.j1 text high r1.1 r1.2

noncomputable def textpatch_Apply.j1 (p_ : Patch) (text : (List ByteArray)) : Option ((List ByteArray) × Fault) :=
(textpatch_Raw p_.Hunks text 0 (text.length : Int)).bind fun y3 =>
 if decide ((y3.length : Int) > 120) then
 some ([], ({ Code := 10, Index := (-1) } : Fault))
 else
 some (y3, ({ Code := 0, Index := 0 } : Fault))

noncomputable def textpatch_Apply.l1 (p_ : Patch) (text : (List ByteArray)) (x1 : Int) : Option (Step Int (((List ByteArray) × Fault) ⊕ Unit)) :=
 if decide (x1 < (p_.Hunks.length : Int)) then
(at? p_.Hunks x1).bind fun y4 =>
(lines_Occurs text y4.Old y4.At).bind fun y5 =>
 if !y5 then
 some (Step.done (Sum.inl ([], ({ Code := 19, Index := x1 } : Fault))))
 else
(ckK .i64 (x1 + 1)).bind fun z1 =>
 some (Step.next z1)
 else
 some (Step.done (Sum.inr ()))

noncomputable def textpatch_Apply (p_ : Patch) (text : (List ByteArray)) : Option ((List ByteArray) × Fault) :=
(textpatch_Validate p_).bind fun y1 =>
 if !(decide (y1.Code = 0) && decide (y1.Index = 0)) then
 some ([], y1)
 else
(lines_Second text (-2)).bind fun y2 =>
 if !(decide (y2.Code = 0) && decide (y2.Index = 0)) then
 some ([], y2)
 else
(iter (fun s => textpatch_Apply.l1 p_ text s) 0).bind fun r1 =>
(match r1 with
| .inl p => some p
| .inr _ => textpatch_Apply.j1 p_ text)

noncomputable def changeforgelaw2_BlameEdited.j2 : Option Bool :=
(changeforgelaw2_added).bind fun y4 =>
 some y4

noncomputable def changeforgelaw2_BlameEdited.l1 (base : (List ByteArray)) (y1 : (List ByteArray) × Fault) (y3 : (List Int) × Fault) (x2 : Int) : Option (Step Int (Bool ⊕ Unit)) :=
 if decide (x2 < (y3.1.length : Int)) then
(at? y3.1 x2).bind fun y5 =>
(ckK .i64 (x2 + 1)).bind fun z1 =>
(cut? y1.1 x2 z1).bind fun y6 =>
(changeforgelaw2_follows y6 base).bind fun y7 =>
 if !decide (decide (y5 = 0) = y7) then
 some (Step.done (Sum.inl false))
 else
(ckK .i64 (x2 + 1)).bind fun z2 =>
 some (Step.next z2)
 else
 some (Step.done (Sum.inr ()))

noncomputable def changeforgelaw2_BlameEdited.j1 (base : (List ByteArray)) (y1 : (List ByteArray) × Fault) : Option Bool :=
(blame_Annotate ([base, y1.1] : List (List ByteArray))).bind fun y3 =>
(if !decide (y3.2.Code = 0) then some true else some (!decide ((y3.1.length : Int) = (y1.1.length : Int)))).bind fun x1 =>
 if x1 then
 some false
 else
(iter (fun s => changeforgelaw2_BlameEdited.l1 base y1 y3 s) 0).bind fun r1 =>
(match r1 with
| .inl p => some p
| .inr _ => changeforgelaw2_BlameEdited.j2)

noncomputable def changeforgelaw2_BlameEdited.j3 (x4 : Int) : Option (Step Int (Bool ⊕ Unit)) :=
(ckK .i64 (x4 + 1)).bind fun z3 =>
 some (Step.next z3)

noncomputable def changeforgelaw2_BlameEdited.j4 (x4 : Int) : Option (Step Int (Bool ⊕ Unit)) :=
 changeforgelaw2_BlameEdited.j3 x4

noncomputable def changeforgelaw2_BlameEdited.l3 (base : (List ByteArray)) (p_ : Patch) (x4 : Int) (x6 : Int) : Option (Step Int (Bool ⊕ Unit)) :=
 if decide (x6 < (p_.Hunks.length : Int)) then
(ckK .i64 (x4 + 1)).bind fun z4 =>
(cut? base x4 z4).bind fun y8 =>
(at? p_.Hunks x6).bind fun y9 =>
(changeforgelaw2_follows y8 y9.New).bind fun y10 =>
(if y10 then some true else (if decide (x4 > 0) then (ckK .i64 (x4 + 1)).bind fun z5 =>
(cut? base x4 z5).bind fun y11 =>
(cut? base 0 x4).bind fun y12 =>
(changeforgelaw2_follows y11 y12).bind fun y13 =>
 some y13 else some false).bind fun x9 =>
 some x9).bind fun x8 =>
 if x8 then
(changeforgelaw2_added).bind fun y14 =>
 some (Step.done (Sum.inl y14))
 else
(ckK .i64 (x6 + 1)).bind fun z6 =>
 some (Step.next z6)
 else
 some (Step.done (Sum.inr ()))

noncomputable def changeforgelaw2_BlameEdited.l2 (base : (List ByteArray)) (p_ : Patch) (x4 : Int) : Option (Step Int (Bool ⊕ Unit)) :=
 if decide (x4 < (base.length : Int)) then
(iter (fun s => changeforgelaw2_BlameEdited.l3 base p_ x4 s) 0).bind fun r3 =>
(match r3 with
| .inl p => some (Step.done (Sum.inl p))
| .inr _ => changeforgelaw2_BlameEdited.j4 x4)
 else
 some (Step.done (Sum.inr ()))

noncomputable def changeforgelaw2_BlameEdited (base : (List ByteArray)) (p_ : Patch) : Option Bool :=
(textpatch_Apply p_ base).bind fun y1 =>
 if !decide (y1.2.Code = 0) then
(changeforgelaw2_added).bind fun y2 =>
 some y2
 else
(iter (fun s => changeforgelaw2_BlameEdited.l2 base p_ s) 0).bind fun r2 =>
(match r2 with
| .inl p => some p
| .inr _ => changeforgelaw2_BlameEdited.j1 base y1)
end Go.Dc
