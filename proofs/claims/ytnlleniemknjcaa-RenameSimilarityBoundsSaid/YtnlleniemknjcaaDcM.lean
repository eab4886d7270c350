/- The functions as pure models. -/
import Derived.Test.YtnlleniemknjcaaDcTy
namespace Go.Dc
open Go
noncomputable def stringslite_IndexByte (s_ : ByteArray) (c_ : Int) : Option Int :=
 some (idxB s_ c_)

noncomputable def strings_IndexByte (s_ : ByteArray) (c_ : Int) : Option Int :=
(stringslite_IndexByte s_ c_).bind fun y1 =>
 some y1

noncomputable def lines_Validate.j1 : Option Fault :=
 some ({ Code := 0, Index := 0 } : Fault)

noncomputable def lines_Validate.l1 (lines : (List ByteArray)) (x1 : Int) : Option (Step Int (Fault ⊕ Unit)) :=
 if decide (x1 < (lines.length : Int)) then
(at? lines x1).bind fun y1 =>
 if decide ((y1.size : Int) > 80) then
 some (Step.done (Sum.inl ({ Code := 2, Index := x1 } : Fault)))
 else
(strings_IndexByte y1 10).bind fun y2 =>
 if decide (y2 ≥ 0) then
 some (Step.done (Sum.inl ({ Code := 5, Index := x1 } : Fault)))
 else
(ckK .i64 (x1 + 1)).bind fun z1 =>
 some (Step.next z1)
 else
 some (Step.done (Sum.inr ()))

noncomputable def lines_Validate (lines : (List ByteArray)) : Option Fault :=
 if decide ((lines.length : Int) > 120) then
 some ({ Code := 2, Index := (-1) } : Fault)
 else
(iter (fun s => lines_Validate.l1 lines s) 0).bind fun r1 =>
(match r1 with
| .inl p => some p
| .inr _ => lines_Validate.j1)

noncomputable def lines_Second (b_ : (List ByteArray)) (index : Int) : Option Fault :=
(lines_Validate b_).bind fun y1 =>
 if !(decide (y1.Code = 0) && decide (y1.Index = 0)) then
 some ({ Code := y1.Code, Index := index } : Fault)
 else
 some ({ Code := 0, Index := 0 } : Fault)

noncomputable def diff_Align_s1 (i_ : Int) (j : Int) (u2 : (List Int)) (u3 : Int) : Option Int :=
(ckK .i64 (i_ * u3)).bind fun z1 =>
(ckK .i64 (z1 + j)).bind fun z2 =>
(at? u2 z2).bind fun y1 =>
 some y1

noncomputable def diff_Align.j2 (x2 : List Int) : Option (List Int) :=
 some x2

noncomputable def diff_Align.l1 (a_ : (List ByteArray)) (b_ : (List ByteArray)) (z1 : Int) (x1 : List Int) (x3 : Int) (x4 : Int) (x5 : List Int) : Option (Step (Int × Int × (List Int)) (List Int)) :=
(if decide (x4 < (a_.length : Int)) then some true else some (decide (x3 < (b_.length : Int)))).bind fun x7 =>
 if x7 then
(if decide (x4 < (a_.length : Int)) then some (decide (x3 < (b_.length : Int))) else some false).bind fun x8 =>
(if x8 then (at? a_ x4).bind fun y2 =>
(at? b_ x3).bind fun y3 =>
 some (decide (y2 = y3)) else some false).bind fun x9 =>
 if x9 then
(app? 8 x5 ([0] : List Int)).bind fun y4 =>
(ckK .i64 (x4 + 1)).bind fun z4 =>
(ckK .i64 (x3 + 1)).bind fun z5 =>
 some (Step.next (z5, z4, y4))
 else
(if decide (x3 = (b_.length : Int)) then some true else (if decide (x4 < (a_.length : Int)) then (ckK .i64 (x4 + 1)).bind fun z6 =>
(diff_Align_s1 z6 x3 x1 z1).bind fun y5 =>
(ckK .i64 (x3 + 1)).bind fun z7 =>
(diff_Align_s1 x4 z7 x1 z1).bind fun y6 =>
 some (decide (y5 ≥ y6)) else some false).bind fun x11 =>
 some x11).bind fun x10 =>
 if x10 then
(app? 8 x5 ([1] : List Int)).bind fun y7 =>
(ckK .i64 (x4 + 1)).bind fun z8 =>
 some (Step.next (x3, z8, y7))
 else
(app? 8 x5 ([2] : List Int)).bind fun y8 =>
(ckK .i64 (x3 + 1)).bind fun z9 =>
 some (Step.next (z9, x4, y8))
 else
 some (Step.done x5)

noncomputable def diff_Align.j1 (a_ : (List ByteArray)) (b_ : (List ByteArray)) (z1 : Int) (x1 : List Int) : Option (List Int) :=
(iter (fun s => diff_Align.l1 a_ b_ z1 x1 s.1 s.2.1 s.2.2) (0, 0, [])).bind fun r1 =>
 diff_Align.j2 r1

noncomputable def diff_Align.j3 (x12 : Int) (x15 : List Int) : Option (Step (Int × (List Int)) (List Int)) :=
(ckK .i64 (x12 - 1)).bind fun z11 =>
 some (Step.next (z11, x15))

noncomputable def diff_Align.j4 (x12 : Int) (x16 : List Int) : Option (Step (Int × (List Int)) (List Int)) :=
 diff_Align.j3 x12 x16

noncomputable def diff_Align.j5 (z1 : Int) (x12 : Int) (x17 : Int) (x18 : List Int) (x20 : Int) : Option (Step (Int × (List Int)) (List Int)) :=
(ckK .i64 (x12 * z1)).bind fun z15 =>
(ckK .i64 (z15 + x17)).bind fun z16 =>
(at? x18 z16).bind fun y11 =>
(some (x18.set z16.toNat x20)).bind fun y12 =>
(ckK .i64 (x17 - 1)).bind fun z17 =>
 some (Step.next (z17, y12))

noncomputable def diff_Align.l3 (a_ : (List ByteArray)) (b_ : (List ByteArray)) (z1 : Int) (x12 : Int) (x17 : Int) (x18 : List Int) : Option (Step (Int × (List Int)) (List Int)) :=
 if decide (x17 ≥ 0) then
(ckK .i64 (x12 + 1)).bind fun z13 =>
(diff_Align_s1 z13 x17 x18 z1).bind fun y9 =>
(ckK .i64 (x17 + 1)).bind fun z14 =>
(diff_Align_s1 x12 z14 x18 z1).bind fun y10 =>
(at? a_ x12).bind fun y13 =>
(at? b_ x17).bind fun y14 =>
 if decide (y13 = y14) then
(ckK .i64 (x12 + 1)).bind fun z18 =>
(ckK .i64 (x17 + 1)).bind fun z19 =>
(diff_Align_s1 z18 z19 x18 z1).bind fun y15 =>
(ckK .i64 (y15 + 1)).bind fun z20 =>
 diff_Align.j5 z1 x12 x17 x18 z20
 else
 diff_Align.j5 z1 x12 x17 x18 (max y9 y10)
 else
 some (Step.done x18)

noncomputable def diff_Align.l2 (a_ : (List ByteArray)) (b_ : (List ByteArray)) (z1 : Int) (x12 : Int) (x13 : List Int) : Option (Step (Int × (List Int)) (List Int)) :=
 if decide (x12 ≥ 0) then
(ckK .i64 ((b_.length : Int) - 1)).bind fun z12 =>
(iter (fun s => diff_Align.l3 a_ b_ z1 x12 s.1 s.2) (z12, x13)).bind fun r3 =>
 diff_Align.j4 x12 r3
 else
 some (Step.done x13)

noncomputable def diff_Align (a_ : (List ByteArray)) (b_ : (List ByteArray)) : Option (List Int) :=
(ckK .i64 ((b_.length : Int) + 1)).bind fun z1 =>
(ckK .i64 ((a_.length : Int) + 1)).bind fun z2 =>
(ckK .i64 (z2 * z1)).bind fun z3 =>
(mk? 8 z3 (0 : Int)).bind fun y1 =>
(ckK .i64 ((a_.length : Int) - 1)).bind fun z10 =>
(iter (fun s => diff_Align.l2 a_ b_ z1 s.1 s.2) (z10, y1)).bind fun r2 =>
 diff_Align.j1 a_ b_ z1 r2

noncomputable def blame_Annotate.j2 (x1 : List Int) : Option ((List Int) × Fault) :=
 some (x1, ({ Code := 0, Index := 0 } : Fault))

noncomputable def blame_Annotate.j3 (x2 : Int) (x5 : List Int) : Option (Step (Int × (List Int)) (List Int)) :=
(ckK .i64 (x2 + 1)).bind fun z1 =>
 some (Step.next (z1, x5))

noncomputable def blame_Annotate.j4 (x2 : Int) (x6 : List Int) : Option (Step (Int × (List Int)) (List Int)) :=
 blame_Annotate.j3 x2 x6

noncomputable def blame_Annotate.j5 (x7 : Int) (x11 : List Int) (x12 : List Int) : Option (Step (Int × (List Int) × (List Int)) (List Int)) :=
(ckK .i64 (x7 + 1)).bind fun z3 =>
 some (Step.next (z3, x11, x12))

noncomputable def blame_Annotate.j6 (x7 : Int) (x9 : List Int) (x13 : List Int) : Option (Step (Int × (List Int) × (List Int)) (List Int)) :=
(cut? x9 1 (x9.length : Int)).bind fun y7 =>
 blame_Annotate.j5 x7 x13 y7

noncomputable def blame_Annotate.l2 (x2 : Int) (y4 : (List Int)) (x7 : Int) (x8 : List Int) (x9 : List Int) : Option (Step (Int × (List Int) × (List Int)) (List Int)) :=
 if decide (x7 < (y4.length : Int)) then
(at? y4 x7).bind fun y5 =>
 if decide (y5 = 2) then
(app? 8 x8 ([x2] : List Int)).bind fun y6 =>
 blame_Annotate.j5 x7 y6 x9
 else
 if decide (y5 = 0) then
(at? x9 0).bind fun y8 =>
(app? 8 x8 ([y8] : List Int)).bind fun y9 =>
 blame_Annotate.j6 x7 x9 y9
 else
 blame_Annotate.j6 x7 x9 x8
 else
 some (Step.done x8)

noncomputable def blame_Annotate.l1 (versions : (List (List ByteArray))) (x2 : Int) (x3 : List Int) : Option (Step (Int × (List Int)) (List Int)) :=
 if decide (x2 < (versions.length : Int)) then
(at? versions x2).bind fun y1 =>
 if decide (x2 = 0) then
(mk? 8 (y1.length : Int) (0 : Int)).bind fun y2 =>
 blame_Annotate.j3 x2 y2
 else
(ckK .i64 (x2 - 1)).bind fun z2 =>
(at? versions z2).bind fun y3 =>
(diff_Align y3 y1).bind fun y4 =>
(iter (fun s => blame_Annotate.l2 x2 y4 s.1 s.2.1 s.2.2) (0, [], x3)).bind fun r2 =>
 blame_Annotate.j4 x2 r2
 else
 some (Step.done x3)

noncomputable def blame_Annotate.j1 (versions : (List (List ByteArray))) : Option ((List Int) × Fault) :=
(iter (fun s => blame_Annotate.l1 versions s.1 s.2) (0, [])).bind fun r1 =>
 blame_Annotate.j2 r1

noncomputable def blame_Annotate.l3 (versions : (List (List ByteArray))) (x14 : Int) : Option (Step Int (((List Int) × Fault) ⊕ Unit)) :=
 if decide (x14 < (versions.length : Int)) then
(at? versions x14).bind fun y10 =>
(lines_Second y10 x14).bind fun y11 =>
 if !(decide (y11.Code = 0) && decide (y11.Index = 0)) then
 some (Step.done (Sum.inl ([], y11)))
 else
(ckK .i64 (x14 + 1)).bind fun z4 =>
 some (Step.next z4)
 else
 some (Step.done (Sum.inr ()))

noncomputable def blame_Annotate (versions : (List (List ByteArray))) : Option ((List Int) × Fault) :=
 if decide ((versions.length : Int) > 16) then
 some ([], ({ Code := 2, Index := (-1) } : Fault))
 else
(iter (fun s => blame_Annotate.l3 versions s) 0).bind fun r3 =>
(match r3 with
| .inl p => some p
| .inr _ => blame_Annotate.j1 versions)

noncomputable def changeforgeref1_At (code : Int) (index : Int) : Option Fault :=
 some ({ Code := code, Index := index } : Fault)

noncomputable def changeforgeequal_Ints.j1 : Option Bool :=
 some true

noncomputable def changeforgeequal_Ints.l1 (a_ : (List Int)) (b_ : (List Int)) (x1 : Int) : Option (Step Int (Bool ⊕ Unit)) :=
 if decide (x1 < (a_.length : Int)) then
(at? a_ x1).bind fun y1 =>
(at? b_ x1).bind fun y2 =>
 if !decide (y1 = y2) then
 some (Step.done (Sum.inl false))
 else
(ckK .i64 (x1 + 1)).bind fun z1 =>
 some (Step.next z1)
 else
 some (Step.done (Sum.inr ()))

noncomputable def changeforgeequal_Ints (a_ : (List Int)) (b_ : (List Int)) : Option Bool :=
 if !decide ((a_.length : Int) = (b_.length : Int)) then
 some false
 else
(iter (fun s => changeforgeequal_Ints.l1 a_ b_ s) 0).bind fun r1 =>
(match r1 with
| .inl p => some p
| .inr _ => changeforgeequal_Ints.j1)

noncomputable def changeforgelaw2_added : Option Bool :=
(blame_Annotate ([([(⟨#[97]⟩ : ByteArray)] : List ByteArray), ([(⟨#[98]⟩ : ByteArray), (⟨#[97]⟩ : ByteArray)] : List ByteArray)] : List (List ByteArray))).bind fun y1 =>
(if decide (y1.2.Code = 0) then (changeforgeequal_Ints y1.1 ([1, 0] : List Int)).bind fun y2 =>
 some y2 else some false).bind fun x1 =>
 some x1

noncomputable def changeforgeref1_LinesFault.j1 : Option Fault :=
 some ({ Code := 0, Index := 0 } : Fault)

noncomputable def changeforgeref1_LinesFault.j2 (x1 : Int) : Option (Step Int (Fault ⊕ Unit)) :=
(ckK .i64 (x1 + 1)).bind fun z1 =>
 some (Step.next z1)

noncomputable def changeforgeref1_LinesFault.j3 (x1 : Int) : Option (Step Int (Fault ⊕ Unit)) :=
 changeforgeref1_LinesFault.j2 x1

noncomputable def changeforgeref1_LinesFault.l2 (l_ : (List ByteArray)) (x1 : Int) (x3 : Int) : Option (Step Int (Fault ⊕ Unit)) :=
(at? l_ x1).bind fun y4 =>
 if decide (x3 < (y4.size : Int)) then
(at? l_ x1).bind fun y5 =>
(sAt? y5 x3).bind fun y6 =>
 if decide (y6 = 10) then
(changeforgeref1_At 5 x1).bind fun y7 =>
 some (Step.done (Sum.inl y7))
 else
(ckK .i64 (x3 + 1)).bind fun z2 =>
 some (Step.next z2)
 else
 some (Step.done (Sum.inr ()))

noncomputable def changeforgeref1_LinesFault.l1 (l_ : (List ByteArray)) (x1 : Int) : Option (Step Int (Fault ⊕ Unit)) :=
 if decide (x1 < (l_.length : Int)) then
(at? l_ x1).bind fun y2 =>
 if decide ((y2.size : Int) > 80) then
(changeforgeref1_At 2 x1).bind fun y3 =>
 some (Step.done (Sum.inl y3))
 else
(iter (fun s => changeforgeref1_LinesFault.l2 l_ x1 s) 0).bind fun r2 =>
(match r2 with
| .inl p => some (Step.done (Sum.inl p))
| .inr _ => changeforgeref1_LinesFault.j3 x1)
 else
 some (Step.done (Sum.inr ()))

noncomputable def changeforgeref1_LinesFault (l_ : (List ByteArray)) : Option Fault :=
 if decide ((l_.length : Int) > 120) then
(changeforgeref1_At 2 (-1)).bind fun y1 =>
 some y1
 else
(iter (fun s => changeforgeref1_LinesFault.l1 l_ s) 0).bind fun r1 =>
(match r1 with
| .inl p => some p
| .inr _ => changeforgeref1_LinesFault.j1)

noncomputable def changeforgeref1_LinesCode (l_ : (List ByteArray)) : Option Int :=
(changeforgeref1_LinesFault l_).bind fun y1 =>
 some y1.Code

noncomputable def changeforgelaw2_follows.j1 (l_ : (List ByteArray)) (x1 : Int) : Option Bool :=
 some (decide (x1 = (l_.length : Int)))

noncomputable def changeforgelaw2_follows.j2 (x2 : Int) (x6 : Int) : Option (Step (Int × Int) Int) :=
(ckK .i64 (x2 + 1)).bind fun z1 =>
 some (Step.next (z1, x6))

noncomputable def changeforgelaw2_follows.l1 (l_ : (List ByteArray)) (m_ : (List ByteArray)) (x2 : Int) (x3 : Int) : Option (Step (Int × Int) Int) :=
(if decide (x2 < (m_.length : Int)) then some (decide (x3 < (l_.length : Int))) else some false).bind fun x5 =>
 if x5 then
(at? m_ x2).bind fun y1 =>
(at? l_ x3).bind fun y2 =>
 if decide (y1 = y2) then
(ckK .i64 (x3 + 1)).bind fun z2 =>
 changeforgelaw2_follows.j2 x2 z2
 else
 changeforgelaw2_follows.j2 x2 x3
 else
 some (Step.done x3)

noncomputable def changeforgelaw2_follows (l_ : (List ByteArray)) (m_ : (List ByteArray)) : Option Bool :=
(iter (fun s => changeforgelaw2_follows.l1 l_ m_ s.1 s.2) (0, 0)).bind fun r1 =>
 changeforgelaw2_follows.j1 l_ r1

noncomputable def changeforgelaw2_BlameOrigins.j1 : Option Bool :=
(changeforgelaw2_added).bind fun y4 =>
 some y4

noncomputable def changeforgelaw2_BlameOrigins.j2 (x2 : Int) : Option (Step Int (Bool ⊕ Unit)) :=
(ckK .i64 (x2 + 1)).bind fun z2 =>
 some (Step.next z2)

noncomputable def changeforgelaw2_BlameOrigins.j3 (x2 : Int) : Option (Step Int (Bool ⊕ Unit)) :=
 changeforgelaw2_BlameOrigins.j2 x2

noncomputable def changeforgelaw2_BlameOrigins.l2 (versions : (List (List ByteArray))) (y3 : (List ByteArray)) (x2 : Int) (x5 : Int) : Option (Step Int (Bool ⊕ Unit)) :=
 if decide (x5 < (versions.length : Int)) then
(ckK .i64 (x2 + 1)).bind fun z3 =>
(cut? y3 x2 z3).bind fun y8 =>
(at? versions x5).bind fun y9 =>
(changeforgelaw2_follows y8 y9).bind fun y10 =>
 if !y10 then
 some (Step.done (Sum.inl false))
 else
(ckK .i64 (x5 + 1)).bind fun z4 =>
 some (Step.next z4)
 else
 some (Step.done (Sum.inr ()))

noncomputable def changeforgelaw2_BlameOrigins.l1 (versions : (List (List ByteArray))) (y1 : (List Int) × Fault) (y3 : (List ByteArray)) (x2 : Int) : Option (Step Int (Bool ⊕ Unit)) :=
 if decide (x2 < (y1.1.length : Int)) then
(at? y1.1 x2).bind fun y5 =>
(if decide (y5 < 0) then some true else (at? y1.1 x2).bind fun y6 =>
 some (decide (y6 ≥ (versions.length : Int)))).bind fun x4 =>
 if x4 then
 some (Step.done (Sum.inl false))
 else
(at? y1.1 x2).bind fun y7 =>
(iter (fun s => changeforgelaw2_BlameOrigins.l2 versions y3 x2 s) y7).bind fun r2 =>
(match r2 with
| .inl p => some (Step.done (Sum.inl p))
| .inr _ => changeforgelaw2_BlameOrigins.j3 x2)
 else
 some (Step.done (Sum.inr ()))

noncomputable def changeforgelaw2_BlameOrigins (versions : (List (List ByteArray))) : Option Bool :=
(blame_Annotate versions).bind fun y1 =>
(if !decide (y1.2.Code = 0) then some true else some (decide ((versions.length : Int) = 0))).bind fun x1 =>
 if x1 then
(changeforgelaw2_added).bind fun y2 =>
 some y2
 else
(ckK .i64 ((versions.length : Int) - 1)).bind fun z1 =>
(at? versions z1).bind fun y3 =>
 if !decide ((y1.1.length : Int) = (y3.length : Int)) then
 some false
 else
(iter (fun s => changeforgelaw2_BlameOrigins.l1 versions y1 y3 s) 0).bind fun r1 =>
(match r1 with
| .inl p => some p
| .inr _ => changeforgelaw2_BlameOrigins.j1)

noncomputable def changeforgelaw2_BlameUnchanged (versions : (List (List ByteArray))) : Option Bool :=
(blame_Annotate versions).bind fun y1 =>
(if !decide (y1.2.Code = 0) then some true else some (decide ((versions.length : Int) = 0))).bind fun x1 =>
(if x1 then some true else some (decide ((versions.length : Int) ≥ 16))).bind fun x2 =>
 if x2 then
(changeforgelaw2_added).bind fun y2 =>
 some y2
 else
(app? 24 ([] : List (List ByteArray)) versions).bind fun y3 =>
(ckK .i64 ((versions.length : Int) - 1)).bind fun z1 =>
(at? versions z1).bind fun y4 =>
(app? 24 y3 ([y4] : List (List ByteArray))).bind fun y5 =>
(blame_Annotate y5).bind fun y6 =>
(if decide (y6.2.Code = 0) then (changeforgeequal_Ints y1.1 y6.1).bind fun y7 =>
 some y7 else some false).bind fun x3 =>
(if x3 then (changeforgelaw2_added).bind fun y8 =>
 some y8 else some false).bind fun x4 =>
 some x4

noncomputable def lines_Both (a_ : (List ByteArray)) (b_ : (List ByteArray)) : Option Fault :=
(lines_Validate a_).bind fun y1 =>
 if !(decide (y1.Code = 0) && decide (y1.Index = 0)) then
 some y1
 else
(lines_Second b_ (-2)).bind fun y2 =>
 some y2

noncomputable def diff_Distance.j1 (x1 : Int) : Option (Int × Fault) :=
 some (x1, ({ Code := 0, Index := 0 } : Fault))

noncomputable def diff_Distance.j2 (x2 : Int) (x5 : Int) : Option (Step (Int × Int) Int) :=
(ckK .i64 (x2 + 1)).bind fun z1 =>
 some (Step.next (z1, x5))

noncomputable def diff_Distance.l1 (y2 : (List Int)) (x2 : Int) (x3 : Int) : Option (Step (Int × Int) Int) :=
 if decide (x2 < (y2.length : Int)) then
(at? y2 x2).bind fun y3 =>
 if !decide (y3 = 0) then
(ckK .i64 (x3 + 1)).bind fun z2 =>
 diff_Distance.j2 x2 z2
 else
 diff_Distance.j2 x2 x3
 else
 some (Step.done x3)

noncomputable def diff_Distance (a_ : (List ByteArray)) (b_ : (List ByteArray)) : Option (Int × Fault) :=
(lines_Both a_ b_).bind fun y1 =>
 if !(decide (y1.Code = 0) && decide (y1.Index = 0)) then
 some (0, y1)
 else
(diff_Align a_ b_).bind fun y2 =>
(iter (fun s => diff_Distance.l1 y2 s.1 s.2) (0, 0)).bind fun r1 =>
 diff_Distance.j1 r1

noncomputable def rename_Similarity (a_ : (List ByteArray)) (b_ : (List ByteArray)) : Option (Int × Fault) :=
(diff_Distance a_ b_).bind fun y1 =>
 if !(decide (y1.2.Code = 0) && decide (y1.2.Index = 0)) then
 some (0, y1.2)
 else
(ckK .i64 ((a_.length : Int) + (b_.length : Int))).bind fun z1 =>
 if decide (z1 = 0) then
 some (100, ({ Code := 0, Index := 0 } : Fault))
 else
(ckK .i64 (z1 - y1.1)).bind fun z2 =>
(ckK .i64 (100 * z2)).bind fun z3 =>
(quo? .i64 z3 z1).bind fun z4 =>
 some (z4, ({ Code := 0, Index := 0 } : Fault))

noncomputable def changeforgelaw2_half : Option Bool :=
(rename_Similarity ([(⟨#[120]⟩ : ByteArray), (⟨#[121]⟩ : ByteArray)] : List ByteArray) ([(⟨#[121]⟩ : ByteArray), (⟨#[122]⟩ : ByteArray)] : List ByteArray)).bind fun y1 =>
(if decide (y1.2.Code = 0) then some (decide (y1.1 = 50)) else some false).bind fun x1 =>
 some x1

noncomputable def changeforgeequal_Strings.j1 : Option Bool :=
 some true

noncomputable def changeforgeequal_Strings.l1 (a_ : (List ByteArray)) (b_ : (List ByteArray)) (x1 : Int) : Option (Step Int (Bool ⊕ Unit)) :=
 if decide (x1 < (a_.length : Int)) then
(at? a_ x1).bind fun y1 =>
(at? b_ x1).bind fun y2 =>
 if !decide (y1 = y2) then
 some (Step.done (Sum.inl false))
 else
(ckK .i64 (x1 + 1)).bind fun z1 =>
 some (Step.next z1)
 else
 some (Step.done (Sum.inr ()))

noncomputable def changeforgeequal_Strings (a_ : (List ByteArray)) (b_ : (List ByteArray)) : Option Bool :=
 if !decide ((a_.length : Int) = (b_.length : Int)) then
 some false
 else
(iter (fun s => changeforgeequal_Strings.l1 a_ b_ s) 0).bind fun r1 =>
(match r1 with
| .inl p => some p
| .inr _ => changeforgeequal_Strings.j1)

noncomputable def changeforgelaw2_RenameSimilarityBounds (a_ : (List ByteArray)) (b_ : (List ByteArray)) : Option Bool :=
(rename_Similarity a_ b_).bind fun y1 =>
(rename_Similarity b_ a_).bind fun y2 =>
(if !decide (y1.2.Code = 0) then some true else some (!decide (y2.2.Code = 0))).bind fun x1 =>
 if x1 then
(changeforgelaw2_half).bind fun y3 =>
 some y3
 else
(if decide (y1.1 = y2.1) then some (decide (y1.1 ≥ 0)) else some false).bind fun x2 =>
(if x2 then some (decide (y1.1 ≤ 100)) else some false).bind fun x3 =>
(if x3 then (changeforgeequal_Strings a_ b_).bind fun y4 =>
 some (decide (decide (y1.1 = 100) = y4)) else some false).bind fun x4 =>
(if x4 then (changeforgelaw2_half).bind fun y5 =>
 some y5 else some false).bind fun x5 =>
 some x5

noncomputable def digest_is (a_ : Int) : Option Bool :=
(if decide (a_ ≥ 0) then some (decide (a_ < 2305843009213693951)) else some false).bind fun x1 =>
 some x1

noncomputable def textpatch_End (h_ : Hunk) : Option Int :=
(ckK .i64 (h_.At + (h_.Old.length : Int))).bind fun z1 =>
 some z1

noncomputable def slices_Equal.j1 : Option Bool :=
 some true

noncomputable def slices_Equal.l1 (s1_ : (List ByteArray)) (s2_ : (List ByteArray)) (x1 : Int) : Option (Step Int (Bool ⊕ Unit)) :=
 if decide (x1 < (s1_.length : Int)) then
(at? s1_ x1).bind fun y1 =>
(at? s2_ x1).bind fun y2 =>
 if !decide (y1 = y2) then
 some (Step.done (Sum.inl false))
 else
(ckK .i64 (x1 + 1)).bind fun z1 =>
 some (Step.next z1)
 else
 some (Step.done (Sum.inr ()))

noncomputable def slices_Equal (s1_ : (List ByteArray)) (s2_ : (List ByteArray)) : Option Bool :=
 if !decide ((s1_.length : Int) = (s2_.length : Int)) then
 some false
 else
(iter (fun s => slices_Equal.l1 s1_ s2_ s) 0).bind fun r1 =>
(match r1 with
| .inl p => some p
| .inr _ => slices_Equal.j1)

noncomputable def lines_Occurs (text : (List ByteArray)) (part : (List ByteArray)) (at_ : Int) : Option Bool :=
(if decide (at_ ≥ 0) then some (decide (at_ ≤ (text.length : Int))) else some false).bind fun x1 =>
(if x1 then (ckK .i64 ((text.length : Int) - at_)).bind fun z1 =>
 some (decide ((part.length : Int) ≤ z1)) else some false).bind fun x2 =>
(if x2 then (ckK .i64 (at_ + (part.length : Int))).bind fun z2 =>
(cut? text at_ z2).bind fun y1 =>
(slices_Equal y1 part).bind fun y2 =>
 some y2 else some false).bind fun x3 =>
 some x3

noncomputable def textpatch_Raw.j1 (text : (List ByteArray)) (high : Int) (x1 : List ByteArray) (x2 : Int) : Option (List ByteArray) :=
(cut? text x2 high).bind fun y1 =>
(app? 16 x1 y1).bind fun y2 =>
 some y2

noncomputable def textpatch_Raw.l1 (hunks : (List Hunk)) (text : (List ByteArray)) (x3 : Int) (x4 : List ByteArray) (x5 : Int) : Option (Step (Int × (List ByteArray) × Int) ((List ByteArray) × Int)) :=
 if decide (x3 < (hunks.length : Int)) then
(at? hunks x3).bind fun y3 =>
(cut? text x5 y3.At).bind fun y4 =>
(app? 16 x4 y4).bind fun y5 =>
(app? 16 y5 y3.New).bind fun y6 =>
(textpatch_End y3).bind fun y7 =>
(ckK .i64 (x3 + 1)).bind fun z1 =>
 some (Step.next (z1, y6, y7))
 else
 some (Step.done (x4, x5))

noncomputable def textpatch_Raw (hunks : (List Hunk)) (text : (List ByteArray)) (low : Int) (high : Int) : Option (List ByteArray) :=
(iter (fun s => textpatch_Raw.l1 hunks text s.1 s.2.1 s.2.2) (0, [], low)).bind fun r1 =>
 textpatch_Raw.j1 text high r1.1 r1.2
end Go.Dc
