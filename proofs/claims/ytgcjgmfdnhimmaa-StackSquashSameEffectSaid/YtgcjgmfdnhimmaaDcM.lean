/- The functions as pure models. -/
import Derived.Test.YtgcjgmfdnhimmaaDcTy
namespace Go.Dc
open Go
set_option linter.unusedVariables false
noncomputable def textpatch_End (h_ : Hunk) : Option Int :=
(ckK .i64 (h_.At + (h_.Old.length : Int))).bind fun z1 =>
 some z1

noncomputable def stringslite_IndexByte (s_ : ByteArray) (c_ : Int) : Option Int :=
 some (idxB s_ c_)

noncomputable def strings_IndexByte (s_ : ByteArray) (c_ : Int) : Option Int :=
(stringslite_IndexByte s_ c_).bind fun y1 =>
 some y1

noncomputable def lines_Validate.j1 : Option Fault :=
 some ({ Code := 0, Index := 0 } : Fault)

noncomputable def lines_Validate.l1 (lines : (List ByteArray)) (x1 : Int) : Option (Step Int (Fault ⊕ Unit)) :=
 if decide (x1 < (lines.length : Int)) then
(at? lines x1).bind fun y1 =>
 if decide ((y1.size : Int) > 80) then
 some (Step.done (Sum.inl ({ Code := 2, Index := x1 } : Fault)))
 else
(strings_IndexByte y1 10).bind fun y2 =>
 if decide (y2 ≥ 0) then
 some (Step.done (Sum.inl ({ Code := 5, Index := x1 } : Fault)))
 else
(ckK .i64 (x1 + 1)).bind fun z1 =>
 some (Step.next z1)
 else
 some (Step.done (Sum.inr ()))

noncomputable def lines_Validate (lines : (List ByteArray)) : Option Fault :=
 if decide ((lines.length : Int) > 120) then
 some ({ Code := 2, Index := (-1) } : Fault)
 else
(iter (fun s => lines_Validate.l1 lines s) 0).bind fun r1 =>
(match r1 with
| .inl p => some p
| .inr _ => lines_Validate.j1)

noncomputable def textpatch_hunk.j1 (h_ : Hunk) (end_ : Int) : Option Int :=
(ckK .i64 ((h_.Old.length : Int) + (h_.New.length : Int))).bind fun z1 =>
(if decide (z1 = 0) then some true else some (decide (h_.At ≤ end_))).bind fun x2 =>
 if x2 then
 some 5
 else
(textpatch_End h_).bind fun y1 =>
 if decide (y1 > 120) then
 some 3
 else
 some 0

noncomputable def textpatch_hunk.l1 (h_ : Hunk) (x3 : Int) : Option (Step Int (Int ⊕ Unit)) :=
 if decide (x3 < 2) then
(at? ([h_.Old, h_.New] : List (List ByteArray)) x3).bind fun y2 =>
(lines_Validate y2).bind fun y3 =>
 if !(decide (y3.Code = 0) && decide (y3.Index = 0)) then
 some (Step.done (Sum.inl y3.Code))
 else
(ckK .i64 (x3 + 1)).bind fun z2 =>
 some (Step.next z2)
 else
 some (Step.done (Sum.inr ()))

noncomputable def textpatch_hunk (h_ : Hunk) (end_ : Int) : Option Int :=
(if decide (h_.At < 0) then some true else some (decide (h_.At > 120))).bind fun x1 =>
 if x1 then
 some 3
 else
(iter (fun s => textpatch_hunk.l1 h_ s) 0).bind fun r1 =>
(match r1 with
| .inl p => some p
| .inr _ => textpatch_hunk.j1 h_ end_)

noncomputable def textpatch_Validate.j1 : Option Fault :=
 some ({ Code := 0, Index := 0 } : Fault)

noncomputable def textpatch_Validate.l1 (p_ : Patch) (x1 : Int) (x2 : Int) : Option (Step (Int × Int) (Fault ⊕ Unit)) :=
 if decide (x1 < (p_.Hunks.length : Int)) then
(at? p_.Hunks x1).bind fun y1 =>
(textpatch_hunk y1 x2).bind fun y2 =>
 if !decide (y2 = 0) then
 some (Step.done (Sum.inl ({ Code := y2, Index := x1 } : Fault)))
 else
(textpatch_End y1).bind fun y3 =>
(ckK .i64 (x1 + 1)).bind fun z1 =>
 some (Step.next (z1, y3))
 else
 some (Step.done (Sum.inr ()))

noncomputable def textpatch_Validate (p_ : Patch) : Option Fault :=
 if decide ((p_.Hunks.length : Int) > 130) then
 some ({ Code := 2, Index := (-1) } : Fault)
 else
(iter (fun s => textpatch_Validate.l1 p_ s.1 s.2) (0, (-1))).bind fun r1 =>
(match r1 with
| .inl p => some p
| .inr _ => textpatch_Validate.j1)

noncomputable def textpatch_Second (p_ : Patch) (index : Int) : Option Fault :=
(textpatch_Validate p_).bind fun y1 =>
 if !(decide (y1.Code = 0) && decide (y1.Index = 0)) then
 some ({ Code := y1.Code, Index := index } : Fault)
 else
 some ({ Code := 0, Index := 0 } : Fault)

noncomputable def stack_check.j1 : Option Fault :=
 some ({ Code := 0, Index := 0 } : Fault)

noncomputable def stack_check.l1 (patches : (List Patch)) (x1 : Int) : Option (Step Int (Fault ⊕ Unit)) :=
 if decide (x1 < (patches.length : Int)) then
(at? patches x1).bind fun y1 =>
(textpatch_Second y1 x1).bind fun y2 =>
 if !(decide (y2.Code = 0) && decide (y2.Index = 0)) then
 some (Step.done (Sum.inl y2))
 else
(ckK .i64 (x1 + 1)).bind fun z1 =>
 some (Step.next z1)
 else
 some (Step.done (Sum.inr ()))

noncomputable def stack_check (patches : (List Patch)) : Option Fault :=
 if decide ((patches.length : Int) > 12) then
 some ({ Code := 2, Index := (-1) } : Fault)
 else
(iter (fun s => stack_check.l1 patches s) 0).bind fun r1 =>
(match r1 with
| .inl p => some p
| .inr _ => stack_check.j1)

noncomputable def commute_both (p_ : Patch) (q_ : Patch) : Option Fault :=
(textpatch_Validate p_).bind fun y1 =>
 if !(decide (y1.Code = 0) && decide (y1.Index = 0)) then
 some y1
 else
(textpatch_Second q_ (-2)).bind fun y2 =>
 some y2

noncomputable def textpatch_Growth (h_ : Hunk) : Option Int :=
(ckK .i64 ((h_.New.length : Int) - (h_.Old.length : Int))).bind fun z1 =>
 some z1

noncomputable def commute_newRanges.j1 (x1 : List Range_commute) : Option (List Range_commute) :=
 some x1

noncomputable def commute_newRanges.l1 (p_ : Patch) (x2 : Int) (x3 : Int) (x4 : List Range_commute) : Option (Step (Int × Int × (List Range_commute)) (List Range_commute)) :=
 if decide (x2 < (p_.Hunks.length : Int)) then
(at? p_.Hunks x2).bind fun y1 =>
(ckK .i64 (y1.At + x3)).bind fun z1 =>
(ckK .i64 (z1 + (y1.New.length : Int))).bind fun z2 =>
(textpatch_Growth y1).bind fun y2 =>
(app? 24 x4 ([({ Low := z1, High := z2, Growth := y2 } : Range_commute)] : List Range_commute)).bind fun y3 =>
(textpatch_Growth y1).bind fun y4 =>
(ckK .i64 (x3 + y4)).bind fun z3 =>
(ckK .i64 (x2 + 1)).bind fun z4 =>
 some (Step.next (z4, z3, y3))
 else
 some (Step.done x4)

noncomputable def commute_newRanges (p_ : Patch) : Option (List Range_commute) :=
(iter (fun s => commute_newRanges.l1 p_ s.1 s.2.1 s.2.2) (0, 0, [])).bind fun r1 =>
 commute_newRanges.j1 r1

noncomputable def commute_Touch (a_ : Range_commute) (b_ : Range_commute) : Option Bool :=
(if decide (a_.High ≥ b_.Low) then some (decide (b_.High ≥ a_.Low)) else some false).bind fun x1 =>
 some x1

noncomputable def commute_meet.j1 : Option Bool :=
 some false

noncomputable def commute_meet.j2 (x1 : Int) : Option (Step Int (Bool ⊕ Unit)) :=
(ckK .i64 (x1 + 1)).bind fun z1 =>
 some (Step.next z1)

noncomputable def commute_meet.j3 (x1 : Int) : Option (Step Int (Bool ⊕ Unit)) :=
 commute_meet.j2 x1

noncomputable def commute_meet.l2 (b_ : (List Range_commute)) (y1 : Range_commute) (x3 : Int) : Option (Step Int (Bool ⊕ Unit)) :=
 if decide (x3 < (b_.length : Int)) then
(at? b_ x3).bind fun y2 =>
(commute_Touch y1 y2).bind fun y3 =>
 if y3 then
 some (Step.done (Sum.inl true))
 else
(ckK .i64 (x3 + 1)).bind fun z2 =>
 some (Step.next z2)
 else
 some (Step.done (Sum.inr ()))

noncomputable def commute_meet.l1 (a_ : (List Range_commute)) (b_ : (List Range_commute)) (x1 : Int) : Option (Step Int (Bool ⊕ Unit)) :=
 if decide (x1 < (a_.length : Int)) then
(at? a_ x1).bind fun y1 =>
(iter (fun s => commute_meet.l2 b_ y1 s) 0).bind fun r2 =>
(match r2 with
| .inl p => some (Step.done (Sum.inl p))
| .inr _ => commute_meet.j3 x1)
 else
 some (Step.done (Sum.inr ()))

noncomputable def commute_meet (a_ : (List Range_commute)) (b_ : (List Range_commute)) : Option Bool :=
(iter (fun s => commute_meet.l1 a_ b_ s) 0).bind fun r1 =>
(match r1 with
| .inl p => some p
| .inr _ => commute_meet.j1)

noncomputable def commute_OldRanges.j1 (x1 : List Range_commute) : Option (List Range_commute) :=
 some x1

noncomputable def commute_OldRanges.l1 (p_ : Patch) (x2 : Int) (x3 : List Range_commute) : Option (Step (Int × (List Range_commute)) (List Range_commute)) :=
 if decide (x2 < (p_.Hunks.length : Int)) then
(at? p_.Hunks x2).bind fun y1 =>
(textpatch_End y1).bind fun y2 =>
(textpatch_Growth y1).bind fun y3 =>
(app? 24 x3 ([({ Low := y1.At, High := y2, Growth := y3 } : Range_commute)] : List Range_commute)).bind fun y4 =>
(ckK .i64 (x2 + 1)).bind fun z1 =>
 some (Step.next (z1, y4))
 else
 some (Step.done x3)

noncomputable def commute_OldRanges (p_ : Patch) : Option (List Range_commute) :=
(iter (fun s => commute_OldRanges.l1 p_ s.1 s.2) (0, [])).bind fun r1 =>
 commute_OldRanges.j1 r1

noncomputable def textpatch_Made (p_ : Patch) : Option (Patch × Fault) :=
(textpatch_Validate p_).bind fun y1 =>
 if !(decide (y1.Code = 0) && decide (y1.Index = 0)) then
 some (({ Hunks := [] } : Patch), ({ Code := 10, Index := (-1) } : Fault))
 else
 some (p_, ({ Code := 0, Index := 0 } : Fault))

noncomputable def slices_Clone (s_ : (List ByteArray)) : Option (List ByteArray) :=
 nilIf s_ (
 some []) (
(app? 16 ([] : List ByteArray) s_).bind fun y1 =>
 some y1)

noncomputable def textpatch_Copy.j1 (x1 : List Hunk) : Option Patch :=
 some ({ Hunks := x1 } : Patch)

noncomputable def textpatch_Copy.l1 (p_ : Patch) (x2 : Int) (x3 : List Hunk) : Option (Step (Int × (List Hunk)) (List Hunk)) :=
 if decide (x2 < (p_.Hunks.length : Int)) then
(at? p_.Hunks x2).bind fun y1 =>
(slices_Clone y1.Old).bind fun y2 =>
(slices_Clone y1.New).bind fun y3 =>
(app? 56 x3 ([({ At := y1.At, Old := y2, New := y3 } : Hunk)] : List Hunk)).bind fun y4 =>
(ckK .i64 (x2 + 1)).bind fun z1 =>
 some (Step.next (z1, y4))
 else
 some (Step.done x3)

noncomputable def textpatch_Copy (p_ : Patch) : Option Patch :=
(iter (fun s => textpatch_Copy.l1 p_ s.1 s.2) (0, [])).bind fun r1 =>
 textpatch_Copy.j1 r1

noncomputable def commute_shift.j1 (x1 : List Hunk) : Option Patch :=
 some ({ Hunks := x1 } : Patch)

noncomputable def commute_shift.j2 (x2 : Int) (x5 : List Hunk) : Option (Step (Int × (List Hunk)) (List Hunk)) :=
(ckK .i64 (x2 + 1)).bind fun z1 =>
 some (Step.next (z1, x5))

noncomputable def commute_shift.j3 (x2 : Int) (x6 : List Hunk) : Option (Step (Int × (List Hunk)) (List Hunk)) :=
 commute_shift.j2 x2 x6

noncomputable def commute_shift.j4 (x7 : Int) (x10 : List Hunk) : Option (Step (Int × (List Hunk)) (List Hunk)) :=
(ckK .i64 (x7 + 1)).bind fun z2 =>
 some (Step.next (z2, x10))

noncomputable def commute_shift.l2 (l_ : (List Range_commute)) (sign : Int) (x2 : Int) (y2 : Hunk) (x7 : Int) (x8 : List Hunk) : Option (Step (Int × (List Hunk)) (List Hunk)) :=
 if decide (x7 < (l_.length : Int)) then
(at? l_ x7).bind fun y3 =>
 if decide (y3.High < y2.At) then
(at? x8 x2).bind fun y4 =>
(ckK .i64 (sign * y3.Growth)).bind fun z3 =>
(ckK .i64 (y4.At + z3)).bind fun z4 =>
(at? x8 x2).bind fun y5 =>
(some (x8.set x2.toNat ({ At := z4, Old := y5.Old, New := y5.New } : Hunk))).bind fun y6 =>
 commute_shift.j4 x7 y6
 else
 commute_shift.j4 x7 x8
 else
 some (Step.done x8)

noncomputable def commute_shift.l1 (p_ : Patch) (l_ : (List Range_commute)) (sign : Int) (x2 : Int) (x3 : List Hunk) : Option (Step (Int × (List Hunk)) (List Hunk)) :=
 if decide (x2 < (p_.Hunks.length : Int)) then
(at? p_.Hunks x2).bind fun y2 =>
(iter (fun s => commute_shift.l2 l_ sign x2 y2 s.1 s.2) (0, x3)).bind fun r2 =>
 commute_shift.j3 x2 r2
 else
 some (Step.done x3)

noncomputable def commute_shift (p_ : Patch) (l_ : (List Range_commute)) (sign : Int) : Option Patch :=
(textpatch_Copy p_).bind fun y1 =>
(iter (fun s => commute_shift.l1 p_ l_ sign s.1 s.2) (0, y1.Hunks)).bind fun r1 =>
 commute_shift.j1 r1

noncomputable def commute_Commute (p_ : Patch) (q_ : Patch) : Option (Patch × Patch × Bool × Fault) :=
(commute_both p_ q_).bind fun y1 =>
 if !(decide (y1.Code = 0) && decide (y1.Index = 0)) then
 some (({ Hunks := [] } : Patch), ({ Hunks := [] } : Patch), false, y1)
 else
(commute_newRanges p_).bind fun y2 =>
(commute_OldRanges q_).bind fun y3 =>
(commute_meet y2 y3).bind fun y4 =>
 if y4 then
 some (({ Hunks := [] } : Patch), ({ Hunks := [] } : Patch), false, ({ Code := 0, Index := 0 } : Fault))
 else
(commute_shift q_ y2 (-1)).bind fun y5 =>
(textpatch_Made y5).bind fun y6 =>
 if !(decide (y6.2.Code = 0) && decide (y6.2.Index = 0)) then
 some (({ Hunks := [] } : Patch), ({ Hunks := [] } : Patch), false, y6.2)
 else
(commute_OldRanges y6.1).bind fun y7 =>
(commute_shift p_ y7 1).bind fun y8 =>
(textpatch_Made y8).bind fun y9 =>
 if !(decide (y9.2.Code = 0) && decide (y9.2.Index = 0)) then
 some (({ Hunks := [] } : Patch), ({ Hunks := [] } : Patch), false, y9.2)
 else
 some (y6.1, y9.1, true, ({ Code := 0, Index := 0 } : Fault))

noncomputable def stack_clone.j1 (x1 : List Patch) : Option (List Patch) :=
 some x1

noncomputable def stack_clone.l1 (patches : (List Patch)) (x2 : Int) (x3 : List Patch) : Option (Step (Int × (List Patch)) (List Patch)) :=
 if decide (x2 < (patches.length : Int)) then
(at? patches x2).bind fun y1 =>
(textpatch_Copy y1).bind fun y2 =>
(app? 24 x3 ([y2] : List Patch)).bind fun y3 =>
(ckK .i64 (x2 + 1)).bind fun z1 =>
 some (Step.next (z1, y3))
 else
 some (Step.done x3)

noncomputable def stack_clone (patches : (List Patch)) : Option (List Patch) :=
(iter (fun s => stack_clone.l1 patches s.1 s.2) (0, [])).bind fun r1 =>
 stack_clone.j1 r1

noncomputable def stack_move.j1 (x1 : List Patch) : Option ((List Patch) × Bool × Fault) :=
 some (x1, true, ({ Code := 0, Index := 0 } : Fault))

noncomputable def stack_move.j2 (x3 : List Patch) (x5 : Int) (x6 : Int) : Option (Step (Int × (List Patch)) (((List Patch) × Bool × Fault) ⊕ (List Patch))) :=
(at? x3 x6).bind fun y2 =>
(ckK .i64 (x6 + 1)).bind fun z2 =>
(at? x3 z2).bind fun y3 =>
(commute_Commute y2 y3).bind fun y4 =>
 if !(decide (y4.2.2.2.Code = 0) && decide (y4.2.2.2.Index = 0)) then
 some (Step.done (Sum.inl ([], false, ({ Code := y4.2.2.2.Code, Index := (-1) } : Fault))))
 else
 if !y4.2.2.1 then
 some (Step.done (Sum.inl ([], false, ({ Code := 0, Index := 0 } : Fault))))
 else
(ckK .i64 (x6 + 1)).bind fun z3 =>
(at? x3 x6).bind fun y5 =>
(some (x3.set x6.toNat y4.1)).bind fun y6 =>
(at? y6 z3).bind fun y7 =>
(some (y6.set z3.toNat y4.2.1)).bind fun y8 =>
 some (Step.next (x5, y8))

noncomputable def stack_move.l1 (to : Int) (x2 : Int) (x3 : List Patch) : Option (Step (Int × (List Patch)) (((List Patch) × Bool × Fault) ⊕ (List Patch))) :=
 if !decide (x2 = to) then
(ckK .i64 (x2 + 1)).bind fun z1 =>
 if decide (to < x2) then
(ckK .i64 (x2 - 1)).bind fun z4 =>
(ckK .i64 (x2 - 1)).bind fun z5 =>
 stack_move.j2 x3 z5 z4
 else
 stack_move.j2 x3 z1 x2
 else
 some (Step.done (Sum.inr x3))

noncomputable def stack_move (patches : (List Patch)) (from_ : Int) (to : Int) : Option ((List Patch) × Bool × Fault) :=
(stack_clone patches).bind fun y1 =>
(iter (fun s => stack_move.l1 to s.1 s.2) (from_, y1)).bind fun r1 =>
(match r1 with
| .inl p => some p
| .inr p => stack_move.j1 p)

noncomputable def stack_Move (patches : (List Patch)) (from_ : Int) (to : Int) : Option ((List Patch) × Bool × Fault) :=
(stack_check patches).bind fun y1 =>
 if !(decide (y1.Code = 0) && decide (y1.Index = 0)) then
 some ([], false, y1)
 else
(if decide (from_ < 0) then some true else some (decide (from_ ≥ (patches.length : Int)))).bind fun x1 =>
 if x1 then
 some ([], false, ({ Code := 3, Index := (-2) } : Fault))
 else
(if decide (to < 0) then some true else some (decide (to ≥ (patches.length : Int)))).bind fun x2 =>
 if x2 then
 some ([], false, ({ Code := 3, Index := (-3) } : Fault))
 else
(stack_move patches from_ to).bind fun y2 =>
 some (y2.1, y2.2.1, y2.2.2)

noncomputable def changeforgeref1_At (code : Int) (index : Int) : Option Fault :=
 some ({ Code := code, Index := index } : Fault)

noncomputable def changeforgeref1_LinesFault.j1 : Option Fault :=
 some ({ Code := 0, Index := 0 } : Fault)

noncomputable def changeforgeref1_LinesFault.j2 (x1 : Int) : Option (Step Int (Fault ⊕ Unit)) :=
(ckK .i64 (x1 + 1)).bind fun z1 =>
 some (Step.next z1)

noncomputable def changeforgeref1_LinesFault.j3 (x1 : Int) : Option (Step Int (Fault ⊕ Unit)) :=
 changeforgeref1_LinesFault.j2 x1

noncomputable def changeforgeref1_LinesFault.l2 (l_ : (List ByteArray)) (x1 : Int) (x3 : Int) : Option (Step Int (Fault ⊕ Unit)) :=
(at? l_ x1).bind fun y4 =>
 if decide (x3 < (y4.size : Int)) then
(at? l_ x1).bind fun y5 =>
(sAt? y5 x3).bind fun y6 =>
 if decide (y6 = 10) then
(changeforgeref1_At 5 x1).bind fun y7 =>
 some (Step.done (Sum.inl y7))
 else
(ckK .i64 (x3 + 1)).bind fun z2 =>
 some (Step.next z2)
 else
 some (Step.done (Sum.inr ()))

noncomputable def changeforgeref1_LinesFault.l1 (l_ : (List ByteArray)) (x1 : Int) : Option (Step Int (Fault ⊕ Unit)) :=
 if decide (x1 < (l_.length : Int)) then
(at? l_ x1).bind fun y2 =>
 if decide ((y2.size : Int) > 80) then
(changeforgeref1_At 2 x1).bind fun y3 =>
 some (Step.done (Sum.inl y3))
 else
(iter (fun s => changeforgeref1_LinesFault.l2 l_ x1 s) 0).bind fun r2 =>
(match r2 with
| .inl p => some (Step.done (Sum.inl p))
| .inr _ => changeforgeref1_LinesFault.j3 x1)
 else
 some (Step.done (Sum.inr ()))

noncomputable def changeforgeref1_LinesFault (l_ : (List ByteArray)) : Option Fault :=
 if decide ((l_.length : Int) > 120) then
(changeforgeref1_At 2 (-1)).bind fun y1 =>
 some y1
 else
(iter (fun s => changeforgeref1_LinesFault.l1 l_ s) 0).bind fun r1 =>
(match r1 with
| .inl p => some p
| .inr _ => changeforgeref1_LinesFault.j1)

noncomputable def changeforgeref1_LinesCode (l_ : (List ByteArray)) : Option Int :=
(changeforgeref1_LinesFault l_).bind fun y1 =>
 some y1.Code

noncomputable def changeforgeref1_End (h_ : Hunk) : Option Int :=
(ckK .i64 (h_.At + (h_.Old.length : Int))).bind fun z1 =>
 some z1

noncomputable def changeforgeref1_PatchFault.j1 : Option Fault :=
 some ({ Code := 0, Index := 0 } : Fault)

noncomputable def changeforgeref1_PatchFault.l1 (p_ : Patch) (x1 : Int) : Option (Step Int (Fault ⊕ Unit)) :=
 if decide (x1 < (p_.Hunks.length : Int)) then
(at? p_.Hunks x1).bind fun y2 =>
(if decide (y2.At < 0) then some true else some (decide (y2.At > 120))).bind fun x3 =>
 if x3 then
(changeforgeref1_At 3 x1).bind fun y3 =>
 some (Step.done (Sum.inl y3))
 else
(changeforgeref1_LinesCode y2.Old).bind fun y4 =>
 if !decide (y4 = 0) then
(changeforgeref1_At y4 x1).bind fun y5 =>
 some (Step.done (Sum.inl y5))
 else
(changeforgeref1_LinesCode y2.New).bind fun y6 =>
 if !decide (y6 = 0) then
(changeforgeref1_At y6 x1).bind fun y7 =>
 some (Step.done (Sum.inl y7))
 else
(ckK .i64 ((y2.Old.length : Int) + (y2.New.length : Int))).bind fun z1 =>
(if decide (z1 = 0) then some true else (if decide (x1 > 0) then (ckK .i64 (x1 - 1)).bind fun z2 =>
(at? p_.Hunks z2).bind fun y8 =>
(changeforgeref1_End y8).bind fun y9 =>
 some (decide (y2.At ≤ y9)) else some false).bind fun x5 =>
 some x5).bind fun x4 =>
 if x4 then
(changeforgeref1_At 5 x1).bind fun y10 =>
 some (Step.done (Sum.inl y10))
 else
(changeforgeref1_End y2).bind fun y11 =>
 if decide (y11 > 120) then
(changeforgeref1_At 3 x1).bind fun y12 =>
 some (Step.done (Sum.inl y12))
 else
(ckK .i64 (x1 + 1)).bind fun z3 =>
 some (Step.next z3)
 else
 some (Step.done (Sum.inr ()))

noncomputable def changeforgeref1_PatchFault (p_ : Patch) : Option Fault :=
 if decide ((p_.Hunks.length : Int) > 130) then
(changeforgeref1_At 2 (-1)).bind fun y1 =>
 some y1
 else
(iter (fun s => changeforgeref1_PatchFault.l1 p_ s) 0).bind fun r1 =>
(match r1 with
| .inl p => some p
| .inr _ => changeforgeref1_PatchFault.j1)

noncomputable def changeforgeref2_StackFault.j1 : Option Fault :=
 some ({ Code := 0, Index := 0 } : Fault)

noncomputable def changeforgeref2_StackFault.l1 (l_ : (List Patch)) (x1 : Int) : Option (Step Int (Fault ⊕ Unit)) :=
 if decide (x1 < (l_.length : Int)) then
(at? l_ x1).bind fun y2 =>
(changeforgeref1_PatchFault y2).bind fun y3 =>
 if !decide (y3.Code = 0) then
(changeforgeref1_At y3.Code x1).bind fun y4 =>
 some (Step.done (Sum.inl y4))
 else
(ckK .i64 (x1 + 1)).bind fun z1 =>
 some (Step.next z1)
 else
 some (Step.done (Sum.inr ()))

noncomputable def changeforgeref2_StackFault (l_ : (List Patch)) : Option Fault :=
 if decide ((l_.length : Int) > 12) then
(changeforgeref1_At 2 (-1)).bind fun y1 =>
 some y1
 else
(iter (fun s => changeforgeref2_StackFault.l1 l_ s) 0).bind fun r1 =>
(match r1 with
| .inl p => some p
| .inr _ => changeforgeref2_StackFault.j1)

noncomputable def changeforgeref1_Pair.j1 (x1 : Int) (x2 : Int) : Option Fault :=
 some ({ Code := x1, Index := x2 } : Fault)

noncomputable def changeforgeref1_Pair (p_ : Patch) (q_ : Patch) : Option Fault :=
(changeforgeref1_PatchFault p_).bind fun y1 =>
(if decide (y1.Code = 0) then (changeforgeref1_PatchFault q_).bind fun y2 =>
 some (!decide (y2.Code = 0)) else some false).bind fun x3 =>
 if x3 then
(changeforgeref1_PatchFault q_).bind fun y3 =>
(changeforgeref1_At y3.Code (-2)).bind fun y4 =>
 changeforgeref1_Pair.j1 y4.Code y4.Index
 else
 changeforgeref1_Pair.j1 y1.Code y1.Index

noncomputable def changeforgeref1_Growth (h_ : Hunk) : Option Int :=
(ckK .i64 ((h_.New.length : Int) - (h_.Old.length : Int))).bind fun z1 =>
 some z1

noncomputable def changeforgeref1_news.j1 (p_ : Patch) (i_ : Int) (x1 : Int) : Option (Int × Int) :=
(at? p_.Hunks i_).bind fun y2 =>
(ckK .i64 (x1 + (y2.New.length : Int))).bind fun z1 =>
 some (x1, z1)

noncomputable def changeforgeref1_news.l1 (p_ : Patch) (i_ : Int) (x2 : Int) (x3 : Int) : Option (Step (Int × Int) Int) :=
 if decide (x2 < i_) then
(at? p_.Hunks x2).bind fun y3 =>
(changeforgeref1_Growth y3).bind fun y4 =>
(ckK .i64 (x3 + y4)).bind fun z2 =>
(ckK .i64 (x2 + 1)).bind fun z3 =>
 some (Step.next (z3, z2))
 else
 some (Step.done x3)

noncomputable def changeforgeref1_news (p_ : Patch) (i_ : Int) : Option (Int × Int) :=
(at? p_.Hunks i_).bind fun y1 =>
(iter (fun s => changeforgeref1_news.l1 p_ i_ s.1 s.2) (0, y1.At)).bind fun r1 =>
 changeforgeref1_news.j1 p_ i_ r1

noncomputable def changeforgeref1_moved (h_ : Hunk) (n_ : Int) : Option Hunk :=
(ckK .i64 (h_.At + n_)).bind fun z1 =>
 some ({ At := z1, Old := h_.Old, New := h_.New } : Hunk)

noncomputable def changeforgeref1_Commute.j2 (x1 : List Hunk) (x2 : List Hunk) : Option (Patch × Patch × Bool × Fault) :=
(changeforgeref1_PatchFault ({ Hunks := x1 } : Patch)).bind fun y2 =>
(if !decide (y2.Code = 0) then some true else (changeforgeref1_PatchFault ({ Hunks := x2 } : Patch)).bind fun y3 =>
 some (!decide (y3.Code = 0))).bind fun x3 =>
 if x3 then
(changeforgeref1_At 10 (-1)).bind fun y4 =>
 some (({ Hunks := [] } : Patch), ({ Hunks := [] } : Patch), false, y4)
 else
 some (({ Hunks := x1 } : Patch), ({ Hunks := x2 } : Patch), true, ({ Code := 0, Index := 0 } : Fault))

noncomputable def changeforgeref1_Commute.j3 (x4 : Int) (x7 : List Hunk) : Option (Step (Int × (List Hunk)) (List Hunk)) :=
(ckK .i64 (x4 + 1)).bind fun z1 =>
 some (Step.next (z1, x7))

noncomputable def changeforgeref1_Commute.j4 (p_ : Patch) (x4 : Int) (x5 : List Hunk) (x8 : Int) : Option (Step (Int × (List Hunk)) (List Hunk)) :=
(at? p_.Hunks x4).bind fun y5 =>
(changeforgeref1_moved y5 x8).bind fun y6 =>
(app? 56 x5 ([y6] : List Hunk)).bind fun y7 =>
 changeforgeref1_Commute.j3 x4 y7

noncomputable def changeforgeref1_Commute.j5 (x9 : Int) (x12 : Int) : Option (Step (Int × Int) Int) :=
(ckK .i64 (x9 + 1)).bind fun z2 =>
 some (Step.next (z2, x12))

noncomputable def changeforgeref1_Commute.l2 (p_ : Patch) (x1 : List Hunk) (x4 : Int) (x9 : Int) (x10 : Int) : Option (Step (Int × Int) Int) :=
 if decide (x9 < (x1.length : Int)) then
(at? x1 x9).bind fun y8 =>
(changeforgeref1_End y8).bind fun y9 =>
(at? p_.Hunks x4).bind fun y10 =>
 if decide (y9 < y10.At) then
(at? x1 x9).bind fun y11 =>
(changeforgeref1_Growth y11).bind fun y12 =>
(ckK .i64 (x10 + y12)).bind fun z3 =>
 changeforgeref1_Commute.j5 x9 z3
 else
 changeforgeref1_Commute.j5 x9 x10
 else
 some (Step.done x10)

noncomputable def changeforgeref1_Commute.l1 (p_ : Patch) (x1 : List Hunk) (x4 : Int) (x5 : List Hunk) : Option (Step (Int × (List Hunk)) (List Hunk)) :=
 if decide (x4 < (p_.Hunks.length : Int)) then
(iter (fun s => changeforgeref1_Commute.l2 p_ x1 x4 s.1 s.2) (0, 0)).bind fun r2 =>
 changeforgeref1_Commute.j4 p_ x4 x5 r2
 else
 some (Step.done x5)

noncomputable def changeforgeref1_Commute.j1 (p_ : Patch) (x1 : List Hunk) : Option (Patch × Patch × Bool × Fault) :=
(iter (fun s => changeforgeref1_Commute.l1 p_ x1 s.1 s.2) (0, [])).bind fun r1 =>
 changeforgeref1_Commute.j2 x1 r1

noncomputable def changeforgeref1_Commute.j6 (x13 : Int) (x16 : List Hunk) : Option (Step (Int × (List Hunk)) ((Patch × Patch × Bool × Fault) ⊕ (List Hunk))) :=
(ckK .i64 (x13 + 1)).bind fun z4 =>
 some (Step.next (z4, x16))

noncomputable def changeforgeref1_Commute.j7 (q_ : Patch) (x13 : Int) (x14 : List Hunk) (x17 : Int) : Option (Step (Int × (List Hunk)) ((Patch × Patch × Bool × Fault) ⊕ (List Hunk))) :=
(at? q_.Hunks x13).bind fun y13 =>
(changeforgeref1_moved y13 x17).bind fun y14 =>
(app? 56 x14 ([y14] : List Hunk)).bind fun y15 =>
 changeforgeref1_Commute.j6 x13 y15

noncomputable def changeforgeref1_Commute.j8 (x18 : Int) (x21 : Int) : Option (Step (Int × Int) ((Patch × Patch × Bool × Fault) ⊕ Int)) :=
(ckK .i64 (x18 + 1)).bind fun z5 =>
 some (Step.next (z5, x21))

noncomputable def changeforgeref1_Commute.l4 (p_ : Patch) (q_ : Patch) (x13 : Int) (x18 : Int) (x19 : Int) : Option (Step (Int × Int) ((Patch × Patch × Bool × Fault) ⊕ Int)) :=
 if decide (x18 < (p_.Hunks.length : Int)) then
(changeforgeref1_news p_ x18).bind fun y16 =>
(at? q_.Hunks x13).bind fun y17 =>
(if decide (y16.2 ≥ y17.At) then (at? q_.Hunks x13).bind fun y18 =>
(changeforgeref1_End y18).bind fun y19 =>
 some (decide (y19 ≥ y16.1)) else some false).bind fun x22 =>
 if x22 then
 some (Step.done (Sum.inl (({ Hunks := [] } : Patch), ({ Hunks := [] } : Patch), false, ({ Code := 0, Index := 0 } : Fault))))
 else
(at? q_.Hunks x13).bind fun y20 =>
 if decide (y16.2 < y20.At) then
(at? p_.Hunks x18).bind fun y21 =>
(changeforgeref1_Growth y21).bind fun y22 =>
(ckK .i64 (x19 - y22)).bind fun z6 =>
 changeforgeref1_Commute.j8 x18 z6
 else
 changeforgeref1_Commute.j8 x18 x19
 else
 some (Step.done (Sum.inr x19))

noncomputable def changeforgeref1_Commute.l3 (p_ : Patch) (q_ : Patch) (x13 : Int) (x14 : List Hunk) : Option (Step (Int × (List Hunk)) ((Patch × Patch × Bool × Fault) ⊕ (List Hunk))) :=
 if decide (x13 < (q_.Hunks.length : Int)) then
(iter (fun s => changeforgeref1_Commute.l4 p_ q_ x13 s.1 s.2) (0, 0)).bind fun r4 =>
(match r4 with
| .inl p => some (Step.done (Sum.inl p))
| .inr p => changeforgeref1_Commute.j7 q_ x13 x14 p)
 else
 some (Step.done (Sum.inr x14))

noncomputable def changeforgeref1_Commute (p_ : Patch) (q_ : Patch) : Option (Patch × Patch × Bool × Fault) :=
(changeforgeref1_Pair p_ q_).bind fun y1 =>
 if !decide (y1.Code = 0) then
 some (({ Hunks := [] } : Patch), ({ Hunks := [] } : Patch), false, y1)
 else
(iter (fun s => changeforgeref1_Commute.l3 p_ q_ s.1 s.2) (0, [])).bind fun r3 =>
(match r3 with
| .inl p => some p
| .inr p => changeforgeref1_Commute.j1 p_ p)

noncomputable def changeforgeref2_carried.j1 (l_ : (List Patch)) (n_ : Int) (rec_ : (List Patch) → Int → Int → Option ((List Patch) × Bool × Fault)) (x1 : Int) (x2 : Int) (x3 : Int) : Option ((List Patch) × Bool × Fault) :=
(at? l_ x3).bind fun y1 =>
(ckK .i64 (x3 + 1)).bind fun z2 =>
(at? l_ z2).bind fun y2 =>
(changeforgeref1_Commute y1 y2).bind fun y3 =>
 if !decide (y3.2.2.2.Code = 0) then
(changeforgeref1_At y3.2.2.2.Code (-1)).bind fun y4 =>
 some ([], false, y4)
 else
 if !y3.2.2.1 then
 some ([], false, ({ Code := 0, Index := 0 } : Fault))
 else
(app? 24 ([] : List Patch) l_).bind fun y5 =>
(at? y5 x3).bind fun y6 =>
(some (y5.set x3.toNat y3.1)).bind fun y7 =>
(ckK .i64 (x3 + 1)).bind fun z3 =>
(at? y7 z3).bind fun y8 =>
(some (y7.set z3.toNat y3.2.1)).bind fun y9 =>
(ckK .i64 (n_ - x1)).bind fun z4 =>
(rec_ y9 x2 z4).bind fun y10 =>
 some (y10.1, y10.2.1, y10.2.2)

noncomputable def changeforgeref2_carried.body (rec_ : (List Patch) → Int → Int → Option ((List Patch) × Bool × Fault)) (l_ : (List Patch)) (at_ : Int) (n_ : Int) : Option ((List Patch) × Bool × Fault) :=
 if decide (n_ = 0) then
 some (l_, true, ({ Code := 0, Index := 0 } : Fault))
 else
(ckK .i64 (at_ + 1)).bind fun z1 =>
 if decide (n_ < 0) then
(ckK .i64 (at_ - 1)).bind fun z5 =>
(ckK .i64 (at_ - 1)).bind fun z6 =>
 changeforgeref2_carried.j1 l_ n_ rec_ (-1) z6 z5
 else
 changeforgeref2_carried.j1 l_ n_ rec_ 1 z1 at_

noncomputable def changeforgeref2_carried.m : Nat → (List Patch) → Int → Int → Option ((List Patch) × Bool × Fault)
| 0 => fun _ _ _ => Option.none
| k + 1 => changeforgeref2_carried.body (changeforgeref2_carried.m k)

noncomputable def changeforgeref2_carried (l_ : (List Patch)) (at_ : Int) (n_ : Int) : Option ((List Patch) × Bool × Fault) := changeforgeref2_carried.m (n_.natAbs + 1) l_ at_ n_

noncomputable def changeforgeref2_MoveStack (l_ : (List Patch)) (from_ : Int) (to : Int) : Option ((List Patch) × Bool × Fault) :=
(changeforgeref2_StackFault l_).bind fun y1 =>
 if !decide (y1.Code = 0) then
 some ([], false, y1)
 else
(if decide (from_ < 0) then some true else some (decide (from_ ≥ (l_.length : Int)))).bind fun x1 =>
 if x1 then
(changeforgeref1_At 3 (-2)).bind fun y2 =>
 some ([], false, y2)
 else
(if decide (to < 0) then some true else some (decide (to ≥ (l_.length : Int)))).bind fun x2 =>
 if x2 then
(changeforgeref1_At 3 (-3)).bind fun y3 =>
 some ([], false, y3)
 else
(ckK .i64 (to - from_)).bind fun z1 =>
(changeforgeref2_carried l_ from_ z1).bind fun y4 =>
 some (y4.1, y4.2.1, y4.2.2)

noncomputable def stack_Drop (patches : (List Patch)) (i_ : Int) : Option ((List Patch) × Bool × Fault) :=
(stack_check patches).bind fun y1 =>
 if !(decide (y1.Code = 0) && decide (y1.Index = 0)) then
 some ([], false, y1)
 else
(if decide (i_ < 0) then some true else some (decide (i_ ≥ (patches.length : Int)))).bind fun x1 =>
 if x1 then
 some ([], false, ({ Code := 3, Index := (-2) } : Fault))
 else
(ckK .i64 ((patches.length : Int) - 1)).bind fun z1 =>
(stack_move patches i_ z1).bind fun y2 =>
 if !y2.2.1 then
 some ([], false, y2.2.2)
 else
(ckK .i64 ((y2.1.length : Int) - 1)).bind fun z2 =>
(cut? y2.1 0 z2).bind fun y3 =>
 some (y3, true, ({ Code := 0, Index := 0 } : Fault))

noncomputable def changeforgeref2_DropStack (l_ : (List Patch)) (i_ : Int) : Option ((List Patch) × Bool × Fault) :=
(changeforgeref2_StackFault l_).bind fun y1 =>
 if !decide (y1.Code = 0) then
 some ([], false, y1)
 else
(if decide (i_ < 0) then some true else some (decide (i_ ≥ (l_.length : Int)))).bind fun x1 =>
 if x1 then
(changeforgeref1_At 3 (-2)).bind fun y2 =>
 some ([], false, y2)
 else
(ckK .i64 ((l_.length : Int) - 1)).bind fun z1 =>
(ckK .i64 (z1 - i_)).bind fun z2 =>
(changeforgeref2_carried l_ i_ z2).bind fun y3 =>
 if !y3.2.1 then
 some ([], false, y3.2.2)
 else
(ckK .i64 ((y3.1.length : Int) - 1)).bind fun z3 =>
(cut? y3.1 0 z3).bind fun y4 =>
 some (y4, true, ({ Code := 0, Index := 0 } : Fault))

noncomputable def changeforgeequal_Strings.j1 : Option Bool :=
 some true

noncomputable def changeforgeequal_Strings.l1 (a_ : (List ByteArray)) (b_ : (List ByteArray)) (x1 : Int) : Option (Step Int (Bool ⊕ Unit)) :=
 if decide (x1 < (a_.length : Int)) then
(at? a_ x1).bind fun y1 =>
(at? b_ x1).bind fun y2 =>
 if !decide (y1 = y2) then
 some (Step.done (Sum.inl false))
 else
(ckK .i64 (x1 + 1)).bind fun z1 =>
 some (Step.next z1)
 else
 some (Step.done (Sum.inr ()))

noncomputable def changeforgeequal_Strings (a_ : (List ByteArray)) (b_ : (List ByteArray)) : Option Bool :=
 if !decide ((a_.length : Int) = (b_.length : Int)) then
 some false
 else
(iter (fun s => changeforgeequal_Strings.l1 a_ b_ s) 0).bind fun r1 =>
(match r1 with
| .inl p => some p
| .inr _ => changeforgeequal_Strings.j1)

noncomputable def changeforgeequal_Patch.j1 : Option Bool :=
 some true

noncomputable def changeforgeequal_Patch.l1 (a_ : Patch) (b_ : Patch) (x1 : Int) : Option (Step Int (Bool ⊕ Unit)) :=
 if decide (x1 < (a_.Hunks.length : Int)) then
(at? a_.Hunks x1).bind fun y1 =>
(at? b_.Hunks x1).bind fun y2 =>
(if !decide (y1.At = y2.At) then some true else (at? a_.Hunks x1).bind fun y3 =>
(at? b_.Hunks x1).bind fun y4 =>
(changeforgeequal_Strings y3.Old y4.Old).bind fun y5 =>
 some !y5).bind fun x3 =>
(if x3 then some true else (at? a_.Hunks x1).bind fun y6 =>
(at? b_.Hunks x1).bind fun y7 =>
(changeforgeequal_Strings y6.New y7.New).bind fun y8 =>
 some !y8).bind fun x4 =>
 if x4 then
 some (Step.done (Sum.inl false))
 else
(ckK .i64 (x1 + 1)).bind fun z1 =>
 some (Step.next z1)
 else
 some (Step.done (Sum.inr ()))

noncomputable def changeforgeequal_Patch (a_ : Patch) (b_ : Patch) : Option Bool :=
 if !decide ((a_.Hunks.length : Int) = (b_.Hunks.length : Int)) then
 some false
 else
(iter (fun s => changeforgeequal_Patch.l1 a_ b_ s) 0).bind fun r1 =>
(match r1 with
| .inl p => some p
| .inr _ => changeforgeequal_Patch.j1)

noncomputable def changeforgeequal_Patches.j1 : Option Bool :=
 some true

noncomputable def changeforgeequal_Patches.l1 (a_ : (List Patch)) (b_ : (List Patch)) (x1 : Int) : Option (Step Int (Bool ⊕ Unit)) :=
 if decide (x1 < (a_.length : Int)) then
(at? a_ x1).bind fun y1 =>
(at? b_ x1).bind fun y2 =>
(changeforgeequal_Patch y1 y2).bind fun y3 =>
 if !y3 then
 some (Step.done (Sum.inl false))
 else
(ckK .i64 (x1 + 1)).bind fun z1 =>
 some (Step.next z1)
 else
 some (Step.done (Sum.inr ()))

noncomputable def changeforgeequal_Patches (a_ : (List Patch)) (b_ : (List Patch)) : Option Bool :=
 if !decide ((a_.length : Int) = (b_.length : Int)) then
 some false
 else
(iter (fun s => changeforgeequal_Patches.l1 a_ b_ s) 0).bind fun r1 =>
(match r1 with
| .inl p => some p
| .inr _ => changeforgeequal_Patches.j1)

noncomputable def lines_Second (b_ : (List ByteArray)) (index : Int) : Option Fault :=
(lines_Validate b_).bind fun y1 =>
 if !(decide (y1.Code = 0) && decide (y1.Index = 0)) then
 some ({ Code := y1.Code, Index := index } : Fault)
 else
 some ({ Code := 0, Index := 0 } : Fault)

noncomputable def slices_Equal.j1 : Option Bool :=
 some true

noncomputable def slices_Equal.l1 (s1_ : (List ByteArray)) (s2_ : (List ByteArray)) (x1 : Int) : Option (Step Int (Bool ⊕ Unit)) :=
 if decide (x1 < (s1_.length : Int)) then
(at? s1_ x1).bind fun y1 =>
(at? s2_ x1).bind fun y2 =>
 if !decide (y1 = y2) then
 some (Step.done (Sum.inl false))
 else
(ckK .i64 (x1 + 1)).bind fun z1 =>
 some (Step.next z1)
 else
 some (Step.done (Sum.inr ()))

noncomputable def slices_Equal (s1_ : (List ByteArray)) (s2_ : (List ByteArray)) : Option Bool :=
 if !decide ((s1_.length : Int) = (s2_.length : Int)) then
 some false
 else
(iter (fun s => slices_Equal.l1 s1_ s2_ s) 0).bind fun r1 =>
(match r1 with
| .inl p => some p
| .inr _ => slices_Equal.j1)

noncomputable def lines_Occurs (text : (List ByteArray)) (part : (List ByteArray)) (at_ : Int) : Option Bool :=
(if decide (at_ ≥ 0) then some (decide (at_ ≤ (text.length : Int))) else some false).bind fun x1 =>
(if x1 then (ckK .i64 ((text.length : Int) - at_)).bind fun z1 =>
 some (decide ((part.length : Int) ≤ z1)) else some false).bind fun x2 =>
(if x2 then (ckK .i64 (at_ + (part.length : Int))).bind fun z2 =>
(cut? text at_ z2).bind fun y1 =>
(slices_Equal y1 part).bind fun y2 =>
 some y2 else some false).bind fun x3 =>
 some x3

noncomputable def textpatch_Raw.j1 (text : (List ByteArray)) (high : Int) (x1 : List ByteArray) (x2 : Int) : Option (List ByteArray) :=
(cut? text x2 high).bind fun y1 =>
(app? 16 x1 y1).bind fun y2 =>
 some y2

noncomputable def textpatch_Raw.l1 (hunks : (List Hunk)) (text : (List ByteArray)) (x3 : Int) (x4 : List ByteArray) (x5 : Int) : Option (Step (Int × (List ByteArray) × Int) ((List ByteArray) × Int)) :=
 if decide (x3 < (hunks.length : Int)) then
(at? hunks x3).bind fun y3 =>
(cut? text x5 y3.At).bind fun y4 =>
(app? 16 x4 y4).bind fun y5 =>
(app? 16 y5 y3.New).bind fun y6 =>
(textpatch_End y3).bind fun y7 =>
(ckK .i64 (x3 + 1)).bind fun z1 =>
 some (Step.next (z1, y6, y7))
 else
 some (Step.done (x4, x5))

noncomputable def textpatch_Raw (hunks : (List Hunk)) (text : (List ByteArray)) (low : Int) (high : Int) : Option (List ByteArray) :=
(iter (fun s => textpatch_Raw.l1 hunks text s.1 s.2.1 s.2.2) (0, [], low)).bind fun r1 =>
 textpatch_Raw.j1 text high r1.1 r1.2

noncomputable def textpatch_Apply.j1 (p_ : Patch) (text : (List ByteArray)) : Option ((List ByteArray) × Fault) :=
(textpatch_Raw p_.Hunks text 0 (text.length : Int)).bind fun y3 =>
 if decide ((y3.length : Int) > 120) then
 some ([], ({ Code := 10, Index := (-1) } : Fault))
 else
 some (y3, ({ Code := 0, Index := 0 } : Fault))

noncomputable def textpatch_Apply.l1 (p_ : Patch) (text : (List ByteArray)) (x1 : Int) : Option (Step Int (((List ByteArray) × Fault) ⊕ Unit)) :=
 if decide (x1 < (p_.Hunks.length : Int)) then
(at? p_.Hunks x1).bind fun y4 =>
(lines_Occurs text y4.Old y4.At).bind fun y5 =>
 if !y5 then
 some (Step.done (Sum.inl ([], ({ Code := 19, Index := x1 } : Fault))))
 else
(ckK .i64 (x1 + 1)).bind fun z1 =>
 some (Step.next z1)
 else
 some (Step.done (Sum.inr ()))

noncomputable def textpatch_Apply (p_ : Patch) (text : (List ByteArray)) : Option ((List ByteArray) × Fault) :=
(textpatch_Validate p_).bind fun y1 =>
 if !(decide (y1.Code = 0) && decide (y1.Index = 0)) then
 some ([], y1)
 else
(lines_Second text (-2)).bind fun y2 =>
 if !(decide (y2.Code = 0) && decide (y2.Index = 0)) then
 some ([], y2)
 else
(iter (fun s => textpatch_Apply.l1 p_ text s) 0).bind fun r1 =>
(match r1 with
| .inl p => some p
| .inr _ => textpatch_Apply.j1 p_ text)

noncomputable def stack_Apply.j1 (x1 : List ByteArray) : Option ((List ByteArray) × Fault) :=
 some (x1, ({ Code := 0, Index := 0 } : Fault))

noncomputable def stack_Apply.l1 (patches : (List Patch)) (x2 : Int) (x3 : List ByteArray) : Option (Step (Int × (List ByteArray)) (((List ByteArray) × Fault) ⊕ (List ByteArray))) :=
 if decide (x2 < (patches.length : Int)) then
(at? patches x2).bind fun y4 =>
(textpatch_Apply y4 x3).bind fun y5 =>
 if !(decide (y5.2.Code = 0) && decide (y5.2.Index = 0)) then
 some (Step.done (Sum.inl ([], ({ Code := y5.2.Code, Index := x2 } : Fault))))
 else
(ckK .i64 (x2 + 1)).bind fun z1 =>
 some (Step.next (z1, y5.1))
 else
 some (Step.done (Sum.inr x3))

noncomputable def stack_Apply (base : (List ByteArray)) (patches : (List Patch)) : Option ((List ByteArray) × Fault) :=
(stack_check patches).bind fun y1 =>
 if !(decide (y1.Code = 0) && decide (y1.Index = 0)) then
 some ([], y1)
 else
(lines_Second base (-2)).bind fun y2 =>
 if !(decide (y2.Code = 0) && decide (y2.Index = 0)) then
 some ([], y2)
 else
(app? 16 ([] : List ByteArray) base).bind fun y3 =>
(iter (fun s => stack_Apply.l1 patches s.1 s.2) (0, y3)).bind fun r1 =>
(match r1 with
| .inl p => some p
| .inr p => stack_Apply.j1 p)

noncomputable def changeforgelaw2_single (at_ : Int) (old_ : (List ByteArray)) (new_ : (List ByteArray)) : Option Patch :=
 some ({ Hunks := ([({ At := at_, Old := old_, New := new_ } : Hunk)] : List Hunk) } : Patch)

noncomputable def changeforgelaw2_dropped : Option Bool :=
(changeforgelaw2_single 0 ([] : List ByteArray) ([(⟨#[97]⟩ : ByteArray)] : List ByteArray)).bind fun y1 =>
(changeforgelaw2_single 1 ([] : List ByteArray) ([(⟨#[98]⟩ : ByteArray)] : List ByteArray)).bind fun y2 =>
(stack_Drop ([y1, y2] : List Patch) 1).bind fun y3 =>
(stack_Apply ([] : List ByteArray) ([y1] : List Patch)).bind fun y4 =>
(if decide (y3.2.2.Code = 0) then some (decide (y4.2.Code = 0)) else some false).bind fun x1 =>
(if x1 then some y3.2.1 else some false).bind fun x2 =>
(if x2 then (changeforgeequal_Patches y3.1 ([y1] : List Patch)).bind fun y5 =>
 some y5 else some false).bind fun x3 =>
(if x3 then (changeforgeequal_Strings y4.1 ([(⟨#[97]⟩ : ByteArray)] : List ByteArray)).bind fun y6 =>
 some y6 else some false).bind fun x4 =>
 some x4

noncomputable def changeforgelaw2_StackMoveMatchesSpec (l_ : (List Patch)) (from_ : Int) (to : Int) : Option Bool :=
(stack_Move l_ from_ to).bind fun y1 =>
(changeforgeref2_MoveStack l_ from_ to).bind fun y2 =>
(stack_Drop l_ from_).bind fun y3 =>
(changeforgeref2_DropStack l_ from_).bind fun y4 =>
(changeforgeequal_Patches y1.1 y2.1).bind fun y5 =>
(if y5 then some (decide (y1.2.1 = y2.2.1)) else some false).bind fun x1 =>
(if x1 then some (decide (y1.2.2.Code = y2.2.2.Code) && decide (y1.2.2.Index = y2.2.2.Index)) else some false).bind fun x2 =>
(if x2 then (changeforgeequal_Patches y3.1 y4.1).bind fun y6 =>
 some y6 else some false).bind fun x3 =>
(if x3 then some (decide (y3.2.1 = y4.2.1)) else some false).bind fun x4 =>
(if x4 then some (decide (y3.2.2.Code = y4.2.2.Code) && decide (y3.2.2.Index = y4.2.2.Index)) else some false).bind fun x5 =>
(if x5 then (changeforgelaw2_dropped).bind fun y7 =>
 some y7 else some false).bind fun x6 =>
 some x6

noncomputable def changeforgelaw2_StackMoveSameEffect (base : (List ByteArray)) (l_ : (List Patch)) (from_ : Int) (to : Int) : Option Bool :=
(stack_Move l_ from_ to).bind fun y1 =>
(stack_Apply base l_).bind fun y2 =>
(if !decide (y1.2.2.Code = 0) then some true else some (!decide (y2.2.Code = 0))).bind fun x1 =>
(if x1 then some true else some !y1.2.1).bind fun x2 =>
 if x2 then
(changeforgelaw2_dropped).bind fun y3 =>
 some y3
 else
(stack_Apply base y1.1).bind fun y4 =>
 if decide (y4.2.Code = 10) then
(changeforgelaw2_dropped).bind fun y5 =>
 some y5
 else
(if decide (y4.2.Code = 0) then (changeforgeequal_Strings y4.1 y2.1).bind fun y6 =>
 some y6 else some false).bind fun x3 =>
(if x3 then (changeforgelaw2_dropped).bind fun y7 =>
 some y7 else some false).bind fun x4 =>
 some x4

noncomputable def changeforgelaw2_StackMoveBack (l_ : (List Patch)) (from_ : Int) (to : Int) : Option Bool :=
(stack_Move l_ from_ to).bind fun y1 =>
(if !decide (y1.2.2.Code = 0) then some true else some !y1.2.1).bind fun x1 =>
 if x1 then
(changeforgelaw2_dropped).bind fun y2 =>
 some y2
 else
(stack_Move y1.1 to from_).bind fun y3 =>
(if decide (y3.2.2.Code = 0) then some y3.2.1 else some false).bind fun x2 =>
(if x2 then (changeforgeequal_Patches y3.1 l_).bind fun y4 =>
 some y4 else some false).bind fun x3 =>
(if x3 then (changeforgelaw2_dropped).bind fun y5 =>
 some y5 else some false).bind fun x4 =>
 some x4

noncomputable def changeforgelaw2_StackDropUndone (base : (List ByteArray)) (l_ : (List Patch)) (i_ : Int) : Option Bool :=
(stack_Drop l_ i_).bind fun y1 =>
(ckK .i64 ((l_.length : Int) - 1)).bind fun z1 =>
(stack_Move l_ i_ z1).bind fun y2 =>
(stack_Apply base l_).bind fun y3 =>
(if !decide (y1.2.2.Code = 0) then some true else some (!decide (y2.2.2.Code = 0))).bind fun x1 =>
(if x1 then some true else some (!decide (y3.2.Code = 0))).bind fun x2 =>
(if x2 then some true else some !y1.2.1).bind fun x3 =>
(if x3 then some true else some !y2.2.1).bind fun x4 =>
(if x4 then some true else some (decide ((y2.1.length : Int) = 0))).bind fun x5 =>
 if x5 then
(changeforgelaw2_dropped).bind fun y4 =>
 some y4
 else
(stack_Apply base y1.1).bind fun y5 =>
 if !decide (y5.2.Code = 0) then
(if decide (y5.2.Code = 10) then (changeforgelaw2_dropped).bind fun y6 =>
 some y6 else some false).bind fun x6 =>
 some x6
 else
(ckK .i64 ((y2.1.length : Int) - 1)).bind fun z2 =>
(at? y2.1 z2).bind fun y7 =>
(textpatch_Apply y7 y5.1).bind fun y8 =>
(if decide (y8.2.Code = 0) then (changeforgeequal_Strings y8.1 y3.1).bind fun y9 =>
 some y9 else some false).bind fun x7 =>
(if x7 then (changeforgelaw2_dropped).bind fun y10 =>
 some y10 else some false).bind fun x8 =>
 some x8

noncomputable def changeforgeref1_Equal.j1 : Option Bool :=
 some true

noncomputable def changeforgeref1_Equal.l1 (a_ : (List ByteArray)) (b_ : (List ByteArray)) (x1 : Int) : Option (Step Int (Bool ⊕ Unit)) :=
 if decide (x1 < (a_.length : Int)) then
(at? a_ x1).bind fun y1 =>
(at? b_ x1).bind fun y2 =>
 if !decide (y1 = y2) then
 some (Step.done (Sum.inl false))
 else
(ckK .i64 (x1 + 1)).bind fun z1 =>
 some (Step.next z1)
 else
 some (Step.done (Sum.inr ()))

noncomputable def changeforgeref1_Equal (a_ : (List ByteArray)) (b_ : (List ByteArray)) : Option Bool :=
 if !decide ((a_.length : Int) = (b_.length : Int)) then
 some false
 else
(iter (fun s => changeforgeref1_Equal.l1 a_ b_ s) 0).bind fun r1 =>
(match r1 with
| .inl p => some p
| .inr _ => changeforgeref1_Equal.j1)

noncomputable def changeforgeref1_has (text : (List ByteArray)) (at_ : Int) (l_ : (List ByteArray)) : Option Bool :=
(if decide (at_ < 0) then some true else (ckK .i64 (at_ + (l_.length : Int))).bind fun z1 =>
 some (decide (z1 > (text.length : Int)))).bind fun x1 =>
 if x1 then
 some false
 else
(ckK .i64 (at_ + (l_.length : Int))).bind fun z2 =>
(cut? text at_ z2).bind fun y1 =>
(changeforgeref1_Equal y1 l_).bind fun y2 =>
 some y2

noncomputable def changeforgeref1_Apply.j2 (x1 : List ByteArray) : Option ((List ByteArray) × Fault) :=
 if decide ((x1.length : Int) > 120) then
(changeforgeref1_At 10 (-1)).bind fun y5 =>
 some ([], y5)
 else
 some (x1, ({ Code := 0, Index := 0 } : Fault))

noncomputable def changeforgeref1_Apply.l1 (p_ : Patch) (x2 : Int) (x3 : List ByteArray) : Option (Step (Int × (List ByteArray)) (List ByteArray)) :=
 if decide (x2 ≥ 0) then
(at? p_.Hunks x2).bind fun y6 =>
(changeforgeref1_End y6).bind fun y7 =>
(cut? x3 y7 (x3.length : Int)).bind fun y8 =>
(app? 16 ([] : List ByteArray) y8).bind fun y9 =>
(cut? x3 0 y6.At).bind fun y10 =>
(app? 16 y10 y6.New).bind fun y11 =>
(app? 16 y11 y9).bind fun y12 =>
(ckK .i64 (x2 - 1)).bind fun z2 =>
 some (Step.next (z2, y12))
 else
 some (Step.done x3)

noncomputable def changeforgeref1_Apply.j1 (p_ : Patch) (text : (List ByteArray)) : Option ((List ByteArray) × Fault) :=
(app? 16 ([] : List ByteArray) text).bind fun y4 =>
(ckK .i64 ((p_.Hunks.length : Int) - 1)).bind fun z1 =>
(iter (fun s => changeforgeref1_Apply.l1 p_ s.1 s.2) (z1, y4)).bind fun r1 =>
 changeforgeref1_Apply.j2 r1

noncomputable def changeforgeref1_Apply.l2 (p_ : Patch) (text : (List ByteArray)) (x5 : Int) : Option (Step Int (((List ByteArray) × Fault) ⊕ Unit)) :=
 if decide (x5 < (p_.Hunks.length : Int)) then
(at? p_.Hunks x5).bind fun y13 =>
(at? p_.Hunks x5).bind fun y14 =>
(changeforgeref1_has text y13.At y14.Old).bind fun y15 =>
 if !y15 then
(changeforgeref1_At 19 x5).bind fun y16 =>
 some (Step.done (Sum.inl ([], y16)))
 else
(ckK .i64 (x5 + 1)).bind fun z3 =>
 some (Step.next z3)
 else
 some (Step.done (Sum.inr ()))

noncomputable def changeforgeref1_Apply (p_ : Patch) (text : (List ByteArray)) : Option ((List ByteArray) × Fault) :=
(changeforgeref1_PatchFault p_).bind fun y1 =>
 if !decide (y1.Code = 0) then
 some ([], y1)
 else
(changeforgeref1_LinesCode text).bind fun y2 =>
 if !decide (y2 = 0) then
(changeforgeref1_At y2 (-2)).bind fun y3 =>
 some ([], y3)
 else
(iter (fun s => changeforgeref1_Apply.l2 p_ text s) 0).bind fun r2 =>
(match r2 with
| .inl p => some p
| .inr _ => changeforgeref1_Apply.j1 p_ text)

noncomputable def changeforgeref2_ApplyStack.j1 (x1 : List ByteArray) : Option ((List ByteArray) × Fault) :=
 some (x1, ({ Code := 0, Index := 0 } : Fault))

noncomputable def changeforgeref2_ApplyStack.l1 (l_ : (List Patch)) (x2 : Int) (x3 : List ByteArray) : Option (Step (Int × (List ByteArray)) (((List ByteArray) × Fault) ⊕ (List ByteArray))) :=
 if decide (x2 < (l_.length : Int)) then
(at? l_ x2).bind fun y4 =>
(changeforgeref1_Apply y4 x3).bind fun y5 =>
 if !decide (y5.2.Code = 0) then
(changeforgeref1_At y5.2.Code x2).bind fun y6 =>
 some (Step.done (Sum.inl ([], y6)))
 else
(ckK .i64 (x2 + 1)).bind fun z1 =>
 some (Step.next (z1, y5.1))
 else
 some (Step.done (Sum.inr x3))

noncomputable def changeforgeref2_ApplyStack (base : (List ByteArray)) (l_ : (List Patch)) : Option ((List ByteArray) × Fault) :=
(changeforgeref2_StackFault l_).bind fun y1 =>
 if !decide (y1.Code = 0) then
 some ([], y1)
 else
(changeforgeref1_LinesCode base).bind fun y2 =>
 if !decide (y2 = 0) then
(changeforgeref1_At y2 (-2)).bind fun y3 =>
 some ([], y3)
 else
(iter (fun s => changeforgeref2_ApplyStack.l1 l_ s.1 s.2) (0, base)).bind fun r1 =>
(match r1 with
| .inl p => some p
| .inr p => changeforgeref2_ApplyStack.j1 p)

noncomputable def textpatch_midway.j2 (x3 : List Middle_textpatch) : Option (List Middle_textpatch) :=
 some x3

noncomputable def textpatch_midway.l1 (x4 : Int) (x5 : List ByteArray) (x6 : List Middle_textpatch) : Option (Step (Int × (List ByteArray) × (List Middle_textpatch)) (List Middle_textpatch)) :=
 if decide (x4 < 480) then
(app? 48 x6 ([({ inserted := false, line := ByteArray.empty, before := x5 } : Middle_textpatch)] : List Middle_textpatch)).bind fun y1 =>
(ckK .i64 (x4 + 1)).bind fun z1 =>
 some (Step.next (z1, [], y1))
 else
 some (Step.done x6)

noncomputable def textpatch_midway.j1 (x1 : List ByteArray) (x2 : List Middle_textpatch) : Option (List Middle_textpatch) :=
(iter (fun s => textpatch_midway.l1 s.1 s.2.1 s.2.2) (0, x1, x2)).bind fun r1 =>
 textpatch_midway.j2 r1

noncomputable def textpatch_midway.j3 (x8 : Int) (x13 : Int) (x14 : List ByteArray) (x15 : List Middle_textpatch) : Option (Step (Int × Int × (List ByteArray) × (List Middle_textpatch)) ((List ByteArray) × (List Middle_textpatch))) :=
(ckK .i64 (x8 + 1)).bind fun z2 =>
 some (Step.next (z2, x13, x14, x15))

noncomputable def textpatch_midway.j5 (x8 : Int) (y2 : Hunk) (x18 : List ByteArray) (x19 : List Middle_textpatch) : Option (Step (Int × Int × (List ByteArray) × (List Middle_textpatch)) ((List ByteArray) × (List Middle_textpatch))) :=
(textpatch_End y2).bind fun y4 =>
 textpatch_midway.j3 x8 y4 x18 x19

noncomputable def textpatch_midway.l3 (y2 : Hunk) (x20 : Int) (x21 : List ByteArray) (x22 : List Middle_textpatch) : Option (Step (Int × (List ByteArray) × (List Middle_textpatch)) ((List ByteArray) × (List Middle_textpatch))) :=
 if decide (x20 < (y2.New.length : Int)) then
(at? y2.New x20).bind fun y5 =>
(app? 48 x22 ([({ inserted := true, line := y5, before := x21 } : Middle_textpatch)] : List Middle_textpatch)).bind fun y6 =>
(ckK .i64 (x20 + 1)).bind fun z3 =>
 some (Step.next (z3, [], y6))
 else
 some (Step.done (x21, x22))

noncomputable def textpatch_midway.j4 (x8 : Int) (y2 : Hunk) (x16 : List ByteArray) (x17 : List Middle_textpatch) : Option (Step (Int × Int × (List ByteArray) × (List Middle_textpatch)) ((List ByteArray) × (List Middle_textpatch))) :=
(app? 16 x16 y2.Old).bind fun y3 =>
(iter (fun s => textpatch_midway.l3 y2 s.1 s.2.1 s.2.2) (0, y3, x17)).bind fun r3 =>
 textpatch_midway.j5 x8 y2 r3.1 r3.2

noncomputable def textpatch_midway.l4 (y2 : Hunk) (x24 : Int) (x25 : List ByteArray) (x26 : List Middle_textpatch) : Option (Step (Int × (List ByteArray) × (List Middle_textpatch)) ((List ByteArray) × (List Middle_textpatch))) :=
 if decide (x24 < y2.At) then
(app? 48 x26 ([({ inserted := false, line := ByteArray.empty, before := x25 } : Middle_textpatch)] : List Middle_textpatch)).bind fun y7 =>
(ckK .i64 (x24 + 1)).bind fun z4 =>
 some (Step.next (z4, [], y7))
 else
 some (Step.done (x25, x26))

noncomputable def textpatch_midway.l2 (p_ : Patch) (x8 : Int) (x9 : Int) (x10 : List ByteArray) (x11 : List Middle_textpatch) : Option (Step (Int × Int × (List ByteArray) × (List Middle_textpatch)) ((List ByteArray) × (List Middle_textpatch))) :=
 if decide (x8 < (p_.Hunks.length : Int)) then
(at? p_.Hunks x8).bind fun y2 =>
(iter (fun s => textpatch_midway.l4 y2 s.1 s.2.1 s.2.2) (x9, x10, x11)).bind fun r4 =>
 textpatch_midway.j4 x8 y2 r4.1 r4.2
 else
 some (Step.done (x10, x11))

noncomputable def textpatch_midway (p_ : Patch) : Option (List Middle_textpatch) :=
(iter (fun s => textpatch_midway.l2 p_ s.1 s.2.1 s.2.2.1 s.2.2.2) (0, 0, [], [])).bind fun r2 =>
 textpatch_midway.j1 r2.1 r2.2

noncomputable def diff_Collector__Delete.j1 (c_ : Collector_diff) (line : ByteArray) (x1 : List Hunk) (x2 : Bool) : Option Collector_diff :=
(ckK .i64 ((x1.length : Int) - 1)).bind fun z1 =>
(at? x1 z1).bind fun y1 =>
(app? 16 y1.Old ([line] : List ByteArray)).bind fun y2 =>
(ckK .i64 (c_.at_ + 1)).bind fun z2 =>
(some (x1.set z1.toNat ({ At := y1.At, Old := y2, New := y1.New } : Hunk))).bind fun y3 =>
 some ({ hunks := y3, at_ := z2, open_ := x2 } : Collector_diff)

noncomputable def diff_Collector__Delete (c_ : Collector_diff) (line : ByteArray) : Option Collector_diff :=
 if !c_.open_ then
(app? 56 c_.hunks ([({ At := c_.at_, Old := [], New := [] } : Hunk)] : List Hunk)).bind fun y4 =>
 diff_Collector__Delete.j1 c_ line y4 true
 else
 diff_Collector__Delete.j1 c_ line c_.hunks c_.open_

noncomputable def diff_Collector__Insert.j1 (c_ : Collector_diff) (line : ByteArray) (x1 : List Hunk) (x2 : Bool) : Option Collector_diff :=
(ckK .i64 ((x1.length : Int) - 1)).bind fun z1 =>
(at? x1 z1).bind fun y1 =>
(app? 16 y1.New ([line] : List ByteArray)).bind fun y2 =>
(some (x1.set z1.toNat ({ At := y1.At, Old := y1.Old, New := y2 } : Hunk))).bind fun y3 =>
 some ({ hunks := y3, at_ := c_.at_, open_ := x2 } : Collector_diff)

noncomputable def diff_Collector__Insert (c_ : Collector_diff) (line : ByteArray) : Option Collector_diff :=
 if !c_.open_ then
(app? 56 c_.hunks ([({ At := c_.at_, Old := [], New := [] } : Hunk)] : List Hunk)).bind fun y4 =>
 diff_Collector__Insert.j1 c_ line y4 true
 else
 diff_Collector__Insert.j1 c_ line c_.hunks c_.open_

noncomputable def diff_Collector__Keep (c_ : Collector_diff) (n_ : Int) : Option Collector_diff :=
 if decide (n_ > 0) then
(ckK .i64 (c_.at_ + n_)).bind fun z1 =>
 some ({ hunks := c_.hunks, at_ := z1, open_ := false } : Collector_diff)
 else
 some c_

noncomputable def textpatch_walk.j2 (x5 : List Hunk) (x6 : Int) (x7 : Bool) : Option Patch :=
 some ({ Hunks := x5 } : Patch)

noncomputable def textpatch_walk.j3 (x8 : Int) (x13 : List Hunk) (x14 : Int) (x15 : Bool) : Option (Step (Int × (List Hunk) × Int × Bool) ((List Hunk) × Int × Bool)) :=
(ckK .i64 (x8 + 1)).bind fun z1 =>
 some (Step.next (z1, x13, x14, x15))

noncomputable def textpatch_walk.j4 (x8 : Int) (y1 : Middle_textpatch) (x16 : List Hunk) (x17 : Int) (x18 : Bool) : Option (Step (Int × (List Hunk) × Int × Bool) ((List Hunk) × Int × Bool)) :=
 if y1.inserted then
(diff_Collector__Insert ({ hunks := x16, at_ := x17, open_ := x18 } : Collector_diff) y1.line).bind fun y2 =>
 textpatch_walk.j3 x8 y2.hunks y2.at_ y2.open_
 else
(diff_Collector__Keep ({ hunks := x16, at_ := x17, open_ := x18 } : Collector_diff) 1).bind fun y3 =>
 textpatch_walk.j3 x8 y3.hunks y3.at_ y3.open_

noncomputable def textpatch_walk.l2 (y1 : Middle_textpatch) (x19 : Int) (x20 : List Hunk) (x21 : Int) (x22 : Bool) : Option (Step (Int × (List Hunk) × Int × Bool) ((List Hunk) × Int × Bool)) :=
 if decide (x19 < (y1.before.length : Int)) then
(at? y1.before x19).bind fun y4 =>
(diff_Collector__Delete ({ hunks := x20, at_ := x21, open_ := x22 } : Collector_diff) y4).bind fun y5 =>
(ckK .i64 (x19 + 1)).bind fun z2 =>
 some (Step.next (z2, y5.hunks, y5.at_, y5.open_))
 else
 some (Step.done (x20, x21, x22))

noncomputable def textpatch_walk.l1 (mid : (List Middle_textpatch)) (x8 : Int) (x9 : List Hunk) (x10 : Int) (x11 : Bool) : Option (Step (Int × (List Hunk) × Int × Bool) ((List Hunk) × Int × Bool)) :=
 if decide (x8 < (mid.length : Int)) then
(at? mid x8).bind fun y1 =>
(iter (fun s => textpatch_walk.l2 y1 s.1 s.2.1 s.2.2.1 s.2.2.2) (0, x9, x10, x11)).bind fun r2 =>
 textpatch_walk.j4 x8 y1 r2.1 r2.2.1 r2.2.2
 else
 some (Step.done (x9, x10, x11))

noncomputable def textpatch_walk.j1 (mid : (List Middle_textpatch)) (x1 : Int) (x2 : List Hunk) (x3 : Int) (x4 : Bool) : Option Patch :=
(iter (fun s => textpatch_walk.l1 mid s.1 s.2.1 s.2.2.1 s.2.2.2) (x1, x2, x3, x4)).bind fun r1 =>
 textpatch_walk.j2 r1.1 r1.2.1 r1.2.2

noncomputable def textpatch_walk.j5 (x24 : Int) (x30 : Int) (x31 : List Hunk) (x32 : Int) (x33 : Bool) : Option (Step (Int × Int × (List Hunk) × Int × Bool) (Int × (List Hunk) × Int × Bool)) :=
(ckK .i64 (x24 + 1)).bind fun z3 =>
 some (Step.next (z3, x30, x31, x32, x33))

noncomputable def textpatch_walk.j8 (x24 : Int) (x41 : Int) (x42 : List Hunk) (x43 : Int) (x44 : Bool) : Option (Step (Int × Int × (List Hunk) × Int × Bool) (Int × (List Hunk) × Int × Bool)) :=
 textpatch_walk.j5 x24 x41 x42 x43 x44

noncomputable def textpatch_walk.j9 (x45 : Int) (x51 : Int) (x52 : List Hunk) (x53 : Int) (x54 : Bool) : Option (Step (Int × Int × (List Hunk) × Int × Bool) (Int × (List Hunk) × Int × Bool)) :=
(ckK .i64 (x45 + 1)).bind fun z4 =>
 some (Step.next (z4, x51, x52, x53, x54))

noncomputable def textpatch_walk.j11 (x45 : Int) (x46 : Int) (x58 : List Hunk) (x59 : Int) (x60 : Bool) : Option (Step (Int × Int × (List Hunk) × Int × Bool) (Int × (List Hunk) × Int × Bool)) :=
(ckK .i64 (x46 + 1)).bind fun z5 =>
 textpatch_walk.j9 x45 z5 x58 x59 x60

noncomputable def textpatch_walk.j10 (mid : (List Middle_textpatch)) (x45 : Int) (x46 : Int) (y7 : ByteArray) (x55 : List Hunk) (x56 : Int) (x57 : Bool) : Option (Step (Int × Int × (List Hunk) × Int × Bool) (Int × (List Hunk) × Int × Bool)) :=
(at? mid x46).bind fun y8 =>
 if !y8.inserted then
(diff_Collector__Delete ({ hunks := x55, at_ := x56, open_ := x57 } : Collector_diff) y7).bind fun y9 =>
 textpatch_walk.j11 x45 x46 y9.hunks y9.at_ y9.open_
 else
 textpatch_walk.j11 x45 x46 x55 x56 x57

noncomputable def textpatch_walk.l5 (y10 : Middle_textpatch) (x61 : Int) (x62 : List Hunk) (x63 : Int) (x64 : Bool) : Option (Step (Int × (List Hunk) × Int × Bool) ((List Hunk) × Int × Bool)) :=
 if decide (x61 < (y10.before.length : Int)) then
(at? y10.before x61).bind fun y11 =>
(diff_Collector__Delete ({ hunks := x62, at_ := x63, open_ := x64 } : Collector_diff) y11).bind fun y12 =>
(ckK .i64 (x61 + 1)).bind fun z6 =>
 some (Step.next (z6, y12.hunks, y12.at_, y12.open_))
 else
 some (Step.done (x62, x63, x64))

noncomputable def textpatch_walk.l4 (mid : (List Middle_textpatch)) (y6 : Hunk) (x45 : Int) (x46 : Int) (x47 : List Hunk) (x48 : Int) (x49 : Bool) : Option (Step (Int × Int × (List Hunk) × Int × Bool) (Int × (List Hunk) × Int × Bool)) :=
 if decide (x45 < (y6.Old.length : Int)) then
(at? y6.Old x45).bind fun y7 =>
(at? mid x46).bind fun y10 =>
(iter (fun s => textpatch_walk.l5 y10 s.1 s.2.1 s.2.2.1 s.2.2.2) (0, x47, x48, x49)).bind fun r5 =>
 textpatch_walk.j10 mid x45 x46 y7 r5.1 r5.2.1 r5.2.2
 else
 some (Step.done (x46, x47, x48, x49))

noncomputable def textpatch_walk.j7 (mid : (List Middle_textpatch)) (x24 : Int) (y6 : Hunk) (x34 : Int) (x38 : List Hunk) (x39 : Int) (x40 : Bool) : Option (Step (Int × Int × (List Hunk) × Int × Bool) (Int × (List Hunk) × Int × Bool)) :=
(iter (fun s => textpatch_walk.l4 mid y6 s.1 s.2.1 s.2.2.1 s.2.2.2.1 s.2.2.2.2) (0, x34, x38, x39, x40)).bind fun r4 =>
 textpatch_walk.j8 x24 r4.1 r4.2.1 r4.2.2.1 r4.2.2.2

noncomputable def textpatch_walk.l6 (y6 : Hunk) (x66 : Int) (x67 : List Hunk) (x68 : Int) (x69 : Bool) : Option (Step (Int × (List Hunk) × Int × Bool) ((List Hunk) × Int × Bool)) :=
 if decide (x66 < (y6.New.length : Int)) then
(at? y6.New x66).bind fun y13 =>
(diff_Collector__Insert ({ hunks := x67, at_ := x68, open_ := x69 } : Collector_diff) y13).bind fun y14 =>
(ckK .i64 (x66 + 1)).bind fun z7 =>
 some (Step.next (z7, y14.hunks, y14.at_, y14.open_))
 else
 some (Step.done (x67, x68, x69))

noncomputable def textpatch_walk.j6 (mid : (List Middle_textpatch)) (x24 : Int) (y6 : Hunk) (x34 : Int) (x35 : List Hunk) (x36 : Int) (x37 : Bool) : Option (Step (Int × Int × (List Hunk) × Int × Bool) (Int × (List Hunk) × Int × Bool)) :=
(iter (fun s => textpatch_walk.l6 y6 s.1 s.2.1 s.2.2.1 s.2.2.2) (0, x35, x36, x37)).bind fun r6 =>
 textpatch_walk.j7 mid x24 y6 x34 r6.1 r6.2.1 r6.2.2

noncomputable def textpatch_walk.j12 (x71 : Int) (x76 : List Hunk) (x77 : Int) (x78 : Bool) : Option (Step (Int × (List Hunk) × Int × Bool) (Int × (List Hunk) × Int × Bool)) :=
(ckK .i64 (x71 + 1)).bind fun z8 =>
 some (Step.next (z8, x76, x77, x78))

noncomputable def textpatch_walk.j13 (x71 : Int) (y15 : Middle_textpatch) (x79 : List Hunk) (x80 : Int) (x81 : Bool) : Option (Step (Int × (List Hunk) × Int × Bool) (Int × (List Hunk) × Int × Bool)) :=
 if y15.inserted then
(diff_Collector__Insert ({ hunks := x79, at_ := x80, open_ := x81 } : Collector_diff) y15.line).bind fun y16 =>
 textpatch_walk.j12 x71 y16.hunks y16.at_ y16.open_
 else
(diff_Collector__Keep ({ hunks := x79, at_ := x80, open_ := x81 } : Collector_diff) 1).bind fun y17 =>
 textpatch_walk.j12 x71 y17.hunks y17.at_ y17.open_

noncomputable def textpatch_walk.l8 (y15 : Middle_textpatch) (x82 : Int) (x83 : List Hunk) (x84 : Int) (x85 : Bool) : Option (Step (Int × (List Hunk) × Int × Bool) ((List Hunk) × Int × Bool)) :=
 if decide (x82 < (y15.before.length : Int)) then
(at? y15.before x82).bind fun y18 =>
(diff_Collector__Delete ({ hunks := x83, at_ := x84, open_ := x85 } : Collector_diff) y18).bind fun y19 =>
(ckK .i64 (x82 + 1)).bind fun z9 =>
 some (Step.next (z9, y19.hunks, y19.at_, y19.open_))
 else
 some (Step.done (x83, x84, x85))

noncomputable def textpatch_walk.l7 (mid : (List Middle_textpatch)) (y6 : Hunk) (x71 : Int) (x72 : List Hunk) (x73 : Int) (x74 : Bool) : Option (Step (Int × (List Hunk) × Int × Bool) (Int × (List Hunk) × Int × Bool)) :=
 if decide (x71 < y6.At) then
(at? mid x71).bind fun y15 =>
(iter (fun s => textpatch_walk.l8 y15 s.1 s.2.1 s.2.2.1 s.2.2.2) (0, x72, x73, x74)).bind fun r8 =>
 textpatch_walk.j13 x71 y15 r8.1 r8.2.1 r8.2.2
 else
 some (Step.done (x71, x72, x73, x74))

noncomputable def textpatch_walk.l3 (mid : (List Middle_textpatch)) (q_ : Patch) (x24 : Int) (x25 : Int) (x26 : List Hunk) (x27 : Int) (x28 : Bool) : Option (Step (Int × Int × (List Hunk) × Int × Bool) (Int × (List Hunk) × Int × Bool)) :=
 if decide (x24 < (q_.Hunks.length : Int)) then
(at? q_.Hunks x24).bind fun y6 =>
(iter (fun s => textpatch_walk.l7 mid y6 s.1 s.2.1 s.2.2.1 s.2.2.2) (x25, x26, x27, x28)).bind fun r7 =>
 textpatch_walk.j6 mid x24 y6 r7.1 r7.2.1 r7.2.2.1 r7.2.2.2
 else
 some (Step.done (x25, x26, x27, x28))

noncomputable def textpatch_walk (mid : (List Middle_textpatch)) (q_ : Patch) : Option Patch :=
(iter (fun s => textpatch_walk.l3 mid q_ s.1 s.2.1 s.2.2.1 s.2.2.2.1 s.2.2.2.2) (0, 0, [], 0, false)).bind fun r3 =>
 textpatch_walk.j1 mid r3.1 r3.2.1 r3.2.2.1 r3.2.2.2

noncomputable def textpatch_Compose.j1 (q_ : Patch) (y3 : (List Middle_textpatch)) : Option (Patch × Fault) :=
(textpatch_walk y3 q_).bind fun y4 =>
(textpatch_Made y4).bind fun y5 =>
 some (y5.1, y5.2)

noncomputable def textpatch_Compose.j2 (x1 : Int) : Option (Step Int ((Patch × Fault) ⊕ Unit)) :=
(ckK .i64 (x1 + 1)).bind fun z1 =>
 some (Step.next z1)

noncomputable def textpatch_Compose.j3 (x1 : Int) : Option (Step Int ((Patch × Fault) ⊕ Unit)) :=
 textpatch_Compose.j2 x1

noncomputable def textpatch_Compose.l2 (y3 : (List Middle_textpatch)) (x1 : Int) (y6 : Hunk) (x3 : Int) : Option (Step Int ((Patch × Fault) ⊕ Unit)) :=
 if decide (x3 < (y6.Old.length : Int)) then
(at? y6.Old x3).bind fun y7 =>
(ckK .i64 (y6.At + x3)).bind fun z2 =>
(at? y3 z2).bind fun y8 =>
(if y8.inserted then some (!decide (y8.line = y7)) else some false).bind fun x5 =>
 if x5 then
(ckK .i64 ((-3) - x1)).bind fun z3 =>
 some (Step.done (Sum.inl (({ Hunks := [] } : Patch), ({ Code := 19, Index := z3 } : Fault))))
 else
(ckK .i64 (x3 + 1)).bind fun z4 =>
 some (Step.next z4)
 else
 some (Step.done (Sum.inr ()))

noncomputable def textpatch_Compose.l1 (q_ : Patch) (y3 : (List Middle_textpatch)) (x1 : Int) : Option (Step Int ((Patch × Fault) ⊕ Unit)) :=
 if decide (x1 < (q_.Hunks.length : Int)) then
(at? q_.Hunks x1).bind fun y6 =>
(iter (fun s => textpatch_Compose.l2 y3 x1 y6 s) 0).bind fun r2 =>
(match r2 with
| .inl p => some (Step.done (Sum.inl p))
| .inr _ => textpatch_Compose.j3 x1)
 else
 some (Step.done (Sum.inr ()))

noncomputable def textpatch_Compose (p_ : Patch) (q_ : Patch) : Option (Patch × Fault) :=
(textpatch_Validate p_).bind fun y1 =>
 if !(decide (y1.Code = 0) && decide (y1.Index = 0)) then
 some (({ Hunks := [] } : Patch), y1)
 else
(textpatch_Second q_ (-2)).bind fun y2 =>
 if !(decide (y2.Code = 0) && decide (y2.Index = 0)) then
 some (({ Hunks := [] } : Patch), y2)
 else
(textpatch_midway p_).bind fun y3 =>
(iter (fun s => textpatch_Compose.l1 q_ y3 s) 0).bind fun r1 =>
(match r1 with
| .inl p => some p
| .inr _ => textpatch_Compose.j1 q_ y3)

noncomputable def stack_Squash (patches : (List Patch)) (i_ : Int) : Option ((List Patch) × Fault) :=
(stack_check patches).bind fun y1 =>
 if !(decide (y1.Code = 0) && decide (y1.Index = 0)) then
 some ([], y1)
 else
(if decide (i_ < 0) then some true else (ckK .i64 ((patches.length : Int) - 1)).bind fun z1 =>
 some (decide (i_ ≥ z1))).bind fun x1 =>
 if x1 then
 some ([], ({ Code := 3, Index := (-2) } : Fault))
 else
(at? patches i_).bind fun y2 =>
(ckK .i64 (i_ + 1)).bind fun z2 =>
(at? patches z2).bind fun y3 =>
(textpatch_Compose y2 y3).bind fun y4 =>
 if !(decide (y4.2.Code = 0) && decide (y4.2.Index = 0)) then
 some ([], ({ Code := y4.2.Code, Index := (-3) } : Fault))
 else
(cut? patches 0 i_).bind fun y5 =>
(stack_clone y5).bind fun y6 =>
(app? 24 y6 ([y4.1] : List Patch)).bind fun y7 =>
(ckK .i64 (i_ + 2)).bind fun z3 =>
(cut? patches z3 (patches.length : Int)).bind fun y8 =>
(stack_clone y8).bind fun y9 =>
(app? 24 y7 y9).bind fun y10 =>
 some (y10, ({ Code := 0, Index := 0 } : Fault))

noncomputable def changeforgeref1_fits (p_ : Patch) : Option (Patch × Fault) :=
(changeforgeref1_PatchFault p_).bind fun y1 =>
 if !decide (y1.Code = 0) then
(changeforgeref1_At 10 (-1)).bind fun y2 =>
 some (({ Hunks := [] } : Patch), y2)
 else
 some (p_, ({ Code := 0, Index := 0 } : Fault))

noncomputable def changeforgeref1_Compose.j3 (x7 : List Hunk) : Option (Patch × Fault) :=
(changeforgeref1_fits ({ Hunks := x7 } : Patch)).bind fun y5 =>
 some (y5.1, y5.2)

noncomputable def changeforgeref1_Compose.j4 (x8 : Int) (x11 : List ByteArray) (x14 : List ByteArray) (x15 : Int) (x16 : List Hunk) : Option (Step (Int × (List ByteArray) × Int × (List ByteArray) × (List Hunk)) (List Hunk)) :=
(ckK .i64 (x8 + 1)).bind fun z1 =>
 some (Step.next (z1, x14, x15, x11, x16))

noncomputable def changeforgeref1_Compose.j5 (y4 : List Item_changeforgeref1) (x8 : Int) (x11 : List ByteArray) (x17 : List Hunk) : Option (Step (Int × (List ByteArray) × Int × (List ByteArray) × (List Hunk)) (List Hunk)) :=
(at? y4 x8).bind fun y9 =>
(ckK .i64 (y9.Old + 1)).bind fun z2 =>
 changeforgeref1_Compose.j4 x8 x11 [] z2 x17

noncomputable def changeforgeref1_Compose.l1 (y4 : List Item_changeforgeref1) (x8 : Int) (x9 : List ByteArray) (x10 : Int) (x11 : List ByteArray) (x12 : List Hunk) : Option (Step (Int × (List ByteArray) × Int × (List ByteArray) × (List Hunk)) (List Hunk)) :=
 if decide (x8 < (y4.length : Int)) then
(at? y4 x8).bind fun y6 =>
 if decide (y6.Old < 0) then
(at? y4 x8).bind fun y7 =>
(app? 16 x9 ([y7.Text] : List ByteArray)).bind fun y8 =>
 changeforgeref1_Compose.j4 x8 x11 y8 x10 x12
 else
(at? y4 x8).bind fun y10 =>
(if decide (y10.Old > x10) then some true else some (decide ((x9.length : Int) > 0))).bind fun x18 =>
 if x18 then
(at? y4 x8).bind fun y11 =>
(cut? x11 x10 y11.Old).bind fun y12 =>
(app? 56 x12 ([({ At := x10, Old := y12, New := x9 } : Hunk)] : List Hunk)).bind fun y13 =>
 changeforgeref1_Compose.j5 y4 x8 x11 y13
 else
 changeforgeref1_Compose.j5 y4 x8 x11 x12
 else
 some (Step.done x12)

noncomputable def changeforgeref1_Compose.j2 (x3 : Int) (x4 : List Item_changeforgeref1) (x5 : List Item_changeforgeref1) (x6 : List ByteArray) : Option (Patch × Fault) :=
(cut? x5 x3 (x5.length : Int)).bind fun y3 =>
(app? 24 x4 y3).bind fun y4 =>
(iter (fun s => changeforgeref1_Compose.l1 y4 s.1 s.2.1 s.2.2.1 s.2.2.2.1 s.2.2.2.2) (0, [], 0, x6, [])).bind fun r1 =>
 changeforgeref1_Compose.j3 r1

noncomputable def changeforgeref1_Compose.j6 (x19 : Int) (x22 : List Item_changeforgeref1) (x25 : Int) (x26 : List Item_changeforgeref1) (x27 : List ByteArray) : Option (Step (Int × Int × (List Item_changeforgeref1) × (List Item_changeforgeref1) × (List ByteArray)) ((Patch × Fault) ⊕ (Int × (List Item_changeforgeref1) × (List Item_changeforgeref1) × (List ByteArray)))) :=
(ckK .i64 (x19 + 1)).bind fun z3 =>
 some (Step.next (z3, x25, x26, x22, x27))

noncomputable def changeforgeref1_Compose.j8 (x19 : Int) (x22 : List Item_changeforgeref1) (y14 : Hunk) (x28 : List ByteArray) (x29 : List Item_changeforgeref1) : Option (Step (Int × Int × (List Item_changeforgeref1) × (List Item_changeforgeref1) × (List ByteArray)) ((Patch × Fault) ⊕ (Int × (List Item_changeforgeref1) × (List Item_changeforgeref1) × (List ByteArray)))) :=
(changeforgeref1_End y14).bind fun y17 =>
 changeforgeref1_Compose.j6 x19 x22 y17 x29 x28

noncomputable def changeforgeref1_Compose.l3 (y14 : Hunk) (x30 : Int) (x31 : List Item_changeforgeref1) : Option (Step (Int × (List Item_changeforgeref1)) (List Item_changeforgeref1)) :=
 if decide (x30 < (y14.New.length : Int)) then
(at? y14.New x30).bind fun y18 =>
(app? 24 x31 ([({ Old := (-1), Text := y18 } : Item_changeforgeref1)] : List Item_changeforgeref1)).bind fun y19 =>
(ckK .i64 (x30 + 1)).bind fun z4 =>
 some (Step.next (z4, y19))
 else
 some (Step.done x31)

noncomputable def changeforgeref1_Compose.j7 (x19 : Int) (x22 : List Item_changeforgeref1) (y14 : Hunk) (y16 : List Item_changeforgeref1) (x28 : List ByteArray) : Option (Step (Int × Int × (List Item_changeforgeref1) × (List Item_changeforgeref1) × (List ByteArray)) ((Patch × Fault) ⊕ (Int × (List Item_changeforgeref1) × (List Item_changeforgeref1) × (List ByteArray)))) :=
(iter (fun s => changeforgeref1_Compose.l3 y14 s.1 s.2) (0, y16)).bind fun r3 =>
 changeforgeref1_Compose.j8 x19 x22 y14 x28 r3

noncomputable def changeforgeref1_Compose.j9 (x33 : Int) (x36 : List ByteArray) : Option (Step (Int × (List ByteArray)) ((Patch × Fault) ⊕ (List ByteArray))) :=
(ckK .i64 (x33 + 1)).bind fun z5 =>
 some (Step.next (z5, x36))

noncomputable def changeforgeref1_Compose.l4 (x19 : Int) (x22 : List Item_changeforgeref1) (y14 : Hunk) (x33 : Int) (x34 : List ByteArray) : Option (Step (Int × (List ByteArray)) ((Patch × Fault) ⊕ (List ByteArray))) :=
 if decide (x33 < (y14.Old.length : Int)) then
(ckK .i64 (y14.At + x33)).bind fun z6 =>
(at? x22 z6).bind fun y20 =>
(if decide (y20.Old < 0) then (at? y14.Old x33).bind fun y21 =>
 some (!decide (y20.Text = y21)) else some false).bind fun x37 =>
 if x37 then
(ckK .i64 ((-3) - x19)).bind fun z7 =>
(changeforgeref1_At 19 z7).bind fun y22 =>
 some (Step.done (Sum.inl (({ Hunks := [] } : Patch), y22)))
 else
 if decide (y20.Old ≥ 0) then
(at? y14.Old x33).bind fun y23 =>
(at? x34 y20.Old).bind fun y24 =>
(some (x34.set y20.Old.toNat y23)).bind fun y25 =>
 changeforgeref1_Compose.j9 x33 y25
 else
 changeforgeref1_Compose.j9 x33 x34
 else
 some (Step.done (Sum.inr x34))

noncomputable def changeforgeref1_Compose.l2 (q_ : Patch) (x19 : Int) (x20 : Int) (x21 : List Item_changeforgeref1) (x22 : List Item_changeforgeref1) (x23 : List ByteArray) : Option (Step (Int × Int × (List Item_changeforgeref1) × (List Item_changeforgeref1) × (List ByteArray)) ((Patch × Fault) ⊕ (Int × (List Item_changeforgeref1) × (List Item_changeforgeref1) × (List ByteArray)))) :=
 if decide (x19 < (q_.Hunks.length : Int)) then
(at? q_.Hunks x19).bind fun y14 =>
(cut? x22 x20 y14.At).bind fun y15 =>
(app? 24 x21 y15).bind fun y16 =>
(iter (fun s => changeforgeref1_Compose.l4 x19 x22 y14 s.1 s.2) (0, x23)).bind fun r4 =>
(match r4 with
| .inl p => some (Step.done (Sum.inl p))
| .inr p => changeforgeref1_Compose.j7 x19 x22 y14 y16 p)
 else
 some (Step.done (Sum.inr (x20, x21, x22, x23)))

noncomputable def changeforgeref1_Compose.j1 (q_ : Patch) (x1 : List Item_changeforgeref1) (x2 : List ByteArray) : Option (Patch × Fault) :=
(iter (fun s => changeforgeref1_Compose.l2 q_ s.1 s.2.1 s.2.2.1 s.2.2.2.1 s.2.2.2.2) (0, 0, [], x1, x2)).bind fun r2 =>
(match r2 with
| .inl p => some p
| .inr p => changeforgeref1_Compose.j2 p.1 p.2.1 p.2.2.1 p.2.2.2)

noncomputable def changeforgeref1_Compose.j10 (x43 : List Item_changeforgeref1) (x44 : Int) (x45 : Int) (x46 : List ByteArray) : Option (Step (Int × Int × (List Item_changeforgeref1) × (List ByteArray)) ((List Item_changeforgeref1) × (List ByteArray))) :=
(ckK .i64 (x44 + 1)).bind fun z8 =>
 some (Step.next (z8, x45, x43, x46))

noncomputable def changeforgeref1_Compose.j11 (x47 : Int) (x48 : Int) (x49 : List Item_changeforgeref1) (x50 : List ByteArray) : Option (Step (Int × Int × (List Item_changeforgeref1) × (List ByteArray)) ((List Item_changeforgeref1) × (List ByteArray))) :=
(app? 24 x49 ([({ Old := x47, Text := (⟨#[]⟩ : ByteArray) } : Item_changeforgeref1)] : List Item_changeforgeref1)).bind fun y26 =>
 changeforgeref1_Compose.j10 y26 x47 x48 x50

noncomputable def changeforgeref1_Compose.j13 (x38 : Int) (y28 : Hunk) (z9 : Int) (x52 : List Item_changeforgeref1) (x53 : List ByteArray) : Option (Step (Int × Int × (List Item_changeforgeref1) × (List ByteArray)) ((List Item_changeforgeref1) × (List ByteArray))) :=
(ckK .i64 (x38 + (y28.Old.length : Int))).bind fun z10 =>
 changeforgeref1_Compose.j11 z10 z9 x52 x53

noncomputable def changeforgeref1_Compose.l6 (x38 : Int) (y28 : Hunk) (x54 : Int) (x55 : List ByteArray) : Option (Step (Int × (List ByteArray)) (List ByteArray)) :=
 if decide (x54 < (y28.Old.length : Int)) then
(ckK .i64 (x38 + x54)).bind fun z11 =>
(at? y28.Old x54).bind fun y29 =>
(at? x55 z11).bind fun y30 =>
(some (x55.set z11.toNat y29)).bind fun y31 =>
(ckK .i64 (x54 + 1)).bind fun z12 =>
 some (Step.next (z12, y31))
 else
 some (Step.done x55)

noncomputable def changeforgeref1_Compose.j12 (x38 : Int) (x41 : List ByteArray) (y28 : Hunk) (z9 : Int) (x52 : List Item_changeforgeref1) : Option (Step (Int × Int × (List Item_changeforgeref1) × (List ByteArray)) ((List Item_changeforgeref1) × (List ByteArray))) :=
(iter (fun s => changeforgeref1_Compose.l6 x38 y28 s.1 s.2) (0, x41)).bind fun r6 =>
 changeforgeref1_Compose.j13 x38 y28 z9 x52 r6

noncomputable def changeforgeref1_Compose.l7 (y28 : Hunk) (x57 : Int) (x58 : List Item_changeforgeref1) : Option (Step (Int × (List Item_changeforgeref1)) (List Item_changeforgeref1)) :=
 if decide (x57 < (y28.New.length : Int)) then
(at? y28.New x57).bind fun y32 =>
(app? 24 x58 ([({ Old := (-1), Text := y32 } : Item_changeforgeref1)] : List Item_changeforgeref1)).bind fun y33 =>
(ckK .i64 (x57 + 1)).bind fun z13 =>
 some (Step.next (z13, y33))
 else
 some (Step.done x58)

noncomputable def changeforgeref1_Compose.l5 (p_ : Patch) (x38 : Int) (x39 : Int) (x40 : List Item_changeforgeref1) (x41 : List ByteArray) : Option (Step (Int × Int × (List Item_changeforgeref1) × (List ByteArray)) ((List Item_changeforgeref1) × (List ByteArray))) :=
 if decide (x38 < 400) then
(if decide (x39 < (p_.Hunks.length : Int)) then (at? p_.Hunks x39).bind fun y27 =>
 some (decide (y27.At = x38)) else some false).bind fun x51 =>
 if x51 then
(at? p_.Hunks x39).bind fun y28 =>
(ckK .i64 (x39 + 1)).bind fun z9 =>
(iter (fun s => changeforgeref1_Compose.l7 y28 s.1 s.2) (0, x40)).bind fun r7 =>
 changeforgeref1_Compose.j12 x38 x41 y28 z9 r7
 else
 changeforgeref1_Compose.j11 x38 x39 x40 x41
 else
 some (Step.done (x40, x41))

noncomputable def changeforgeref1_Compose (p_ : Patch) (q_ : Patch) : Option (Patch × Fault) :=
(changeforgeref1_Pair p_ q_).bind fun y1 =>
 if !decide (y1.Code = 0) then
 some (({ Hunks := [] } : Patch), y1)
 else
(mk? 16 400 ByteArray.empty).bind fun y2 =>
(iter (fun s => changeforgeref1_Compose.l5 p_ s.1 s.2.1 s.2.2.1 s.2.2.2) (0, 0, [], y2)).bind fun r5 =>
 changeforgeref1_Compose.j1 q_ r5.1 r5.2

noncomputable def changeforgeref2_SquashStack (l_ : (List Patch)) (i_ : Int) : Option ((List Patch) × Fault) :=
(changeforgeref2_StackFault l_).bind fun y1 =>
 if !decide (y1.Code = 0) then
 some ([], y1)
 else
(if decide (i_ < 0) then some true else (ckK .i64 ((l_.length : Int) - 1)).bind fun z1 =>
 some (decide (i_ ≥ z1))).bind fun x1 =>
 if x1 then
(changeforgeref1_At 3 (-2)).bind fun y2 =>
 some ([], y2)
 else
(at? l_ i_).bind fun y3 =>
(ckK .i64 (i_ + 1)).bind fun z2 =>
(at? l_ z2).bind fun y4 =>
(changeforgeref1_Compose y3 y4).bind fun y5 =>
 if !decide (y5.2.Code = 0) then
(changeforgeref1_At y5.2.Code (-3)).bind fun y6 =>
 some ([], y6)
 else
(cut? l_ 0 i_).bind fun y7 =>
(app? 24 ([] : List Patch) y7).bind fun y8 =>
(app? 24 y8 ([y5.1] : List Patch)).bind fun y9 =>
(ckK .i64 (i_ + 2)).bind fun z3 =>
(cut? l_ z3 (l_.length : Int)).bind fun y10 =>
(app? 24 y9 y10).bind fun y11 =>
 some (y11, ({ Code := 0, Index := 0 } : Fault))

noncomputable def changeforgelaw2_StackMatchesSpec (base : (List ByteArray)) (l_ : (List Patch)) (i_ : Int) : Option Bool :=
(stack_Apply base l_).bind fun y1 =>
(changeforgeref2_ApplyStack base l_).bind fun y2 =>
(stack_Squash l_ i_).bind fun y3 =>
(changeforgeref2_SquashStack l_ i_).bind fun y4 =>
(changeforgeequal_Strings y1.1 y2.1).bind fun y5 =>
(if y5 then some (decide (y1.2.Code = y2.2.Code) && decide (y1.2.Index = y2.2.Index)) else some false).bind fun x1 =>
(if x1 then (changeforgeequal_Patches y3.1 y4.1).bind fun y6 =>
 some y6 else some false).bind fun x2 =>
(if x2 then some (decide (y3.2.Code = y4.2.Code) && decide (y3.2.Index = y4.2.Index)) else some false).bind fun x3 =>
(if x3 then (changeforgelaw2_dropped).bind fun y7 =>
 some y7 else some false).bind fun x4 =>
 some x4

noncomputable def changeforgelaw2_StackSquashSameEffect (base : (List ByteArray)) (l_ : (List Patch)) (i_ : Int) : Option Bool :=
(stack_Squash l_ i_).bind fun y1 =>
(stack_Apply base l_).bind fun y2 =>
(if !decide (y1.2.Code = 0) then some true else some (!decide (y2.2.Code = 0))).bind fun x1 =>
 if x1 then
(changeforgelaw2_dropped).bind fun y3 =>
 some y3
 else
(stack_Apply base y1.1).bind fun y4 =>
(if decide (y4.2.Code = 0) then (changeforgeequal_Strings y4.1 y2.1).bind fun y5 =>
 some y5 else some false).bind fun x2 =>
(if x2 then (ckK .i64 ((l_.length : Int) - 1)).bind fun z1 =>
 some (decide ((y1.1.length : Int) = z1)) else some false).bind fun x3 =>
(if x3 then (changeforgelaw2_dropped).bind fun y6 =>
 some y6 else some false).bind fun x4 =>
 some x4
end Go.Dc
