/- The functions as pure models. -/
import Derived.Test.YthpkobkngplbbaaDoorDcTy
import Derived.Test.YthpkobkngplbbaaDoorDcR
namespace Go.Dc
open Go
set_option linter.unusedVariables false
noncomputable def stringslite_IndexByte (s_ : ByteArray) (c_ : Int) : Option Int :=
 some (idxB s_ c_)

noncomputable def strings_IndexByte (s_ : ByteArray) (c_ : Int) : Option Int :=
(stringslite_IndexByte s_ c_).bind fun y1 =>
 some y1

noncomputable def lines_Validate.j1 : Option Fault :=
 some ({ Code := 0, Index := 0 } : Fault)

noncomputable def lines_Validate.l1 (lines : (List ByteArray)) (x1 : Int) : Option (Step Int (Fault ⊕ Unit)) :=
 if decide (x1 < (lines.length : Int)) then
(at? lines x1).bind fun y1 =>
 if decide ((y1.size : Int) > 80) then
 some (Step.done (Sum.inl ({ Code := 2, Index := x1 } : Fault)))
 else
(strings_IndexByte y1 10).bind fun y2 =>
 if decide (y2 ≥ 0) then
 some (Step.done (Sum.inl ({ Code := 5, Index := x1 } : Fault)))
 else
(ckK .i64 (x1 + 1)).bind fun z1 =>
 some (Step.next z1)
 else
 some (Step.done (Sum.inr ()))

noncomputable def lines_Validate (lines : (List ByteArray)) : Option Fault :=
 if decide ((lines.length : Int) > 120) then
 some ({ Code := 2, Index := (-1) } : Fault)
 else
(iter (fun s => lines_Validate.l1 lines s) 0).bind fun r1 =>
(match r1 with
| .inl p => some p
| .inr _ => lines_Validate.j1)

noncomputable def lines_Second (b_ : (List ByteArray)) (index : Int) : Option Fault :=
(lines_Validate b_).bind fun y1 =>
 if !(decide (y1.Code = 0) && decide (y1.Index = 0)) then
 some ({ Code := y1.Code, Index := index } : Fault)
 else
 some ({ Code := 0, Index := 0 } : Fault)

noncomputable def lines_Both (a_ : (List ByteArray)) (b_ : (List ByteArray)) : Option Fault :=
(lines_Validate a_).bind fun y1 =>
 if !(decide (y1.Code = 0) && decide (y1.Index = 0)) then
 some y1
 else
(lines_Second b_ (-2)).bind fun y2 =>
 some y2

noncomputable def diff_Align_s1 (i_ : Int) (j : Int) (u2 : (List Int)) (u3 : Int) : Option Int :=
(ckK .i64 (i_ * u3)).bind fun z1 =>
(ckK .i64 (z1 + j)).bind fun z2 =>
(at? u2 z2).bind fun y1 =>
 some y1

noncomputable def diff_Align.j2 (x2 : List Int) : Option (List Int) :=
 some x2

noncomputable def diff_Align.l1 (a_ : (List ByteArray)) (b_ : (List ByteArray)) (z1 : Int) (x1 : List Int) (x3 : Int) (x4 : Int) (x5 : List Int) : Option (Step (Int × Int × (List Int)) (List Int)) :=
(if decide (x4 < (a_.length : Int)) then some true else some (decide (x3 < (b_.length : Int)))).bind fun x7 =>
 if x7 then
(if decide (x4 < (a_.length : Int)) then some (decide (x3 < (b_.length : Int))) else some false).bind fun x8 =>
(if x8 then (at? a_ x4).bind fun y2 =>
(at? b_ x3).bind fun y3 =>
 some (decide (y2 = y3)) else some false).bind fun x9 =>
 if x9 then
(app? 8 x5 ([0] : List Int)).bind fun y4 =>
(ckK .i64 (x4 + 1)).bind fun z4 =>
(ckK .i64 (x3 + 1)).bind fun z5 =>
 some (Step.next (z5, z4, y4))
 else
(if decide (x3 = (b_.length : Int)) then some true else (if decide (x4 < (a_.length : Int)) then (ckK .i64 (x4 + 1)).bind fun z6 =>
(diff_Align_s1 z6 x3 x1 z1).bind fun y5 =>
(ckK .i64 (x3 + 1)).bind fun z7 =>
(diff_Align_s1 x4 z7 x1 z1).bind fun y6 =>
 some (decide (y5 ≥ y6)) else some false).bind fun x11 =>
 some x11).bind fun x10 =>
 if x10 then
(app? 8 x5 ([1] : List Int)).bind fun y7 =>
(ckK .i64 (x4 + 1)).bind fun z8 =>
 some (Step.next (x3, z8, y7))
 else
(app? 8 x5 ([2] : List Int)).bind fun y8 =>
(ckK .i64 (x3 + 1)).bind fun z9 =>
 some (Step.next (z9, x4, y8))
 else
 some (Step.done x5)

noncomputable def diff_Align.j1 (a_ : (List ByteArray)) (b_ : (List ByteArray)) (z1 : Int) (x1 : List Int) : Option (List Int) :=
(iter (fun s => diff_Align.l1 a_ b_ z1 x1 s.1 s.2.1 s.2.2) (0, 0, [])).bind fun r1 =>
 diff_Align.j2 r1

noncomputable def diff_Align.j3 (x12 : Int) (x15 : List Int) : Option (Step (Int × (List Int)) (List Int)) :=
(ckK .i64 (x12 - 1)).bind fun z11 =>
 some (Step.next (z11, x15))

noncomputable def diff_Align.j4 (x12 : Int) (x16 : List Int) : Option (Step (Int × (List Int)) (List Int)) :=
 diff_Align.j3 x12 x16

noncomputable def diff_Align.j5 (z1 : Int) (x12 : Int) (x17 : Int) (x18 : List Int) (x20 : Int) : Option (Step (Int × (List Int)) (List Int)) :=
(ckK .i64 (x12 * z1)).bind fun z15 =>
(ckK .i64 (z15 + x17)).bind fun z16 =>
(at? x18 z16).bind fun y11 =>
(some (x18.set z16.toNat x20)).bind fun y12 =>
(ckK .i64 (x17 - 1)).bind fun z17 =>
 some (Step.next (z17, y12))

noncomputable def diff_Align.l3 (a_ : (List ByteArray)) (b_ : (List ByteArray)) (z1 : Int) (x12 : Int) (x17 : Int) (x18 : List Int) : Option (Step (Int × (List Int)) (List Int)) :=
 if decide (x17 ≥ 0) then
(ckK .i64 (x12 + 1)).bind fun z13 =>
(diff_Align_s1 z13 x17 x18 z1).bind fun y9 =>
(ckK .i64 (x17 + 1)).bind fun z14 =>
(diff_Align_s1 x12 z14 x18 z1).bind fun y10 =>
(at? a_ x12).bind fun y13 =>
(at? b_ x17).bind fun y14 =>
 if decide (y13 = y14) then
(ckK .i64 (x12 + 1)).bind fun z18 =>
(ckK .i64 (x17 + 1)).bind fun z19 =>
(diff_Align_s1 z18 z19 x18 z1).bind fun y15 =>
(ckK .i64 (y15 + 1)).bind fun z20 =>
 diff_Align.j5 z1 x12 x17 x18 z20
 else
 diff_Align.j5 z1 x12 x17 x18 (max y9 y10)
 else
 some (Step.done x18)

noncomputable def diff_Align.l2 (a_ : (List ByteArray)) (b_ : (List ByteArray)) (z1 : Int) (x12 : Int) (x13 : List Int) : Option (Step (Int × (List Int)) (List Int)) :=
 if decide (x12 ≥ 0) then
(ckK .i64 ((b_.length : Int) - 1)).bind fun z12 =>
(iter (fun s => diff_Align.l3 a_ b_ z1 x12 s.1 s.2) (z12, x13)).bind fun r3 =>
 diff_Align.j4 x12 r3
 else
 some (Step.done x13)

noncomputable def diff_Align (a_ : (List ByteArray)) (b_ : (List ByteArray)) : Option (List Int) :=
(ckK .i64 ((b_.length : Int) + 1)).bind fun z1 =>
(ckK .i64 ((a_.length : Int) + 1)).bind fun z2 =>
(ckK .i64 (z2 * z1)).bind fun z3 =>
(mk? 8 z3 (0 : Int)).bind fun y1 =>
(ckK .i64 ((a_.length : Int) - 1)).bind fun z10 =>
(iter (fun s => diff_Align.l2 a_ b_ z1 s.1 s.2) (z10, y1)).bind fun r2 =>
 diff_Align.j1 a_ b_ z1 r2

noncomputable def diff_Collector__Keep (c_ : Collector_diff) (n_ : Int) : Option Collector_diff :=
 if decide (n_ > 0) then
(ckK .i64 (c_.at_ + n_)).bind fun z1 =>
 some ({ hunks := c_.hunks, at_ := z1, open_ := false } : Collector_diff)
 else
 some c_

noncomputable def diff_Collector__Delete.j1 (c_ : Collector_diff) (line : ByteArray) (x1 : List Hunk) (x2 : Bool) : Option Collector_diff :=
(ckK .i64 ((x1.length : Int) - 1)).bind fun z1 =>
(at? x1 z1).bind fun y1 =>
(app? 16 y1.Old ([line] : List ByteArray)).bind fun y2 =>
(ckK .i64 (c_.at_ + 1)).bind fun z2 =>
(some (x1.set z1.toNat ({ At := y1.At, Old := y2, New := y1.New } : Hunk))).bind fun y3 =>
 some ({ hunks := y3, at_ := z2, open_ := x2 } : Collector_diff)

noncomputable def diff_Collector__Delete (c_ : Collector_diff) (line : ByteArray) : Option Collector_diff :=
 if !c_.open_ then
(app? 56 c_.hunks ([({ At := c_.at_, Old := [], New := [] } : Hunk)] : List Hunk)).bind fun y4 =>
 diff_Collector__Delete.j1 c_ line y4 true
 else
 diff_Collector__Delete.j1 c_ line c_.hunks c_.open_

noncomputable def diff_Collector__Insert.j1 (c_ : Collector_diff) (line : ByteArray) (x1 : List Hunk) (x2 : Bool) : Option Collector_diff :=
(ckK .i64 ((x1.length : Int) - 1)).bind fun z1 =>
(at? x1 z1).bind fun y1 =>
(app? 16 y1.New ([line] : List ByteArray)).bind fun y2 =>
(some (x1.set z1.toNat ({ At := y1.At, Old := y1.Old, New := y2 } : Hunk))).bind fun y3 =>
 some ({ hunks := y3, at_ := c_.at_, open_ := x2 } : Collector_diff)

noncomputable def diff_Collector__Insert (c_ : Collector_diff) (line : ByteArray) : Option Collector_diff :=
 if !c_.open_ then
(app? 56 c_.hunks ([({ At := c_.at_, Old := [], New := [] } : Hunk)] : List Hunk)).bind fun y4 =>
 diff_Collector__Insert.j1 c_ line y4 true
 else
 diff_Collector__Insert.j1 c_ line c_.hunks c_.open_

noncomputable def diff_Script.j1 (x1 : List Hunk) (x2 : Int) (x3 : Bool) : Option (Patch × Fault) :=
 some (({ Hunks := x1 } : Patch), ({ Code := 0, Index := 0 } : Fault))

noncomputable def diff_Script.j2 (x4 : Int) (x11 : Int) (x12 : Int) (x13 : List Hunk) (x14 : Int) (x15 : Bool) : Option (Step (Int × Int × Int × (List Hunk) × Int × Bool) ((List Hunk) × Int × Bool)) :=
(ckK .i64 (x4 + 1)).bind fun z1 =>
 some (Step.next (z1, x11, x12, x13, x14, x15))

noncomputable def diff_Script.l1 (a_ : (List ByteArray)) (b_ : (List ByteArray)) (y2 : (List Int)) (x4 : Int) (x5 : Int) (x6 : Int) (x7 : List Hunk) (x8 : Int) (x9 : Bool) : Option (Step (Int × Int × Int × (List Hunk) × Int × Bool) ((List Hunk) × Int × Bool)) :=
 if decide (x4 < (y2.length : Int)) then
(at? y2 x4).bind fun y3 =>
 if decide (y3 = 0) then
(diff_Collector__Keep ({ hunks := x7, at_ := x8, open_ := x9 } : Collector_diff) 1).bind fun y4 =>
(ckK .i64 (x6 + 1)).bind fun z2 =>
(ckK .i64 (x5 + 1)).bind fun z3 =>
 diff_Script.j2 x4 z3 z2 y4.hunks y4.at_ y4.open_
 else
 if decide (y3 = 1) then
(at? a_ x6).bind fun y5 =>
(diff_Collector__Delete ({ hunks := x7, at_ := x8, open_ := x9 } : Collector_diff) y5).bind fun y6 =>
(ckK .i64 (x6 + 1)).bind fun z4 =>
 diff_Script.j2 x4 x5 z4 y6.hunks y6.at_ y6.open_
 else
(at? b_ x5).bind fun y7 =>
(diff_Collector__Insert ({ hunks := x7, at_ := x8, open_ := x9 } : Collector_diff) y7).bind fun y8 =>
(ckK .i64 (x5 + 1)).bind fun z5 =>
 diff_Script.j2 x4 z5 x6 y8.hunks y8.at_ y8.open_
 else
 some (Step.done (x7, x8, x9))

noncomputable def diff_Script (a_ : (List ByteArray)) (b_ : (List ByteArray)) : Option (Patch × Fault) :=
(lines_Both a_ b_).bind fun y1 =>
 if !(decide (y1.Code = 0) && decide (y1.Index = 0)) then
 some (({ Hunks := [] } : Patch), y1)
 else
(diff_Align a_ b_).bind fun y2 =>
(iter (fun s => diff_Script.l1 a_ b_ y2 s.1 s.2.1 s.2.2.1 s.2.2.2.1 s.2.2.2.2.1 s.2.2.2.2.2) (0, 0, 0, [], 0, false)).bind fun r1 =>
 diff_Script.j1 r1.1 r1.2.1 r1.2.2

noncomputable def textpatch_End (h_ : Hunk) : Option Int :=
(ckK .i64 (h_.At + (h_.Old.length : Int))).bind fun z1 =>
 some z1

noncomputable def textpatch_Growth (h_ : Hunk) : Option Int :=
(ckK .i64 ((h_.New.length : Int) - (h_.Old.length : Int))).bind fun z1 =>
 some z1

noncomputable def commute_OldRanges.j1 (x1 : List Range_commute) : Option (List Range_commute) :=
 some x1

noncomputable def commute_OldRanges.l1 (p_ : Patch) (x2 : Int) (x3 : List Range_commute) : Option (Step (Int × (List Range_commute)) (List Range_commute)) :=
 if decide (x2 < (p_.Hunks.length : Int)) then
(at? p_.Hunks x2).bind fun y1 =>
(textpatch_End y1).bind fun y2 =>
(textpatch_Growth y1).bind fun y3 =>
(app? 24 x3 ([({ Low := y1.At, High := y2, Growth := y3 } : Range_commute)] : List Range_commute)).bind fun y4 =>
(ckK .i64 (x2 + 1)).bind fun z1 =>
 some (Step.next (z1, y4))
 else
 some (Step.done x3)

noncomputable def commute_OldRanges (p_ : Patch) : Option (List Range_commute) :=
(iter (fun s => commute_OldRanges.l1 p_ s.1 s.2) (0, [])).bind fun r1 =>
 commute_OldRanges.j1 r1

noncomputable def merge3_regions_s1 (a_ : RangeX_commute) (b_ : RangeX_commute) : Option Int :=
 if !decide (a_.Low = b_.Low) then
(ckK .i64 (a_.Low - b_.Low)).bind fun z1 =>
 some z1
 else
(ckK .i64 (a_.High - b_.High)).bind fun z2 =>
 some z2

noncomputable def commute_Touch_x (a_ : RangeX_commute) (b_ : RangeX_commute) : Option Bool :=
(if decide (a_.High ≥ b_.Low) then some (decide (b_.High ≥ a_.Low)) else some false).bind fun x1 =>
 some x1

noncomputable def merge3_regions.j1 (x1 : List RangeX_commute) : Option (List RangeX_commute) :=
 some x1

noncomputable def merge3_regions.j2 (x2 : Int) (x5 : List RangeX_commute) : Option (Step (Int × (List RangeX_commute)) (List RangeX_commute)) :=
(ckK .i64 (x2 + 1)).bind fun z1 =>
 some (Step.next (z1, x5))

noncomputable def merge3_regions.l1 (y4 : List RangeX_commute) (x2 : Int) (x3 : List RangeX_commute) : Option (Step (Int × (List RangeX_commute)) (List RangeX_commute)) :=
 if decide (x2 < (y4.length : Int)) then
(at? y4 x2).bind fun y5 =>
(if decide ((x3.length : Int) > 0) then (ckK .i64 ((x3.length : Int) - 1)).bind fun z2 =>
(at? x3 z2).bind fun y6 =>
(commute_Touch_x y6 y5).bind fun y7 =>
 some y7 else some false).bind fun x6 =>
 if x6 then
(ckK .i64 ((x3.length : Int) - 1)).bind fun z3 =>
(ckK .i64 ((x3.length : Int) - 1)).bind fun z4 =>
(at? x3 z4).bind fun y8 =>
(at? x3 z3).bind fun y9 =>
(some (x3.set z3.toNat ({ Low := y9.Low, High := max y8.High y5.High, Growth := y9.Growth } : RangeX_commute))).bind fun y10 =>
 merge3_regions.j2 x2 y10
 else
(app? 24 x3 ([y5] : List RangeX_commute)).bind fun y11 =>
 merge3_regions.j2 x2 y11
 else
 some (Step.done x3)

noncomputable def merge3_regions (p_ : Patch) (q_ : Patch) : Option (List RangeX_commute) :=
(commute_OldRanges p_).bind fun y1 =>
(commute_OldRanges q_).bind fun y2 =>
(app? 24 (y1.map toXRangeX_commute) (y2.map toXRangeX_commute)).bind fun y3 =>
(sortM merge3_regions_s1 y3).bind fun y4 =>
(iter (fun s => merge3_regions.l1 y4 s.1 s.2) (0, [])).bind fun r1 =>
 merge3_regions.j1 r1

noncomputable def merge3_merger__plain.j1 (l_ : (List ByteArray)) (x1 : List Chunk) : Option Merger_merge3 :=
(ckK .i64 ((x1.length : Int) - 1)).bind fun z1 =>
(at? x1 z1).bind fun y1 =>
(app? 16 y1.Lines l_).bind fun y2 =>
(some (x1.set z1.toNat ({ Conflict := y1.Conflict, Lines := y2, Base := y1.Base, Left := y1.Left, Right := y1.Right } : Chunk))).bind fun y3 =>
 some ({ out := y3 } : Merger_merge3)

noncomputable def merge3_merger__plain (m_ : Merger_merge3) (l_ : (List ByteArray)) : Option Merger_merge3 :=
 if decide ((l_.length : Int) = 0) then
 some m_
 else
(if decide ((m_.out.length : Int) = 0) then some true else (ckK .i64 ((m_.out.length : Int) - 1)).bind fun z2 =>
(at? m_.out z2).bind fun y4 =>
 some y4.Conflict).bind fun x2 =>
 if x2 then
(app? 104 m_.out ([({ Conflict := false, Lines := [], Base := [], Left := [], Right := [] } : Chunk)] : List Chunk)).bind fun y5 =>
 merge3_merger__plain.j1 l_ y5
 else
 merge3_merger__plain.j1 l_ m_.out

noncomputable def merge3_within.j1 (x1 : List Hunk) : Option (List Hunk) :=
 some x1

noncomputable def merge3_within.j2 (x2 : Int) (x5 : List Hunk) : Option (Step (Int × (List Hunk)) (List Hunk)) :=
(ckK .i64 (x2 + 1)).bind fun z1 =>
 some (Step.next (z1, x5))

noncomputable def merge3_within.l1 (p_ : Patch) (r_ : RangeX_commute) (x2 : Int) (x3 : List Hunk) : Option (Step (Int × (List Hunk)) (List Hunk)) :=
 if decide (x2 < (p_.Hunks.length : Int)) then
(at? p_.Hunks x2).bind fun y1 =>
(if decide (y1.At ≥ r_.Low) then (textpatch_End y1).bind fun y2 =>
 some (decide (y2 ≤ r_.High)) else some false).bind fun x6 =>
 if x6 then
(app? 56 x3 ([y1] : List Hunk)).bind fun y3 =>
 merge3_within.j2 x2 y3
 else
 merge3_within.j2 x2 x3
 else
 some (Step.done x3)

noncomputable def merge3_within (p_ : Patch) (r_ : RangeX_commute) : Option (List Hunk) :=
(iter (fun s => merge3_within.l1 p_ r_ s.1 s.2) (0, [])).bind fun r1 =>
 merge3_within.j1 r1

noncomputable def textpatch_Raw.j1 (text : (List ByteArray)) (high : Int) (x1 : List ByteArray) (x2 : Int) : Option (List ByteArray) :=
(cut? text x2 high).bind fun y1 =>
(app? 16 x1 y1).bind fun y2 =>
 some y2

noncomputable def textpatch_Raw.l1 (hunks : (List Hunk)) (text : (List ByteArray)) (x3 : Int) (x4 : List ByteArray) (x5 : Int) : Option (Step (Int × (List ByteArray) × Int) ((List ByteArray) × Int)) :=
 if decide (x3 < (hunks.length : Int)) then
(at? hunks x3).bind fun y3 =>
(cut? text x5 y3.At).bind fun y4 =>
(app? 16 x4 y4).bind fun y5 =>
(app? 16 y5 y3.New).bind fun y6 =>
(textpatch_End y3).bind fun y7 =>
(ckK .i64 (x3 + 1)).bind fun z1 =>
 some (Step.next (z1, y6, y7))
 else
 some (Step.done (x4, x5))

noncomputable def textpatch_Raw (hunks : (List Hunk)) (text : (List ByteArray)) (low : Int) (high : Int) : Option (List ByteArray) :=
(iter (fun s => textpatch_Raw.l1 hunks text s.1 s.2.1 s.2.2) (0, [], low)).bind fun r1 =>
 textpatch_Raw.j1 text high r1.1 r1.2

noncomputable def slices_Equal.j1 : Option Bool :=
 some true

noncomputable def slices_Equal.l1 (s1_ : (List ByteArray)) (s2_ : (List ByteArray)) (x1 : Int) : Option (Step Int (Bool ⊕ Unit)) :=
 if decide (x1 < (s1_.length : Int)) then
(at? s1_ x1).bind fun y1 =>
(at? s2_ x1).bind fun y2 =>
 if !decide (y1 = y2) then
 some (Step.done (Sum.inl false))
 else
(ckK .i64 (x1 + 1)).bind fun z1 =>
 some (Step.next z1)
 else
 some (Step.done (Sum.inr ()))

noncomputable def slices_Equal (s1_ : (List ByteArray)) (s2_ : (List ByteArray)) : Option Bool :=
 if !decide ((s1_.length : Int) = (s2_.length : Int)) then
 some false
 else
(iter (fun s => slices_Equal.l1 s1_ s2_ s) 0).bind fun r1 =>
(match r1 with
| .inl p => some p
| .inr _ => slices_Equal.j1)

noncomputable def slices_Clone (s_ : (List ByteArray)) : Option (List ByteArray) :=
 nilIf s_ (
 some []) (
(app? 16 ([] : List ByteArray) s_).bind fun y1 =>
 some y1)

noncomputable def merge3_Merge.j1 (base : (List ByteArray)) (x1 : Int) (x2 : List Chunk) : Option ((List Chunk) × Fault) :=
(cut? base x1 (base.length : Int)).bind fun y5 =>
(merge3_merger__plain ({ out := x2 } : Merger_merge3) y5).bind fun y6 =>
 some (y6.out, ({ Code := 0, Index := 0 } : Fault))

noncomputable def merge3_Merge.j2 (x3 : Int) (x7 : Int) (x8 : List Chunk) : Option (Step (Int × Int × (List Chunk)) (Int × (List Chunk))) :=
(ckK .i64 (x3 + 1)).bind fun z1 =>
 some (Step.next (z1, x7, x8))

noncomputable def merge3_Merge.l1 (base : (List ByteArray)) (y3 : Patch × Fault) (y4 : Patch × Fault) (y7 : (List RangeX_commute)) (x3 : Int) (x4 : Int) (x5 : List Chunk) : Option (Step (Int × Int × (List Chunk)) (Int × (List Chunk))) :=
 if decide (x3 < (y7.length : Int)) then
(at? y7 x3).bind fun y8 =>
(cut? base x4 y8.Low).bind fun y9 =>
(merge3_merger__plain ({ out := x5 } : Merger_merge3) y9).bind fun y10 =>
(merge3_within y3.1 y8).bind fun y11 =>
(merge3_within y4.1 y8).bind fun y12 =>
(textpatch_Raw y11 base y8.Low y8.High).bind fun y13 =>
(textpatch_Raw y12 base y8.Low y8.High).bind fun y14 =>
(if decide ((y12.length : Int) = 0) then some true else (slices_Equal y13 y14).bind fun y15 =>
 some y15).bind fun x9 =>
 if x9 then
(merge3_merger__plain y10 y13).bind fun y16 =>
 merge3_Merge.j2 x3 y8.High y16.out
 else
 if decide ((y11.length : Int) = 0) then
(merge3_merger__plain y10 y14).bind fun y17 =>
 merge3_Merge.j2 x3 y8.High y17.out
 else
(cut? base y8.Low y8.High).bind fun y18 =>
(slices_Clone y18).bind fun y19 =>
(app? 104 y10.out ([({ Conflict := true, Lines := [], Base := y19, Left := y13, Right := y14 } : Chunk)] : List Chunk)).bind fun y20 =>
 merge3_Merge.j2 x3 y8.High y20
 else
 some (Step.done (x4, x5))

noncomputable def merge3_Merge (base : (List ByteArray)) (left : (List ByteArray)) (right : (List ByteArray)) : Option ((List Chunk) × Fault) :=
(lines_Both base left).bind fun y1 =>
 if !(decide (y1.Code = 0) && decide (y1.Index = 0)) then
 some ([], y1)
 else
(lines_Second right (-3)).bind fun y2 =>
 if !(decide (y2.Code = 0) && decide (y2.Index = 0)) then
 some ([], y2)
 else
(diff_Script base left).bind fun y3 =>
(diff_Script base right).bind fun y4 =>
(merge3_regions y3.1 y4.1).bind fun y7 =>
(iter (fun s => merge3_Merge.l1 base y3 y4 y7 s.1 s.2.1 s.2.2) (0, 0, [])).bind fun r1 =>
 merge3_Merge.j1 base r1.1 r1.2

noncomputable def merge3_check.j1 : Option Fault :=
 some ({ Code := 0, Index := 0 } : Fault)

noncomputable def merge3_check.j2 (x1 : Int) : Option (Step Int (Fault ⊕ Unit)) :=
(ckK .i64 (x1 + 1)).bind fun z1 =>
 some (Step.next z1)

noncomputable def merge3_check.j3 (x1 : Int) (y1 : Chunk) : Option (Step Int (Fault ⊕ Unit)) :=
(ckK .i64 ((y1.Base.length : Int) + (y1.Left.length : Int))).bind fun z2 =>
(ckK .i64 (z2 + (y1.Right.length : Int))).bind fun z3 =>
(if y1.Conflict then some (decide ((y1.Lines.length : Int) > 0)) else some false).bind fun x3 =>
(if x3 then some true else (if !y1.Conflict then (if decide ((y1.Lines.length : Int) = 0) then some true else some (decide (z3 > 0))).bind fun x6 =>
 some x6 else some false).bind fun x5 =>
 some x5).bind fun x4 =>
 if x4 then
 some (Step.done (Sum.inl ({ Code := 5, Index := x1 } : Fault)))
 else
 merge3_check.j2 x1

noncomputable def merge3_check.l2 (x1 : Int) (y1 : Chunk) (x7 : Int) : Option (Step Int (Fault ⊕ Unit)) :=
 if decide (x7 < 4) then
(at? ([y1.Lines, y1.Base, y1.Left, y1.Right] : List (List ByteArray)) x7).bind fun y2 =>
(lines_Second y2 x1).bind fun y3 =>
 if !(decide (y3.Code = 0) && decide (y3.Index = 0)) then
 some (Step.done (Sum.inl y3))
 else
(ckK .i64 (x7 + 1)).bind fun z4 =>
 some (Step.next z4)
 else
 some (Step.done (Sum.inr ()))

noncomputable def merge3_check.l1 (chunks : (List Chunk)) (x1 : Int) : Option (Step Int (Fault ⊕ Unit)) :=
 if decide (x1 < (chunks.length : Int)) then
(at? chunks x1).bind fun y1 =>
(iter (fun s => merge3_check.l2 x1 y1 s) 0).bind fun r2 =>
(match r2 with
| .inl p => some (Step.done (Sum.inl p))
| .inr _ => merge3_check.j3 x1 y1)
 else
 some (Step.done (Sum.inr ()))

noncomputable def merge3_check (chunks : (List Chunk)) : Option Fault :=
 if decide ((chunks.length : Int) > 240) then
 some ({ Code := 2, Index := (-1) } : Fault)
 else
(iter (fun s => merge3_check.l1 chunks s) 0).bind fun r1 =>
(match r1 with
| .inl p => some p
| .inr _ => merge3_check.j1)

noncomputable def merge3_whole (l_ : (List ByteArray)) : Option ((List ByteArray) × Fault) :=
 if decide ((l_.length : Int) > 120) then
 some ([], ({ Code := 10, Index := (-1) } : Fault))
 else
 some (l_, ({ Code := 0, Index := 0 } : Fault))

noncomputable def merge3_Clean.j1 (x1 : List ByteArray) : Option ((List ByteArray) × Bool × Fault) :=
(merge3_whole x1).bind fun y2 =>
 some (y2.1, decide (y2.2.Code = 0) && decide (y2.2.Index = 0), y2.2)

noncomputable def merge3_Clean.l1 (chunks : (List Chunk)) (x2 : Int) (x3 : List ByteArray) : Option (Step (Int × (List ByteArray)) (((List ByteArray) × Bool × Fault) ⊕ (List ByteArray))) :=
 if decide (x2 < (chunks.length : Int)) then
(at? chunks x2).bind fun y3 =>
 if y3.Conflict then
 some (Step.done (Sum.inl ([], false, ({ Code := 0, Index := 0 } : Fault))))
 else
(app? 16 x3 y3.Lines).bind fun y4 =>
(ckK .i64 (x2 + 1)).bind fun z1 =>
 some (Step.next (z1, y4))
 else
 some (Step.done (Sum.inr x3))

noncomputable def merge3_Clean (chunks : (List Chunk)) : Option ((List ByteArray) × Bool × Fault) :=
(merge3_check chunks).bind fun y1 =>
 if !(decide (y1.Code = 0) && decide (y1.Index = 0)) then
 some ([], false, y1)
 else
(iter (fun s => merge3_Clean.l1 chunks s.1 s.2) (0, [])).bind fun r1 =>
(match r1 with
| .inl p => some p
| .inr p => merge3_Clean.j1 p)

noncomputable def textpatch_hunk.j1 (h_ : Hunk) (end_ : Int) : Option Int :=
(ckK .i64 ((h_.Old.length : Int) + (h_.New.length : Int))).bind fun z1 =>
(if decide (z1 = 0) then some true else some (decide (h_.At ≤ end_))).bind fun x2 =>
 if x2 then
 some 5
 else
(textpatch_End h_).bind fun y1 =>
 if decide (y1 > 120) then
 some 3
 else
 some 0

noncomputable def textpatch_hunk.l1 (h_ : Hunk) (x3 : Int) : Option (Step Int (Int ⊕ Unit)) :=
 if decide (x3 < 2) then
(at? ([h_.Old, h_.New] : List (List ByteArray)) x3).bind fun y2 =>
(lines_Validate y2).bind fun y3 =>
 if !(decide (y3.Code = 0) && decide (y3.Index = 0)) then
 some (Step.done (Sum.inl y3.Code))
 else
(ckK .i64 (x3 + 1)).bind fun z2 =>
 some (Step.next z2)
 else
 some (Step.done (Sum.inr ()))

noncomputable def textpatch_hunk (h_ : Hunk) (end_ : Int) : Option Int :=
(if decide (h_.At < 0) then some true else some (decide (h_.At > 120))).bind fun x1 =>
 if x1 then
 some 3
 else
(iter (fun s => textpatch_hunk.l1 h_ s) 0).bind fun r1 =>
(match r1 with
| .inl p => some p
| .inr _ => textpatch_hunk.j1 h_ end_)

noncomputable def textpatch_Validate.j1 : Option Fault :=
 some ({ Code := 0, Index := 0 } : Fault)

noncomputable def textpatch_Validate.l1 (p_ : Patch) (x1 : Int) (x2 : Int) : Option (Step (Int × Int) (Fault ⊕ Unit)) :=
 if decide (x1 < (p_.Hunks.length : Int)) then
(at? p_.Hunks x1).bind fun y1 =>
(textpatch_hunk y1 x2).bind fun y2 =>
 if !decide (y2 = 0) then
 some (Step.done (Sum.inl ({ Code := y2, Index := x1 } : Fault)))
 else
(textpatch_End y1).bind fun y3 =>
(ckK .i64 (x1 + 1)).bind fun z1 =>
 some (Step.next (z1, y3))
 else
 some (Step.done (Sum.inr ()))

noncomputable def textpatch_Validate (p_ : Patch) : Option Fault :=
 if decide ((p_.Hunks.length : Int) > 130) then
 some ({ Code := 2, Index := (-1) } : Fault)
 else
(iter (fun s => textpatch_Validate.l1 p_ s.1 s.2) (0, (-1))).bind fun r1 =>
(match r1 with
| .inl p => some p
| .inr _ => textpatch_Validate.j1)

noncomputable def lines_Occurs (text : (List ByteArray)) (part : (List ByteArray)) (at_ : Int) : Option Bool :=
(if decide (at_ ≥ 0) then some (decide (at_ ≤ (text.length : Int))) else some false).bind fun x1 =>
(if x1 then (ckK .i64 ((text.length : Int) - at_)).bind fun z1 =>
 some (decide ((part.length : Int) ≤ z1)) else some false).bind fun x2 =>
(if x2 then (ckK .i64 (at_ + (part.length : Int))).bind fun z2 =>
(cut? text at_ z2).bind fun y1 =>
(slices_Equal y1 part).bind fun y2 =>
 some y2 else some false).bind fun x3 =>
 some x3

noncomputable def textpatch_Apply.j1 (p_ : Patch) (text : (List ByteArray)) : Option ((List ByteArray) × Fault) :=
(textpatch_Raw p_.Hunks text 0 (text.length : Int)).bind fun y3 =>
 if decide ((y3.length : Int) > 120) then
 some ([], ({ Code := 10, Index := (-1) } : Fault))
 else
 some (y3, ({ Code := 0, Index := 0 } : Fault))

noncomputable def textpatch_Apply.l1 (p_ : Patch) (text : (List ByteArray)) (x1 : Int) : Option (Step Int (((List ByteArray) × Fault) ⊕ Unit)) :=
 if decide (x1 < (p_.Hunks.length : Int)) then
(at? p_.Hunks x1).bind fun y4 =>
(lines_Occurs text y4.Old y4.At).bind fun y5 =>
 if !y5 then
 some (Step.done (Sum.inl ([], ({ Code := 19, Index := x1 } : Fault))))
 else
(ckK .i64 (x1 + 1)).bind fun z1 =>
 some (Step.next z1)
 else
 some (Step.done (Sum.inr ()))

noncomputable def textpatch_Apply (p_ : Patch) (text : (List ByteArray)) : Option ((List ByteArray) × Fault) :=
(textpatch_Validate p_).bind fun y1 =>
 if !(decide (y1.Code = 0) && decide (y1.Index = 0)) then
 some ([], y1)
 else
(lines_Second text (-2)).bind fun y2 =>
 if !(decide (y2.Code = 0) && decide (y2.Index = 0)) then
 some ([], y2)
 else
(iter (fun s => textpatch_Apply.l1 p_ text s) 0).bind fun r1 =>
(match r1 with
| .inl p => some p
| .inr _ => textpatch_Apply.j1 p_ text)

noncomputable def stringslite_Index (s_ : ByteArray) : Option Int :=
 if decide ((⟨#[47]⟩ : ByteArray) = s_) then
 some 0
 else
(sAt? (⟨#[47]⟩ : ByteArray) 0).bind fun y1 =>
(stringslite_IndexByte s_ y1).bind fun y2 =>
 some y2

noncomputable def strings_Index (s_ : ByteArray) : Option Int :=
(stringslite_Index s_).bind fun y1 =>
 some y1

noncomputable def treepatch_Letter (c_ : Int) : Option Bool :=
(if decide (c_ ≥ 97) then some (decide (c_ ≤ 122)) else some false).bind fun x1 =>
(if x1 then some true else (if decide (c_ ≥ 65) then some (decide (c_ ≤ 90)) else some false).bind fun x3 =>
 some x3).bind fun x2 =>
(if x2 then some true else (if decide (c_ ≥ 48) then some (decide (c_ ≤ 57)) else some false).bind fun x5 =>
 some x5).bind fun x4 =>
(if x4 then some true else some (decide (c_ = 46))).bind fun x6 =>
(if x6 then some true else some (decide (c_ = 95))).bind fun x7 =>
(if x7 then some true else some (decide (c_ = 45))).bind fun x8 =>
 some x8

noncomputable def treepatch_ValidPath.j2 : Option Bool :=
 some false

noncomputable def treepatch_ValidPath.j3 : Option Bool :=
 some true

noncomputable def treepatch_ValidPath.j4 : Option Bool :=
 treepatch_ValidPath.j3

noncomputable def treepatch_ValidPath.l1 (x1 : ByteArray) (x4 : Int) : Option (Step Int (Unit ⊕ Unit)) :=
 if decide (x4 < (x1.size : Int)) then
(sAt? x1 x4).bind fun y1 =>
(treepatch_Letter y1).bind fun y2 =>
 if !y2 then
 some (Step.done (Sum.inl ()))
 else
(ckK .i64 (x4 + 1)).bind fun z1 =>
 some (Step.next z1)
 else
 some (Step.done (Sum.inr ()))

noncomputable def treepatch_ValidPath.j1 (x1 : ByteArray) : Option Bool :=
(if decide (x1 = (⟨#[]⟩ : ByteArray)) then some true else some (decide (x1 = (⟨#[46]⟩ : ByteArray)))).bind fun x2 =>
(if x2 then some true else some (decide (x1 = (⟨#[46, 46]⟩ : ByteArray)))).bind fun x3 =>
 if x3 then
 treepatch_ValidPath.j2
 else
(iter (fun s => treepatch_ValidPath.l1 x1 s) 0).bind fun r1 =>
(match r1 with
| .inl _ => treepatch_ValidPath.j2
| .inr _ => treepatch_ValidPath.j4)

noncomputable def treepatch_ValidPath.j5 : Option (Step ByteArray (Bool ⊕ ByteArray)) :=
 some (Step.done (Sum.inl false))

noncomputable def treepatch_ValidPath.j6 (x6 : ByteArray) (y3 : Int) : Option (Step ByteArray (Bool ⊕ ByteArray)) :=
(ckK .i64 (y3 + 1)).bind fun z3 =>
(scut? x6 z3 (x6.size : Int)).bind fun y5 =>
 some (Step.next y5)

noncomputable def treepatch_ValidPath.j7 (x6 : ByteArray) (y3 : Int) : Option (Step ByteArray (Bool ⊕ ByteArray)) :=
 treepatch_ValidPath.j6 x6 y3

noncomputable def treepatch_ValidPath.l3 (y4 : ByteArray) (x10 : Int) : Option (Step Int (Unit ⊕ Unit)) :=
 if decide (x10 < (y4.size : Int)) then
(sAt? y4 x10).bind fun y6 =>
(treepatch_Letter y6).bind fun y7 =>
 if !y7 then
 some (Step.done (Sum.inl ()))
 else
(ckK .i64 (x10 + 1)).bind fun z4 =>
 some (Step.next z4)
 else
 some (Step.done (Sum.inr ()))

noncomputable def treepatch_ValidPath.l2 (x6 : ByteArray) : Option (Step ByteArray (Bool ⊕ ByteArray)) :=
(strings_Index x6).bind fun y3 =>
 if decide (y3 < 0) then
 some (Step.done (Sum.inr x6))
 else
(ckK .i64 (y3 + 0)).bind fun z2 =>
(scut? x6 0 z2).bind fun y4 =>
(if decide (y4 = (⟨#[]⟩ : ByteArray)) then some true else some (decide (y4 = (⟨#[46]⟩ : ByteArray)))).bind fun x8 =>
(if x8 then some true else some (decide (y4 = (⟨#[46, 46]⟩ : ByteArray)))).bind fun x9 =>
 if x9 then
 treepatch_ValidPath.j5
 else
(iter (fun s => treepatch_ValidPath.l3 y4 s) 0).bind fun r3 =>
(match r3 with
| .inl _ => treepatch_ValidPath.j5
| .inr _ => treepatch_ValidPath.j7 x6 y3)

noncomputable def treepatch_ValidPath (path : ByteArray) : Option Bool :=
 if decide ((path.size : Int) > 60) then
 some false
 else
(iter (fun s => treepatch_ValidPath.l2 s) path).bind fun r2 =>
(match r2 with
| .inl p => some p
| .inr p => treepatch_ValidPath.j1 p)

noncomputable def stringslite_HasPrefix (s_ : ByteArray) (prefix_ : ByteArray) : Option Bool :=
(if decide ((s_.size : Int) ≥ (prefix_.size : Int)) then (scut? s_ 0 (prefix_.size : Int)).bind fun y1 =>
 some (decide (y1 = prefix_)) else some false).bind fun x1 =>
 some x1

noncomputable def strings_HasPrefix (s_ : ByteArray) (prefix_ : ByteArray) : Option Bool :=
(stringslite_HasPrefix s_ prefix_).bind fun y1 =>
 some y1

noncomputable def treepatch_Related (a_ : ByteArray) (b_ : ByteArray) : Option Bool :=
(if decide (a_ = b_) then some true else (cat? b_ (⟨#[47]⟩ : ByteArray)).bind fun z1 =>
(strings_HasPrefix a_ z1).bind fun y1 =>
 some y1).bind fun x1 =>
(if x1 then some true else (cat? a_ (⟨#[47]⟩ : ByteArray)).bind fun z2 =>
(strings_HasPrefix b_ z2).bind fun y2 =>
 some y2).bind fun x2 =>
 some x2

noncomputable def treepatch_Clash.j1 : Option Bool :=
 some false

noncomputable def treepatch_Clash.l1 (files : (List File)) (path : ByteArray) (except : Int) (x1 : Int) : Option (Step Int (Bool ⊕ Unit)) :=
 if decide (x1 < (files.length : Int)) then
(at? files x1).bind fun y1 =>
(if !decide (x1 = except) then (treepatch_Related y1.Path path).bind fun y2 =>
 some y2 else some false).bind fun x3 =>
 if x3 then
 some (Step.done (Sum.inl true))
 else
(ckK .i64 (x1 + 1)).bind fun z1 =>
 some (Step.next z1)
 else
 some (Step.done (Sum.inr ()))

noncomputable def treepatch_Clash (files : (List File)) (path : ByteArray) (except : Int) : Option Bool :=
(iter (fun s => treepatch_Clash.l1 files path except s) 0).bind fun r1 =>
(match r1 with
| .inl p => some p
| .inr _ => treepatch_Clash.j1)

noncomputable def treepatch_Validate.j1 : Option Fault :=
 some ({ Code := 0, Index := 0 } : Fault)

noncomputable def treepatch_Validate.l1 (t_ : FileTree) (x1 : Int) : Option (Step Int (Fault ⊕ Unit)) :=
 if decide (x1 < (t_.Files.length : Int)) then
(at? t_.Files x1).bind fun y1 =>
(treepatch_ValidPath y1.Path).bind fun y2 =>
 if !y2 then
 some (Step.done (Sum.inl ({ Code := 12, Index := x1 } : Fault)))
 else
(if decide (x1 > 0) then (ckK .i64 (x1 - 1)).bind fun z1 =>
(at? t_.Files z1).bind fun y3 =>
 some (sLt y1.Path y3.Path || decide (y1.Path = y3.Path)) else some false).bind fun x3 =>
 if x3 then
 some (Step.done (Sum.inl ({ Code := 5, Index := x1 } : Fault)))
 else
(cut? t_.Files 0 x1).bind fun y4 =>
(treepatch_Clash y4 y1.Path (-1)).bind fun y5 =>
 if y5 then
 some (Step.done (Sum.inl ({ Code := 7, Index := x1 } : Fault)))
 else
(lines_Second y1.Lines x1).bind fun y6 =>
 if !(decide (y6.Code = 0) && decide (y6.Index = 0)) then
 some (Step.done (Sum.inl y6))
 else
(ckK .i64 (x1 + 1)).bind fun z2 =>
 some (Step.next z2)
 else
 some (Step.done (Sum.inr ()))

noncomputable def treepatch_Validate (t_ : FileTree) : Option Fault :=
 if decide ((t_.Files.length : Int) > 24) then
 some ({ Code := 2, Index := (-1) } : Fault)
 else
(iter (fun s => treepatch_Validate.l1 t_ s) 0).bind fun r1 =>
(match r1 with
| .inl p => some p
| .inr _ => treepatch_Validate.j1)

noncomputable def treepatch_Second (t_ : FileTree) (index : Int) : Option Fault :=
(treepatch_Validate t_).bind fun y1 =>
 if !(decide (y1.Code = 0) && decide (y1.Index = 0)) then
 some ({ Code := y1.Code, Index := index } : Fault)
 else
 some ({ Code := 0, Index := 0 } : Fault)

noncomputable def treepatch_check (c_ : TreeChange) : Option Int :=
(if decide (c_.Kind < 1) then some true else some (decide (c_.Kind > 4))).bind fun x1 =>
 if x1 then
 some 4
 else
(treepatch_ValidPath c_.Path).bind fun y1 =>
(if !y1 then some true else (if decide (c_.Kind = 3) then (treepatch_ValidPath c_.To).bind fun y2 =>
 some !y2 else some false).bind fun x3 =>
 some x3).bind fun x2 =>
 if x2 then
 some 12
 else
(if !(decide (c_.Kind = 3)) then some (!decide (c_.To = (⟨#[]⟩ : ByteArray))) else some false).bind fun x4 =>
(if x4 then some true else (if decide (c_.Kind = 3) then (treepatch_Related c_.Path c_.To).bind fun y3 =>
 some y3 else some false).bind fun x6 =>
 some x6).bind fun x5 =>
 if x5 then
 some 5
 else
(if decide ((c_.Lines.length : Int) > 0) then (if decide (c_.Kind = 4) then some true else some (decide (c_.Kind = 3))).bind fun x8 =>
 some x8 else some false).bind fun x7 =>
 if x7 then
 some 5
 else
 if !decide (decide (c_.Kind = 4) = decide ((c_.Patch.Hunks.length : Int) > 0)) then
 some 5
 else
(lines_Validate c_.Lines).bind fun y4 =>
 if !(decide (y4.Code = 0) && decide (y4.Index = 0)) then
 some y4.Code
 else
(textpatch_Validate c_.Patch).bind fun y5 =>
 some y5.Code

noncomputable def treepatch_ValidatePatch.j1 : Option Fault :=
 some ({ Code := 0, Index := 0 } : Fault)

noncomputable def treepatch_ValidatePatch.l1 (p_ : TreePatch) (x1 : Int) : Option (Step Int (Fault ⊕ Unit)) :=
 if decide (x1 < (p_.Changes.length : Int)) then
(at? p_.Changes x1).bind fun y1 =>
(treepatch_check y1).bind fun y2 =>
 if !decide (y2 = 0) then
 some (Step.done (Sum.inl ({ Code := y2, Index := x1 } : Fault)))
 else
(ckK .i64 (x1 + 1)).bind fun z1 =>
 some (Step.next z1)
 else
 some (Step.done (Sum.inr ()))

noncomputable def treepatch_ValidatePatch (p_ : TreePatch) : Option Fault :=
 if decide ((p_.Changes.length : Int) > 30) then
 some ({ Code := 2, Index := (-1) } : Fault)
 else
(iter (fun s => treepatch_ValidatePatch.l1 p_ s) 0).bind fun r1 =>
(match r1 with
| .inl p => some p
| .inr _ => treepatch_ValidatePatch.j1)

noncomputable def treepatch_CopyTree.j1 (x1 : List File) : Option FileTree :=
 some ({ Files := x1 } : FileTree)

noncomputable def treepatch_CopyTree.l1 (t_ : FileTree) (x2 : Int) (x3 : List File) : Option (Step (Int × (List File)) (List File)) :=
 if decide (x2 < (t_.Files.length : Int)) then
(at? t_.Files x2).bind fun y1 =>
(slices_Clone y1.Lines).bind fun y2 =>
(app? 40 x3 ([({ Path := y1.Path, Lines := y2 } : File)] : List File)).bind fun y3 =>
(ckK .i64 (x2 + 1)).bind fun z1 =>
 some (Step.next (z1, y3))
 else
 some (Step.done x3)

noncomputable def treepatch_CopyTree (t_ : FileTree) : Option FileTree :=
(iter (fun s => treepatch_CopyTree.l1 t_ s.1 s.2) (0, [])).bind fun r1 =>
 treepatch_CopyTree.j1 r1

noncomputable def bytealg_CompareString (a_ : ByteArray) (b_ : ByteArray) : Option Int :=
 some (cmpB a_ b_)

noncomputable def strings_Compare (a_ : ByteArray) (b_ : ByteArray) : Option Int :=
(bytealg_CompareString a_ b_).bind fun y1 =>
 some y1

noncomputable def treepatch_Find_s1 (f : File) (path : ByteArray) : Option Int :=
(strings_Compare f.Path path).bind fun y1 =>
 some y1

noncomputable def treepatch_Find.j1 (files : (List File)) (path : ByteArray) (x1 : Int) : Option (Int × Bool) :=
(if decide (x1 < (files.length : Int)) then (at? files x1).bind fun y1 =>
(treepatch_Find_s1 y1 path).bind fun y2 =>
 some (decide (y2 = 0)) else some false).bind fun x2 =>
 some (x1, x2)

noncomputable def treepatch_Find.l1 (files : (List File)) (path : ByteArray) (x3 : Int) (x4 : Int) : Option (Step (Int × Int) Int) :=
 if decide (x4 < x3) then
(ckK .i64 (x4 + x3)).bind fun z1 =>
(ckK .u64 z1).bind fun z2 =>
(shr? .u64 z2 1).bind fun z3 =>
(ckK .i64 z3).bind fun z4 =>
(at? files z4).bind fun y3 =>
(treepatch_Find_s1 y3 path).bind fun y4 =>
 if decide (y4 < 0) then
(ckK .i64 (z4 + 1)).bind fun z5 =>
 some (Step.next (x3, z5))
 else
 some (Step.next (z4, x4))
 else
 some (Step.done x4)

noncomputable def treepatch_Find (files : (List File)) (path : ByteArray) : Option (Int × Bool) :=
(iter (fun s => treepatch_Find.l1 files path s.1 s.2) ((files.length : Int), 0)).bind fun r1 =>
 treepatch_Find.j1 files path r1

noncomputable def treepatch_Put.j1 (l_ : (List ByteArray)) (y1 : Int × Bool) (x1 : List File) : Option FileTree :=
(slices_Clone l_).bind fun y2 =>
(at? x1 y1.1).bind fun y3 =>
(some (x1.set y1.1.toNat ({ Path := y3.Path, Lines := y2 } : File))).bind fun y4 =>
 some ({ Files := y4 } : FileTree)

noncomputable def treepatch_Put (t_ : FileTree) (path : ByteArray) (l_ : (List ByteArray)) : Option FileTree :=
(treepatch_Find t_.Files path).bind fun y1 =>
 if !y1.2 then
(ins? 40 t_.Files y1.1 ([({ Path := path, Lines := [] } : File)] : List File)).bind fun y5 =>
 treepatch_Put.j1 l_ y1 y5
 else
 treepatch_Put.j1 l_ y1 t_.Files

noncomputable def treepatch_make1.j1 (x1 : List File) : Option (Int × FileTree) :=
 some (0, ({ Files := x1 } : FileTree))

noncomputable def treepatch_make1 (c_ : TreeChange) (t_ : FileTree) : Option (Int × FileTree) :=
(treepatch_Find t_.Files c_.Path).bind fun y1 =>
 if decide (c_.Kind = 1) then
(treepatch_Clash t_.Files c_.Path (-1)).bind fun y2 =>
 if y2 then
 some (7, t_)
 else
 if decide ((t_.Files.length : Int) ≥ 24) then
 some (14, t_)
 else
(treepatch_Put t_ c_.Path c_.Lines).bind fun y3 =>
 some (0, y3)
 else
 if !y1.2 then
 some (6, t_)
 else
(at? t_.Files y1.1).bind fun y4 =>
 if decide (c_.Kind = 2) then
(slices_Equal y4.Lines c_.Lines).bind fun y5 =>
 if !y5 then
 some (19, t_)
 else
(ckK .i64 (y1.1 + 1)).bind fun z1 =>
(del? t_.Files y1.1 z1).bind fun y6 =>
 treepatch_make1.j1 y6
 else
 if decide (c_.Kind = 3) then
(treepatch_Clash t_.Files c_.To y1.1).bind fun y7 =>
 if y7 then
 some (7, t_)
 else
(ckK .i64 (y1.1 + 1)).bind fun z2 =>
(del? t_.Files y1.1 z2).bind fun y8 =>
(treepatch_Put ({ Files := y8 } : FileTree) c_.To y4.Lines).bind fun y9 =>
 treepatch_make1.j1 y9.Files
 else
(textpatch_Apply c_.Patch y4.Lines).bind fun y10 =>
 if !(decide (y10.2.Code = 0) && decide (y10.2.Index = 0)) then
 some (y10.2.Code, t_)
 else
(at? t_.Files y1.1).bind fun y11 =>
(some (t_.Files.set y1.1.toNat ({ Path := y11.Path, Lines := y10.1 } : File))).bind fun y12 =>
 treepatch_make1.j1 y12

noncomputable def treepatch_Apply.j1 (x1 : List File) : Option (FileTree × Fault) :=
 some (({ Files := x1 } : FileTree), ({ Code := 0, Index := 0 } : Fault))

noncomputable def treepatch_Apply.l1 (p_ : TreePatch) (x2 : Int) (x3 : List File) : Option (Step (Int × (List File)) ((FileTree × Fault) ⊕ (List File))) :=
 if decide (x2 < (p_.Changes.length : Int)) then
(at? p_.Changes x2).bind fun y4 =>
(treepatch_make1 y4 ({ Files := x3 } : FileTree)).bind fun y5 =>
 if !decide (y5.1 = 0) then
 some (Step.done (Sum.inl (({ Files := [] } : FileTree), ({ Code := y5.1, Index := x2 } : Fault))))
 else
(ckK .i64 (x2 + 1)).bind fun z1 =>
 some (Step.next (z1, y5.2.Files))
 else
 some (Step.done (Sum.inr x3))

noncomputable def treepatch_Apply (p_ : TreePatch) (t_ : FileTree) : Option (FileTree × Fault) :=
(treepatch_ValidatePatch p_).bind fun y1 =>
 if !(decide (y1.Code = 0) && decide (y1.Index = 0)) then
 some (({ Files := [] } : FileTree), y1)
 else
(treepatch_Second t_ (-2)).bind fun y2 =>
 if !(decide (y2.Code = 0) && decide (y2.Index = 0)) then
 some (({ Files := [] } : FileTree), y2)
 else
(treepatch_CopyTree t_).bind fun y3 =>
(iter (fun s => treepatch_Apply.l1 p_ s.1 s.2) (0, y3.Files)).bind fun r1 =>
(match r1 with
| .inl p => some p
| .inr p => treepatch_Apply.j1 p)

noncomputable def changeforgetop_h11Edit (path : ByteArray) (p_ : Patch) : Option TreePatch :=
 some ({ Changes := ([({ Kind := 4, Path := path, To := ByteArray.empty, Lines := [], Patch := p_ } : TreeChange)] : List TreeChange) } : TreePatch)

noncomputable def changeforgeequal_Strings.j1 : Option Bool :=
 some true

noncomputable def changeforgeequal_Strings.l1 (a_ : (List ByteArray)) (b_ : (List ByteArray)) (x1 : Int) : Option (Step Int (Bool ⊕ Unit)) :=
 if decide (x1 < (a_.length : Int)) then
(at? a_ x1).bind fun y1 =>
(at? b_ x1).bind fun y2 =>
 if !decide (y1 = y2) then
 some (Step.done (Sum.inl false))
 else
(ckK .i64 (x1 + 1)).bind fun z1 =>
 some (Step.next z1)
 else
 some (Step.done (Sum.inr ()))

noncomputable def changeforgeequal_Strings (a_ : (List ByteArray)) (b_ : (List ByteArray)) : Option Bool :=
 if !decide ((a_.length : Int) = (b_.length : Int)) then
 some false
 else
(iter (fun s => changeforgeequal_Strings.l1 a_ b_ s) 0).bind fun r1 =>
(match r1 with
| .inl p => some p
| .inr _ => changeforgeequal_Strings.j1)

noncomputable def changeforgeequal_Tree.j1 : Option Bool :=
 some true

noncomputable def changeforgeequal_Tree.l1 (a_ : FileTree) (b_ : FileTree) (x1 : Int) : Option (Step Int (Bool ⊕ Unit)) :=
 if decide (x1 < (a_.Files.length : Int)) then
(at? a_.Files x1).bind fun y1 =>
(at? b_.Files x1).bind fun y2 =>
(if !decide (y1.Path = y2.Path) then some true else (at? a_.Files x1).bind fun y3 =>
(at? b_.Files x1).bind fun y4 =>
(changeforgeequal_Strings y3.Lines y4.Lines).bind fun y5 =>
 some !y5).bind fun x3 =>
 if x3 then
 some (Step.done (Sum.inl false))
 else
(ckK .i64 (x1 + 1)).bind fun z1 =>
 some (Step.next z1)
 else
 some (Step.done (Sum.inr ()))

noncomputable def changeforgeequal_Tree (a_ : FileTree) (b_ : FileTree) : Option Bool :=
 if !decide ((a_.Files.length : Int) = (b_.Files.length : Int)) then
 some false
 else
(iter (fun s => changeforgeequal_Tree.l1 a_ b_ s) 0).bind fun r1 =>
(match r1 with
| .inl p => some p
| .inr _ => changeforgeequal_Tree.j1)

noncomputable def changeforgetop_h11Works : Option Bool :=
(textpatch_Apply ({ Hunks := ([({ At := 0, Old := ([(⟨#[97]⟩ : ByteArray)] : List ByteArray), New := ([(⟨#[98]⟩ : ByteArray)] : List ByteArray) } : Hunk)] : List Hunk) } : Patch) ([(⟨#[97]⟩ : ByteArray)] : List ByteArray)).bind fun y1 =>
(changeforgetop_h11Edit (⟨#[120]⟩ : ByteArray) ({ Hunks := ([({ At := 0, Old := ([(⟨#[97]⟩ : ByteArray)] : List ByteArray), New := ([(⟨#[98]⟩ : ByteArray)] : List ByteArray) } : Hunk)] : List Hunk) } : Patch)).bind fun y2 =>
(treepatch_Apply y2 ({ Files := ([({ Path := (⟨#[120]⟩ : ByteArray), Lines := ([(⟨#[97]⟩ : ByteArray)] : List ByteArray) } : File)] : List File) } : FileTree)).bind fun y3 =>
(if decide (y1.2.Code = 0) then some (decide (y3.2.Code = 0)) else some false).bind fun x1 =>
(if x1 then (changeforgeequal_Strings y1.1 ([(⟨#[98]⟩ : ByteArray)] : List ByteArray)).bind fun y4 =>
 some y4 else some false).bind fun x2 =>
(if x2 then (changeforgeequal_Tree y3.1 ({ Files := ([({ Path := (⟨#[120]⟩ : ByteArray), Lines := ([(⟨#[98]⟩ : ByteArray)] : List ByteArray) } : File)] : List File) } : FileTree)).bind fun y5 =>
 some y5 else some false).bind fun x3 =>
 some x3

noncomputable def blame_Annotate.j2 (x1 : List Int) : Option ((List Int) × Fault) :=
 some (x1, ({ Code := 0, Index := 0 } : Fault))

noncomputable def blame_Annotate.j3 (x2 : Int) (x5 : List Int) : Option (Step (Int × (List Int)) (List Int)) :=
(ckK .i64 (x2 + 1)).bind fun z1 =>
 some (Step.next (z1, x5))

noncomputable def blame_Annotate.j4 (x2 : Int) (x6 : List Int) : Option (Step (Int × (List Int)) (List Int)) :=
 blame_Annotate.j3 x2 x6

noncomputable def blame_Annotate.j5 (x7 : Int) (x11 : List Int) (x12 : List Int) : Option (Step (Int × (List Int) × (List Int)) (List Int)) :=
(ckK .i64 (x7 + 1)).bind fun z3 =>
 some (Step.next (z3, x11, x12))

noncomputable def blame_Annotate.j6 (x7 : Int) (x9 : List Int) (x13 : List Int) : Option (Step (Int × (List Int) × (List Int)) (List Int)) :=
(cut? x9 1 (x9.length : Int)).bind fun y7 =>
 blame_Annotate.j5 x7 x13 y7

noncomputable def blame_Annotate.l2 (x2 : Int) (y4 : (List Int)) (x7 : Int) (x8 : List Int) (x9 : List Int) : Option (Step (Int × (List Int) × (List Int)) (List Int)) :=
 if decide (x7 < (y4.length : Int)) then
(at? y4 x7).bind fun y5 =>
 if decide (y5 = 2) then
(app? 8 x8 ([x2] : List Int)).bind fun y6 =>
 blame_Annotate.j5 x7 y6 x9
 else
 if decide (y5 = 0) then
(at? x9 0).bind fun y8 =>
(app? 8 x8 ([y8] : List Int)).bind fun y9 =>
 blame_Annotate.j6 x7 x9 y9
 else
 blame_Annotate.j6 x7 x9 x8
 else
 some (Step.done x8)

noncomputable def blame_Annotate.l1 (versions : (List (List ByteArray))) (x2 : Int) (x3 : List Int) : Option (Step (Int × (List Int)) (List Int)) :=
 if decide (x2 < (versions.length : Int)) then
(at? versions x2).bind fun y1 =>
 if decide (x2 = 0) then
(mk? 8 (y1.length : Int) (0 : Int)).bind fun y2 =>
 blame_Annotate.j3 x2 y2
 else
(ckK .i64 (x2 - 1)).bind fun z2 =>
(at? versions z2).bind fun y3 =>
(diff_Align y3 y1).bind fun y4 =>
(iter (fun s => blame_Annotate.l2 x2 y4 s.1 s.2.1 s.2.2) (0, [], x3)).bind fun r2 =>
 blame_Annotate.j4 x2 r2
 else
 some (Step.done x3)

noncomputable def blame_Annotate.j1 (versions : (List (List ByteArray))) : Option ((List Int) × Fault) :=
(iter (fun s => blame_Annotate.l1 versions s.1 s.2) (0, [])).bind fun r1 =>
 blame_Annotate.j2 r1

noncomputable def blame_Annotate.l3 (versions : (List (List ByteArray))) (x14 : Int) : Option (Step Int (((List Int) × Fault) ⊕ Unit)) :=
 if decide (x14 < (versions.length : Int)) then
(at? versions x14).bind fun y10 =>
(lines_Second y10 x14).bind fun y11 =>
 if !(decide (y11.Code = 0) && decide (y11.Index = 0)) then
 some (Step.done (Sum.inl ([], y11)))
 else
(ckK .i64 (x14 + 1)).bind fun z4 =>
 some (Step.next z4)
 else
 some (Step.done (Sum.inr ()))

noncomputable def blame_Annotate (versions : (List (List ByteArray))) : Option ((List Int) × Fault) :=
 if decide ((versions.length : Int) > 16) then
 some ([], ({ Code := 2, Index := (-1) } : Fault))
 else
(iter (fun s => blame_Annotate.l3 versions s) 0).bind fun r3 =>
(match r3 with
| .inl p => some p
| .inr _ => blame_Annotate.j1 versions)

noncomputable def diff_Distance.j1 (x1 : Int) : Option (Int × Fault) :=
 some (x1, ({ Code := 0, Index := 0 } : Fault))

noncomputable def diff_Distance.j2 (x2 : Int) (x5 : Int) : Option (Step (Int × Int) Int) :=
(ckK .i64 (x2 + 1)).bind fun z1 =>
 some (Step.next (z1, x5))

noncomputable def diff_Distance.l1 (y2 : (List Int)) (x2 : Int) (x3 : Int) : Option (Step (Int × Int) Int) :=
 if decide (x2 < (y2.length : Int)) then
(at? y2 x2).bind fun y3 =>
 if !decide (y3 = 0) then
(ckK .i64 (x3 + 1)).bind fun z2 =>
 diff_Distance.j2 x2 z2
 else
 diff_Distance.j2 x2 x3
 else
 some (Step.done x3)

noncomputable def diff_Distance (a_ : (List ByteArray)) (b_ : (List ByteArray)) : Option (Int × Fault) :=
(lines_Both a_ b_).bind fun y1 =>
 if !(decide (y1.Code = 0) && decide (y1.Index = 0)) then
 some (0, y1)
 else
(diff_Align a_ b_).bind fun y2 =>
(iter (fun s => diff_Distance.l1 y2 s.1 s.2) (0, 0)).bind fun r1 =>
 diff_Distance.j1 r1

noncomputable def changeforgetop_h11Has.j1 : Option Bool :=
 some false

noncomputable def changeforgetop_h11Has.l1 (l_ : (List ByteArray)) (s_ : ByteArray) (x1 : Int) : Option (Step Int (Bool ⊕ Unit)) :=
 if decide (x1 < (l_.length : Int)) then
(at? l_ x1).bind fun y1 =>
 if decide (y1 = s_) then
 some (Step.done (Sum.inl true))
 else
(ckK .i64 (x1 + 1)).bind fun z1 =>
 some (Step.next z1)
 else
 some (Step.done (Sum.inr ()))

noncomputable def changeforgetop_h11Has (l_ : (List ByteArray)) (s_ : ByteArray) : Option Bool :=
(iter (fun s => changeforgetop_h11Has.l1 l_ s_ s) 0).bind fun r1 =>
(match r1 with
| .inl p => some p
| .inr _ => changeforgetop_h11Has.j1)

noncomputable def changeforgetop_TopMergedTextsAreBlamed.j1 (y5 : Int × Fault) (y6 : Int × Fault) : Option Bool :=
(if decide (y5.1 ≤ y6.1) then (changeforgetop_h11Works).bind fun y7 =>
 some y7 else some false).bind fun x6 =>
 some x6

noncomputable def changeforgetop_TopMergedTextsAreBlamed.j3 (x7 : Int) (x10 : Bool) : Option (Step Int (Bool ⊕ Unit)) :=
 if !x10 then
 some (Step.done (Sum.inl false))
 else
(ckK .i64 (x7 + 1)).bind fun z1 =>
 some (Step.next z1)

noncomputable def changeforgetop_TopMergedTextsAreBlamed.j2 (right : (List ByteArray)) (y2 : (List ByteArray) × Bool × Fault) (y4 : (List Int) × Fault) (x7 : Int) (x9 : Bool) : Option (Step Int (Bool ⊕ Unit)) :=
(at? y4.1 x7).bind fun y10 =>
 if decide (y10 > 1) then
(if x9 then some true else (at? y2.1 x7).bind fun y11 =>
(changeforgetop_h11Has right y11).bind fun y12 =>
 some y12).bind fun x11 =>
 changeforgetop_TopMergedTextsAreBlamed.j3 x7 x11
 else
 changeforgetop_TopMergedTextsAreBlamed.j3 x7 x9

noncomputable def changeforgetop_TopMergedTextsAreBlamed.l1 (base : (List ByteArray)) (left : (List ByteArray)) (right : (List ByteArray)) (y2 : (List ByteArray) × Bool × Fault) (y4 : (List Int) × Fault) (x7 : Int) : Option (Step Int (Bool ⊕ Unit)) :=
 if decide (x7 < (y4.1.length : Int)) then
(at? y2.1 x7).bind fun y8 =>
(changeforgetop_h11Has base y8).bind fun y9 =>
(at? y4.1 x7).bind fun y13 =>
 if decide (y13 > 0) then
(if y9 then (at? y4.1 x7).bind fun y14 =>
 some (decide (y14 = 2)) else some false).bind fun x12 =>
(if x12 then some true else (at? y2.1 x7).bind fun y15 =>
(changeforgetop_h11Has left y15).bind fun y16 =>
 some y16).bind fun x13 =>
 changeforgetop_TopMergedTextsAreBlamed.j2 right y2 y4 x7 x13
 else
 changeforgetop_TopMergedTextsAreBlamed.j2 right y2 y4 x7 y9
 else
 some (Step.done (Sum.inr ()))

noncomputable def changeforgetop_TopMergedTextsAreBlamed (base : (List ByteArray)) (left : (List ByteArray)) (right : (List ByteArray)) : Option Bool :=
(merge3_Merge base left right).bind fun y1 =>
(merge3_Clean y1.1).bind fun y2 =>
(if !decide (y1.2.Code = 0) then some true else some (!decide (y2.2.2.Code = 0))).bind fun x1 =>
(if x1 then some true else some !y2.2.1).bind fun x2 =>
 if x2 then
(changeforgetop_h11Works).bind fun y3 =>
 some y3
 else
(blame_Annotate ([base, left, y2.1] : List (List ByteArray))).bind fun y4 =>
(diff_Distance left y2.1).bind fun y5 =>
(diff_Distance base right).bind fun y6 =>
(if !decide (y4.2.Code = 0) then some true else some (!decide (y5.2.Code = 0))).bind fun x3 =>
(if x3 then some true else some (!decide (y6.2.Code = 0))).bind fun x4 =>
(if x4 then some true else some (!decide ((y4.1.length : Int) = (y2.1.length : Int)))).bind fun x5 =>
 if x5 then
 some false
 else
(iter (fun s => changeforgetop_TopMergedTextsAreBlamed.l1 base left right y2 y4 s) 0).bind fun r1 =>
(match r1 with
| .inl p => some p
| .inr _ => changeforgetop_TopMergedTextsAreBlamed.j1 y5 y6)

noncomputable def rename_Similarity (a_ : (List ByteArray)) (b_ : (List ByteArray)) : Option (Int × Fault) :=
(diff_Distance a_ b_).bind fun y1 =>
 if !(decide (y1.2.Code = 0) && decide (y1.2.Index = 0)) then
 some (0, y1.2)
 else
(ckK .i64 ((a_.length : Int) + (b_.length : Int))).bind fun z1 =>
 if decide (z1 = 0) then
 some (100, ({ Code := 0, Index := 0 } : Fault))
 else
(ckK .i64 (z1 - y1.1)).bind fun z2 =>
(ckK .i64 (100 * z2)).bind fun z3 =>
(quo? .i64 z3 z1).bind fun z4 =>
 some (z4, ({ Code := 0, Index := 0 } : Fault))

noncomputable def changeforgelaw2_half : Option Bool :=
(rename_Similarity ([(⟨#[120]⟩ : ByteArray), (⟨#[121]⟩ : ByteArray)] : List ByteArray) ([(⟨#[121]⟩ : ByteArray), (⟨#[122]⟩ : ByteArray)] : List ByteArray)).bind fun y1 =>
(if decide (y1.2.Code = 0) then some (decide (y1.1 = 50)) else some false).bind fun x1 =>
 some x1

end Go.Dc
