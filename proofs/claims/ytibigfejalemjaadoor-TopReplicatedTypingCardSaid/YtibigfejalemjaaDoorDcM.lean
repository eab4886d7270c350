/- The functions as pure models. -/
import Derived.Test.YtibigfejalemjaaDoorDcTy
import Derived.Test.YtibigfejalemjaaDoorDcR
namespace Go.Dc
open Go
set_option linter.unusedVariables false
noncomputable def stringslite_IndexByte (s_ : ByteArray) (c_ : Int) : Option Int :=
 some (idxB s_ c_)

noncomputable def strings_IndexByte (s_ : ByteArray) (c_ : Int) : Option Int :=
(stringslite_IndexByte s_ c_).bind fun y1 =>
 some y1

noncomputable def lines_Validate.j1 : Option Fault :=
 some ({ Code := 0, Index := 0 } : Fault)

noncomputable def lines_Validate.l1 (lines : (List ByteArray)) (x1 : Int) : Option (Step Int (Fault ⊕ Unit)) :=
 if decide (x1 < (lines.length : Int)) then
(at? lines x1).bind fun y1 =>
 if decide ((y1.size : Int) > 80) then
 some (Step.done (Sum.inl ({ Code := 2, Index := x1 } : Fault)))
 else
(strings_IndexByte y1 10).bind fun y2 =>
 if decide (y2 ≥ 0) then
 some (Step.done (Sum.inl ({ Code := 5, Index := x1 } : Fault)))
 else
(ckK .i64 (x1 + 1)).bind fun z1 =>
 some (Step.next z1)
 else
 some (Step.done (Sum.inr ()))

noncomputable def lines_Validate (lines : (List ByteArray)) : Option Fault :=
 if decide ((lines.length : Int) > 120) then
 some ({ Code := 2, Index := (-1) } : Fault)
 else
(iter (fun s => lines_Validate.l1 lines s) 0).bind fun r1 =>
(match r1 with
| .inl p => some p
| .inr _ => lines_Validate.j1)

noncomputable def changeforgeequal_Strings.j1 : Option Bool :=
 some true

noncomputable def changeforgeequal_Strings.l1 (a_ : (List ByteArray)) (b_ : (List ByteArray)) (x1 : Int) : Option (Step Int (Bool ⊕ Unit)) :=
 if decide (x1 < (a_.length : Int)) then
(at? a_ x1).bind fun y1 =>
(at? b_ x1).bind fun y2 =>
 if !decide (y1 = y2) then
 some (Step.done (Sum.inl false))
 else
(ckK .i64 (x1 + 1)).bind fun z1 =>
 some (Step.next z1)
 else
 some (Step.done (Sum.inr ()))

noncomputable def changeforgeequal_Strings (a_ : (List ByteArray)) (b_ : (List ByteArray)) : Option Bool :=
 if !decide ((a_.length : Int) = (b_.length : Int)) then
 some false
 else
(iter (fun s => changeforgeequal_Strings.l1 a_ b_ s) 0).bind fun r1 =>
(match r1 with
| .inl p => some p
| .inr _ => changeforgeequal_Strings.j1)

noncomputable def textpatch_End (h_ : Hunk) : Option Int :=
(ckK .i64 (h_.At + (h_.Old.length : Int))).bind fun z1 =>
 some z1

noncomputable def textpatch_hunk.j1 (h_ : Hunk) (end_ : Int) : Option Int :=
(ckK .i64 ((h_.Old.length : Int) + (h_.New.length : Int))).bind fun z1 =>
(if decide (z1 = 0) then some true else some (decide (h_.At ≤ end_))).bind fun x2 =>
 if x2 then
 some 5
 else
(textpatch_End h_).bind fun y1 =>
 if decide (y1 > 120) then
 some 3
 else
 some 0

noncomputable def textpatch_hunk.l1 (h_ : Hunk) (x3 : Int) : Option (Step Int (Int ⊕ Unit)) :=
 if decide (x3 < 2) then
(at? ([h_.Old, h_.New] : List (List ByteArray)) x3).bind fun y2 =>
(lines_Validate y2).bind fun y3 =>
 if !(decide (y3.Code = 0) && decide (y3.Index = 0)) then
 some (Step.done (Sum.inl y3.Code))
 else
(ckK .i64 (x3 + 1)).bind fun z2 =>
 some (Step.next z2)
 else
 some (Step.done (Sum.inr ()))

noncomputable def textpatch_hunk (h_ : Hunk) (end_ : Int) : Option Int :=
(if decide (h_.At < 0) then some true else some (decide (h_.At > 120))).bind fun x1 =>
 if x1 then
 some 3
 else
(iter (fun s => textpatch_hunk.l1 h_ s) 0).bind fun r1 =>
(match r1 with
| .inl p => some p
| .inr _ => textpatch_hunk.j1 h_ end_)

noncomputable def textpatch_Validate.j1 : Option Fault :=
 some ({ Code := 0, Index := 0 } : Fault)

noncomputable def textpatch_Validate.l1 (p_ : Patch) (x1 : Int) (x2 : Int) : Option (Step (Int × Int) (Fault ⊕ Unit)) :=
 if decide (x1 < (p_.Hunks.length : Int)) then
(at? p_.Hunks x1).bind fun y1 =>
(textpatch_hunk y1 x2).bind fun y2 =>
 if !decide (y2 = 0) then
 some (Step.done (Sum.inl ({ Code := y2, Index := x1 } : Fault)))
 else
(textpatch_End y1).bind fun y3 =>
(ckK .i64 (x1 + 1)).bind fun z1 =>
 some (Step.next (z1, y3))
 else
 some (Step.done (Sum.inr ()))

noncomputable def textpatch_Validate (p_ : Patch) : Option Fault :=
 if decide ((p_.Hunks.length : Int) > 130) then
 some ({ Code := 2, Index := (-1) } : Fault)
 else
(iter (fun s => textpatch_Validate.l1 p_ s.1 s.2) (0, (-1))).bind fun r1 =>
(match r1 with
| .inl p => some p
| .inr _ => textpatch_Validate.j1)

noncomputable def lines_Second (b_ : (List ByteArray)) (index : Int) : Option Fault :=
(lines_Validate b_).bind fun y1 =>
 if !(decide (y1.Code = 0) && decide (y1.Index = 0)) then
 some ({ Code := y1.Code, Index := index } : Fault)
 else
 some ({ Code := 0, Index := 0 } : Fault)

noncomputable def slices_Equal.j1 : Option Bool :=
 some true

noncomputable def slices_Equal.l1 (s1_ : (List ByteArray)) (s2_ : (List ByteArray)) (x1 : Int) : Option (Step Int (Bool ⊕ Unit)) :=
 if decide (x1 < (s1_.length : Int)) then
(at? s1_ x1).bind fun y1 =>
(at? s2_ x1).bind fun y2 =>
 if !decide (y1 = y2) then
 some (Step.done (Sum.inl false))
 else
(ckK .i64 (x1 + 1)).bind fun z1 =>
 some (Step.next z1)
 else
 some (Step.done (Sum.inr ()))

noncomputable def slices_Equal (s1_ : (List ByteArray)) (s2_ : (List ByteArray)) : Option Bool :=
 if !decide ((s1_.length : Int) = (s2_.length : Int)) then
 some false
 else
(iter (fun s => slices_Equal.l1 s1_ s2_ s) 0).bind fun r1 =>
(match r1 with
| .inl p => some p
| .inr _ => slices_Equal.j1)

noncomputable def lines_Occurs (text : (List ByteArray)) (part : (List ByteArray)) (at_ : Int) : Option Bool :=
(if decide (at_ ≥ 0) then some (decide (at_ ≤ (text.length : Int))) else some false).bind fun x1 =>
(if x1 then (ckK .i64 ((text.length : Int) - at_)).bind fun z1 =>
 some (decide ((part.length : Int) ≤ z1)) else some false).bind fun x2 =>
(if x2 then (ckK .i64 (at_ + (part.length : Int))).bind fun z2 =>
(cut? text at_ z2).bind fun y1 =>
(slices_Equal y1 part).bind fun y2 =>
 some y2 else some false).bind fun x3 =>
 some x3

noncomputable def textpatch_Raw.j1 (text : (List ByteArray)) (high : Int) (x1 : List ByteArray) (x2 : Int) : Option (List ByteArray) :=
(cut? text x2 high).bind fun y1 =>
(app? 16 x1 y1).bind fun y2 =>
 some y2

noncomputable def textpatch_Raw.l1 (hunks : (List Hunk)) (text : (List ByteArray)) (x3 : Int) (x4 : List ByteArray) (x5 : Int) : Option (Step (Int × (List ByteArray) × Int) ((List ByteArray) × Int)) :=
 if decide (x3 < (hunks.length : Int)) then
(at? hunks x3).bind fun y3 =>
(cut? text x5 y3.At).bind fun y4 =>
(app? 16 x4 y4).bind fun y5 =>
(app? 16 y5 y3.New).bind fun y6 =>
(textpatch_End y3).bind fun y7 =>
(ckK .i64 (x3 + 1)).bind fun z1 =>
 some (Step.next (z1, y6, y7))
 else
 some (Step.done (x4, x5))

noncomputable def textpatch_Raw (hunks : (List Hunk)) (text : (List ByteArray)) (low : Int) (high : Int) : Option (List ByteArray) :=
(iter (fun s => textpatch_Raw.l1 hunks text s.1 s.2.1 s.2.2) (0, [], low)).bind fun r1 =>
 textpatch_Raw.j1 text high r1.1 r1.2

noncomputable def textpatch_Apply.j1 (p_ : Patch) (text : (List ByteArray)) : Option ((List ByteArray) × Fault) :=
(textpatch_Raw p_.Hunks text 0 (text.length : Int)).bind fun y3 =>
 if decide ((y3.length : Int) > 120) then
 some ([], ({ Code := 10, Index := (-1) } : Fault))
 else
 some (y3, ({ Code := 0, Index := 0 } : Fault))

noncomputable def textpatch_Apply.l1 (p_ : Patch) (text : (List ByteArray)) (x1 : Int) : Option (Step Int (((List ByteArray) × Fault) ⊕ Unit)) :=
 if decide (x1 < (p_.Hunks.length : Int)) then
(at? p_.Hunks x1).bind fun y4 =>
(lines_Occurs text y4.Old y4.At).bind fun y5 =>
 if !y5 then
 some (Step.done (Sum.inl ([], ({ Code := 19, Index := x1 } : Fault))))
 else
(ckK .i64 (x1 + 1)).bind fun z1 =>
 some (Step.next z1)
 else
 some (Step.done (Sum.inr ()))

noncomputable def textpatch_Apply (p_ : Patch) (text : (List ByteArray)) : Option ((List ByteArray) × Fault) :=
(textpatch_Validate p_).bind fun y1 =>
 if !(decide (y1.Code = 0) && decide (y1.Index = 0)) then
 some ([], y1)
 else
(lines_Second text (-2)).bind fun y2 =>
 if !(decide (y2.Code = 0) && decide (y2.Index = 0)) then
 some ([], y2)
 else
(iter (fun s => textpatch_Apply.l1 p_ text s) 0).bind fun r1 =>
(match r1 with
| .inl p => some p
| .inr _ => textpatch_Apply.j1 p_ text)

noncomputable def bytealg_Cutover (n_ : Int) : Option Int :=
(ckK .i64 (n_ + 16)).bind fun z1 =>
(quo? .i64 z1 8).bind fun z2 =>
 some z2

noncomputable def bytealg_hashStr.j2 (x1 : Int) (x2 : Int) : Option (Int × Int) :=
 some (x1, x2)

noncomputable def bytealg_hashStr.j3 (x3 : Int) (x4 : Int) (x7 : Int) : Option (Step (Int × Int × Int) Int) :=
(ckK .u32 (x4 * x4)).bind fun z1 =>
(shr? .i64 x3 1).bind fun z2 =>
 some (Step.next (z2, z1, x7))

noncomputable def bytealg_hashStr.l1 (x3 : Int) (x4 : Int) (x5 : Int) : Option (Step (Int × Int × Int) Int) :=
 if decide (x3 > 0) then
 if !decide (andI .i64 x3 1 = 0) then
(ckK .u32 (x5 * x4)).bind fun z3 =>
 bytealg_hashStr.j3 x3 x4 z3
 else
 bytealg_hashStr.j3 x3 x4 x5
 else
 some (Step.done x5)

noncomputable def bytealg_hashStr.j1 (sep : ByteArray) (x1 : Int) : Option (Int × Int) :=
(iter (fun s => bytealg_hashStr.l1 s.1 s.2.1 s.2.2) ((sep.size : Int), 16777619, 1)).bind fun r1 =>
 bytealg_hashStr.j2 x1 r1

noncomputable def bytealg_hashStr.l2 (sep : ByteArray) (x8 : Int) (x9 : Int) : Option (Step (Int × Int) Int) :=
 if decide (x8 < (sep.size : Int)) then
(ckK .u32 (x9 * 16777619)).bind fun z4 =>
(sAt? sep x8).bind fun y1 =>
(ckK .u32 y1).bind fun z5 =>
(ckK .u32 (z4 + z5)).bind fun z6 =>
(ckK .i64 (x8 + 1)).bind fun z7 =>
 some (Step.next (z7, z6))
 else
 some (Step.done x9)

noncomputable def bytealg_hashStr (sep : ByteArray) : Option (Int × Int) :=
(iter (fun s => bytealg_hashStr.l2 sep s.1 s.2) (0, 0)).bind fun r2 =>
 bytealg_hashStr.j1 sep r2

noncomputable def bytealg_IndexRabinKarp.j2 : Option Int :=
 some (-1)

noncomputable def bytealg_IndexRabinKarp.l1 (s_ : ByteArray) (sep : ByteArray) (y1 : Int × Int) (x3 : Int) (x4 : Int) : Option (Step (Int × Int) (Int ⊕ Unit)) :=
 if decide (x3 < (s_.size : Int)) then
(ckK .u32 (x4 * 16777619)).bind fun z1 =>
(sAt? s_ x3).bind fun y3 =>
(ckK .u32 y3).bind fun z2 =>
(ckK .u32 (z1 + z2)).bind fun z3 =>
(ckK .i64 (x3 - (sep.size : Int))).bind fun z4 =>
(sAt? s_ z4).bind fun y4 =>
(ckK .u32 y4).bind fun z5 =>
(ckK .u32 (y1.2 * z5)).bind fun z6 =>
(ckK .u32 (z3 - z6)).bind fun z7 =>
(ckK .i64 (x3 + 1)).bind fun z8 =>
(if decide (z7 = y1.1) then (ckK .i64 (z8 - (sep.size : Int))).bind fun z9 =>
(scut? s_ z9 z8).bind fun y5 =>
 some (decide (y5 = sep)) else some false).bind fun x6 =>
 if x6 then
(ckK .i64 (z8 - (sep.size : Int))).bind fun z10 =>
 some (Step.done (Sum.inl z10))
 else
 some (Step.next (z8, z7))
 else
 some (Step.done (Sum.inr ()))

noncomputable def bytealg_IndexRabinKarp.j1 (s_ : ByteArray) (sep : ByteArray) (y1 : Int × Int) (x1 : Int) : Option Int :=
(if decide (x1 = y1.1) then (scut? s_ 0 (sep.size : Int)).bind fun y2 =>
 some (decide (y2 = sep)) else some false).bind fun x2 =>
 if x2 then
 some 0
 else
(iter (fun s => bytealg_IndexRabinKarp.l1 s_ sep y1 s.1 s.2) ((sep.size : Int), x1)).bind fun r1 =>
(match r1 with
| .inl p => some p
| .inr _ => bytealg_IndexRabinKarp.j2)

noncomputable def bytealg_IndexRabinKarp.l2 (s_ : ByteArray) (sep : ByteArray) (x7 : Int) (x8 : Int) : Option (Step (Int × Int) Int) :=
 if decide (x7 < (sep.size : Int)) then
(ckK .u32 (x8 * 16777619)).bind fun z11 =>
(sAt? s_ x7).bind fun y6 =>
(ckK .u32 y6).bind fun z12 =>
(ckK .u32 (z11 + z12)).bind fun z13 =>
(ckK .i64 (x7 + 1)).bind fun z14 =>
 some (Step.next (z14, z13))
 else
 some (Step.done x8)

noncomputable def bytealg_IndexRabinKarp (s_ : ByteArray) (sep : ByteArray) : Option Int :=
(bytealg_hashStr sep).bind fun y1 =>
(iter (fun s => bytealg_IndexRabinKarp.l2 s_ sep s.1 s.2) (0, 0)).bind fun r2 =>
 bytealg_IndexRabinKarp.j1 s_ sep y1 r2

noncomputable def stringslite_Index (s_ : ByteArray) : Option Int :=
 if decide ((⟨#[47]⟩ : ByteArray) = s_) then
 some 0
 else
(sAt? (⟨#[47]⟩ : ByteArray) 0).bind fun y1 =>
(stringslite_IndexByte s_ y1).bind fun y2 =>
 some y2

noncomputable def strings_Index (s_ : ByteArray) : Option Int :=
(stringslite_Index s_).bind fun y1 =>
 some y1

noncomputable def treepatch_Letter (c_ : Int) : Option Bool :=
(if decide (c_ ≥ 97) then some (decide (c_ ≤ 122)) else some false).bind fun x1 =>
(if x1 then some true else (if decide (c_ ≥ 65) then some (decide (c_ ≤ 90)) else some false).bind fun x3 =>
 some x3).bind fun x2 =>
(if x2 then some true else (if decide (c_ ≥ 48) then some (decide (c_ ≤ 57)) else some false).bind fun x5 =>
 some x5).bind fun x4 =>
(if x4 then some true else some (decide (c_ = 46))).bind fun x6 =>
(if x6 then some true else some (decide (c_ = 95))).bind fun x7 =>
(if x7 then some true else some (decide (c_ = 45))).bind fun x8 =>
 some x8

noncomputable def treepatch_ValidPath.j2 : Option Bool :=
 some false

noncomputable def treepatch_ValidPath.j3 : Option Bool :=
 some true

noncomputable def treepatch_ValidPath.j4 : Option Bool :=
 treepatch_ValidPath.j3

noncomputable def treepatch_ValidPath.l1 (x1 : ByteArray) (x4 : Int) : Option (Step Int (Unit ⊕ Unit)) :=
 if decide (x4 < (x1.size : Int)) then
(sAt? x1 x4).bind fun y1 =>
(treepatch_Letter y1).bind fun y2 =>
 if !y2 then
 some (Step.done (Sum.inl ()))
 else
(ckK .i64 (x4 + 1)).bind fun z1 =>
 some (Step.next z1)
 else
 some (Step.done (Sum.inr ()))

noncomputable def treepatch_ValidPath.j1 (x1 : ByteArray) : Option Bool :=
(if decide (x1 = (⟨#[]⟩ : ByteArray)) then some true else some (decide (x1 = (⟨#[46]⟩ : ByteArray)))).bind fun x2 =>
(if x2 then some true else some (decide (x1 = (⟨#[46, 46]⟩ : ByteArray)))).bind fun x3 =>
 if x3 then
 treepatch_ValidPath.j2
 else
(iter (fun s => treepatch_ValidPath.l1 x1 s) 0).bind fun r1 =>
(match r1 with
| .inl _ => treepatch_ValidPath.j2
| .inr _ => treepatch_ValidPath.j4)

noncomputable def treepatch_ValidPath.j5 : Option (Step ByteArray (Bool ⊕ ByteArray)) :=
 some (Step.done (Sum.inl false))

noncomputable def treepatch_ValidPath.j6 (x6 : ByteArray) (y3 : Int) : Option (Step ByteArray (Bool ⊕ ByteArray)) :=
(ckK .i64 (y3 + 1)).bind fun z3 =>
(scut? x6 z3 (x6.size : Int)).bind fun y5 =>
 some (Step.next y5)

noncomputable def treepatch_ValidPath.j7 (x6 : ByteArray) (y3 : Int) : Option (Step ByteArray (Bool ⊕ ByteArray)) :=
 treepatch_ValidPath.j6 x6 y3

noncomputable def treepatch_ValidPath.l3 (y4 : ByteArray) (x10 : Int) : Option (Step Int (Unit ⊕ Unit)) :=
 if decide (x10 < (y4.size : Int)) then
(sAt? y4 x10).bind fun y6 =>
(treepatch_Letter y6).bind fun y7 =>
 if !y7 then
 some (Step.done (Sum.inl ()))
 else
(ckK .i64 (x10 + 1)).bind fun z4 =>
 some (Step.next z4)
 else
 some (Step.done (Sum.inr ()))

noncomputable def treepatch_ValidPath.l2 (x6 : ByteArray) : Option (Step ByteArray (Bool ⊕ ByteArray)) :=
(strings_Index x6).bind fun y3 =>
 if decide (y3 < 0) then
 some (Step.done (Sum.inr x6))
 else
(ckK .i64 (y3 + 0)).bind fun z2 =>
(scut? x6 0 z2).bind fun y4 =>
(if decide (y4 = (⟨#[]⟩ : ByteArray)) then some true else some (decide (y4 = (⟨#[46]⟩ : ByteArray)))).bind fun x8 =>
(if x8 then some true else some (decide (y4 = (⟨#[46, 46]⟩ : ByteArray)))).bind fun x9 =>
 if x9 then
 treepatch_ValidPath.j5
 else
(iter (fun s => treepatch_ValidPath.l3 y4 s) 0).bind fun r3 =>
(match r3 with
| .inl _ => treepatch_ValidPath.j5
| .inr _ => treepatch_ValidPath.j7 x6 y3)

noncomputable def treepatch_ValidPath (path : ByteArray) : Option Bool :=
 if decide ((path.size : Int) > 60) then
 some false
 else
(iter (fun s => treepatch_ValidPath.l2 s) path).bind fun r2 =>
(match r2 with
| .inl p => some p
| .inr p => treepatch_ValidPath.j1 p)

noncomputable def stringslite_HasPrefix (s_ : ByteArray) (prefix_ : ByteArray) : Option Bool :=
(if decide ((s_.size : Int) ≥ (prefix_.size : Int)) then (scut? s_ 0 (prefix_.size : Int)).bind fun y1 =>
 some (decide (y1 = prefix_)) else some false).bind fun x1 =>
 some x1

noncomputable def strings_HasPrefix (s_ : ByteArray) (prefix_ : ByteArray) : Option Bool :=
(stringslite_HasPrefix s_ prefix_).bind fun y1 =>
 some y1

noncomputable def treepatch_Related (a_ : ByteArray) (b_ : ByteArray) : Option Bool :=
(if decide (a_ = b_) then some true else (cat? b_ (⟨#[47]⟩ : ByteArray)).bind fun z1 =>
(strings_HasPrefix a_ z1).bind fun y1 =>
 some y1).bind fun x1 =>
(if x1 then some true else (cat? a_ (⟨#[47]⟩ : ByteArray)).bind fun z2 =>
(strings_HasPrefix b_ z2).bind fun y2 =>
 some y2).bind fun x2 =>
 some x2

noncomputable def treepatch_check (c_ : TreeChange) : Option Int :=
(if decide (c_.Kind < 1) then some true else some (decide (c_.Kind > 4))).bind fun x1 =>
 if x1 then
 some 4
 else
(treepatch_ValidPath c_.Path).bind fun y1 =>
(if !y1 then some true else (if decide (c_.Kind = 3) then (treepatch_ValidPath c_.To).bind fun y2 =>
 some !y2 else some false).bind fun x3 =>
 some x3).bind fun x2 =>
 if x2 then
 some 12
 else
(if !(decide (c_.Kind = 3)) then some (!decide (c_.To = (⟨#[]⟩ : ByteArray))) else some false).bind fun x4 =>
(if x4 then some true else (if decide (c_.Kind = 3) then (treepatch_Related c_.Path c_.To).bind fun y3 =>
 some y3 else some false).bind fun x6 =>
 some x6).bind fun x5 =>
 if x5 then
 some 5
 else
(if decide ((c_.Lines.length : Int) > 0) then (if decide (c_.Kind = 4) then some true else some (decide (c_.Kind = 3))).bind fun x8 =>
 some x8 else some false).bind fun x7 =>
 if x7 then
 some 5
 else
 if !decide (decide (c_.Kind = 4) = decide ((c_.Patch.Hunks.length : Int) > 0)) then
 some 5
 else
(lines_Validate c_.Lines).bind fun y4 =>
 if !(decide (y4.Code = 0) && decide (y4.Index = 0)) then
 some y4.Code
 else
(textpatch_Validate c_.Patch).bind fun y5 =>
 some y5.Code

noncomputable def treepatch_ValidatePatch.j1 : Option Fault :=
 some ({ Code := 0, Index := 0 } : Fault)

noncomputable def treepatch_ValidatePatch.l1 (p_ : TreePatch) (x1 : Int) : Option (Step Int (Fault ⊕ Unit)) :=
 if decide (x1 < (p_.Changes.length : Int)) then
(at? p_.Changes x1).bind fun y1 =>
(treepatch_check y1).bind fun y2 =>
 if !decide (y2 = 0) then
 some (Step.done (Sum.inl ({ Code := y2, Index := x1 } : Fault)))
 else
(ckK .i64 (x1 + 1)).bind fun z1 =>
 some (Step.next z1)
 else
 some (Step.done (Sum.inr ()))

noncomputable def treepatch_ValidatePatch (p_ : TreePatch) : Option Fault :=
 if decide ((p_.Changes.length : Int) > 30) then
 some ({ Code := 2, Index := (-1) } : Fault)
 else
(iter (fun s => treepatch_ValidatePatch.l1 p_ s) 0).bind fun r1 =>
(match r1 with
| .inl p => some p
| .inr _ => treepatch_ValidatePatch.j1)

noncomputable def treepatch_Clash.j1 : Option Bool :=
 some false

noncomputable def treepatch_Clash.l1 (files : (List File)) (path : ByteArray) (except : Int) (x1 : Int) : Option (Step Int (Bool ⊕ Unit)) :=
 if decide (x1 < (files.length : Int)) then
(at? files x1).bind fun y1 =>
(if !decide (x1 = except) then (treepatch_Related y1.Path path).bind fun y2 =>
 some y2 else some false).bind fun x3 =>
 if x3 then
 some (Step.done (Sum.inl true))
 else
(ckK .i64 (x1 + 1)).bind fun z1 =>
 some (Step.next z1)
 else
 some (Step.done (Sum.inr ()))

noncomputable def treepatch_Clash (files : (List File)) (path : ByteArray) (except : Int) : Option Bool :=
(iter (fun s => treepatch_Clash.l1 files path except s) 0).bind fun r1 =>
(match r1 with
| .inl p => some p
| .inr _ => treepatch_Clash.j1)

noncomputable def treepatch_Validate.j1 : Option Fault :=
 some ({ Code := 0, Index := 0 } : Fault)

noncomputable def treepatch_Validate.l1 (t_ : FileTree) (x1 : Int) : Option (Step Int (Fault ⊕ Unit)) :=
 if decide (x1 < (t_.Files.length : Int)) then
(at? t_.Files x1).bind fun y1 =>
(treepatch_ValidPath y1.Path).bind fun y2 =>
 if !y2 then
 some (Step.done (Sum.inl ({ Code := 12, Index := x1 } : Fault)))
 else
(if decide (x1 > 0) then (ckK .i64 (x1 - 1)).bind fun z1 =>
(at? t_.Files z1).bind fun y3 =>
 some (sLt y1.Path y3.Path || decide (y1.Path = y3.Path)) else some false).bind fun x3 =>
 if x3 then
 some (Step.done (Sum.inl ({ Code := 5, Index := x1 } : Fault)))
 else
(cut? t_.Files 0 x1).bind fun y4 =>
(treepatch_Clash y4 y1.Path (-1)).bind fun y5 =>
 if y5 then
 some (Step.done (Sum.inl ({ Code := 7, Index := x1 } : Fault)))
 else
(lines_Second y1.Lines x1).bind fun y6 =>
 if !(decide (y6.Code = 0) && decide (y6.Index = 0)) then
 some (Step.done (Sum.inl y6))
 else
(ckK .i64 (x1 + 1)).bind fun z2 =>
 some (Step.next z2)
 else
 some (Step.done (Sum.inr ()))

noncomputable def treepatch_Validate (t_ : FileTree) : Option Fault :=
 if decide ((t_.Files.length : Int) > 24) then
 some ({ Code := 2, Index := (-1) } : Fault)
 else
(iter (fun s => treepatch_Validate.l1 t_ s) 0).bind fun r1 =>
(match r1 with
| .inl p => some p
| .inr _ => treepatch_Validate.j1)

noncomputable def treepatch_Second (t_ : FileTree) (index : Int) : Option Fault :=
(treepatch_Validate t_).bind fun y1 =>
 if !(decide (y1.Code = 0) && decide (y1.Index = 0)) then
 some ({ Code := y1.Code, Index := index } : Fault)
 else
 some ({ Code := 0, Index := 0 } : Fault)

noncomputable def slices_Clone (s_ : (List ByteArray)) : Option (List ByteArray) :=
 nilIf s_ (
 some []) (
(app? 16 ([] : List ByteArray) s_).bind fun y1 =>
 some y1)

noncomputable def slices_Clone_x (s_ : (List ByteArray)) : Option (List ByteArray) :=
 if s_.isEmpty then
 some []
 else
(app? 16 ([] : List ByteArray) s_).bind fun y1 =>
(neE? y1).bind fun u1 =>
 some y1

noncomputable def treepatch_CopyTree.j1 (x1 : List File) : Option FileTree :=
 some ({ Files := x1 } : FileTree)

noncomputable def treepatch_CopyTree.l1 (t_ : FileTree) (x2 : Int) (x3 : List File) : Option (Step (Int × (List File)) (List File)) :=
 if decide (x2 < (t_.Files.length : Int)) then
(at? t_.Files x2).bind fun y1 =>
(slices_Clone y1.Lines).bind fun y2 =>
(app? 40 x3 ([({ Path := y1.Path, Lines := y2 } : File)] : List File)).bind fun y3 =>
(ckK .i64 (x2 + 1)).bind fun z1 =>
 some (Step.next (z1, y3))
 else
 some (Step.done x3)

noncomputable def treepatch_CopyTree (t_ : FileTree) : Option FileTree :=
(iter (fun s => treepatch_CopyTree.l1 t_ s.1 s.2) (0, [])).bind fun r1 =>
 treepatch_CopyTree.j1 r1

noncomputable def bytealg_CompareString (a_ : ByteArray) (b_ : ByteArray) : Option Int :=
 some (cmpB a_ b_)

noncomputable def strings_Compare (a_ : ByteArray) (b_ : ByteArray) : Option Int :=
(bytealg_CompareString a_ b_).bind fun y1 =>
 some y1

noncomputable def treepatch_Find_s1 (f : File) (path : ByteArray) : Option Int :=
(strings_Compare f.Path path).bind fun y1 =>
 some y1

noncomputable def treepatch_Find.j1 (files : (List File)) (path : ByteArray) (x1 : Int) : Option (Int × Bool) :=
(if decide (x1 < (files.length : Int)) then (at? files x1).bind fun y1 =>
(treepatch_Find_s1 y1 path).bind fun y2 =>
 some (decide (y2 = 0)) else some false).bind fun x2 =>
 some (x1, x2)

noncomputable def treepatch_Find.l1 (files : (List File)) (path : ByteArray) (x3 : Int) (x4 : Int) : Option (Step (Int × Int) Int) :=
 if decide (x4 < x3) then
(ckK .i64 (x4 + x3)).bind fun z1 =>
(ckK .u64 z1).bind fun z2 =>
(shr? .u64 z2 1).bind fun z3 =>
(ckK .i64 z3).bind fun z4 =>
(at? files z4).bind fun y3 =>
(treepatch_Find_s1 y3 path).bind fun y4 =>
 if decide (y4 < 0) then
(ckK .i64 (z4 + 1)).bind fun z5 =>
 some (Step.next (x3, z5))
 else
 some (Step.next (z4, x4))
 else
 some (Step.done x4)

noncomputable def treepatch_Find (files : (List File)) (path : ByteArray) : Option (Int × Bool) :=
(iter (fun s => treepatch_Find.l1 files path s.1 s.2) ((files.length : Int), 0)).bind fun r1 =>
 treepatch_Find.j1 files path r1

noncomputable def treepatch_Put.j1 (l_ : (List ByteArray)) (y1 : Int × Bool) (x1 : List File) : Option FileTree :=
(slices_Clone l_).bind fun y2 =>
(at? x1 y1.1).bind fun y3 =>
(some (x1.set y1.1.toNat ({ Path := y3.Path, Lines := y2 } : File))).bind fun y4 =>
 some ({ Files := y4 } : FileTree)

noncomputable def treepatch_Put (t_ : FileTree) (path : ByteArray) (l_ : (List ByteArray)) : Option FileTree :=
(treepatch_Find t_.Files path).bind fun y1 =>
 if !y1.2 then
(ins? 40 t_.Files y1.1 ([({ Path := path, Lines := [] } : File)] : List File)).bind fun y5 =>
 treepatch_Put.j1 l_ y1 y5
 else
 treepatch_Put.j1 l_ y1 t_.Files

noncomputable def treepatch_make1.j1 (x1 : List File) : Option (Int × FileTree) :=
 some (0, ({ Files := x1 } : FileTree))

noncomputable def treepatch_make1 (c_ : TreeChange) (t_ : FileTree) : Option (Int × FileTree) :=
(treepatch_Find t_.Files c_.Path).bind fun y1 =>
 if decide (c_.Kind = 1) then
(treepatch_Clash t_.Files c_.Path (-1)).bind fun y2 =>
 if y2 then
 some (7, t_)
 else
 if decide ((t_.Files.length : Int) ≥ 24) then
 some (14, t_)
 else
(treepatch_Put t_ c_.Path c_.Lines).bind fun y3 =>
 some (0, y3)
 else
 if !y1.2 then
 some (6, t_)
 else
(at? t_.Files y1.1).bind fun y4 =>
 if decide (c_.Kind = 2) then
(slices_Equal y4.Lines c_.Lines).bind fun y5 =>
 if !y5 then
 some (19, t_)
 else
(ckK .i64 (y1.1 + 1)).bind fun z1 =>
(del? t_.Files y1.1 z1).bind fun y6 =>
 treepatch_make1.j1 y6
 else
 if decide (c_.Kind = 3) then
(treepatch_Clash t_.Files c_.To y1.1).bind fun y7 =>
 if y7 then
 some (7, t_)
 else
(ckK .i64 (y1.1 + 1)).bind fun z2 =>
(del? t_.Files y1.1 z2).bind fun y8 =>
(treepatch_Put ({ Files := y8 } : FileTree) c_.To y4.Lines).bind fun y9 =>
 treepatch_make1.j1 y9.Files
 else
(textpatch_Apply c_.Patch y4.Lines).bind fun y10 =>
 if !(decide (y10.2.Code = 0) && decide (y10.2.Index = 0)) then
 some (y10.2.Code, t_)
 else
(at? t_.Files y1.1).bind fun y11 =>
(some (t_.Files.set y1.1.toNat ({ Path := y11.Path, Lines := y10.1 } : File))).bind fun y12 =>
 treepatch_make1.j1 y12

noncomputable def treepatch_Apply.j1 (x1 : List File) : Option (FileTree × Fault) :=
 some (({ Files := x1 } : FileTree), ({ Code := 0, Index := 0 } : Fault))

noncomputable def treepatch_Apply.l1 (p_ : TreePatch) (x2 : Int) (x3 : List File) : Option (Step (Int × (List File)) ((FileTree × Fault) ⊕ (List File))) :=
 if decide (x2 < (p_.Changes.length : Int)) then
(at? p_.Changes x2).bind fun y4 =>
(treepatch_make1 y4 ({ Files := x3 } : FileTree)).bind fun y5 =>
 if !decide (y5.1 = 0) then
 some (Step.done (Sum.inl (({ Files := [] } : FileTree), ({ Code := y5.1, Index := x2 } : Fault))))
 else
(ckK .i64 (x2 + 1)).bind fun z1 =>
 some (Step.next (z1, y5.2.Files))
 else
 some (Step.done (Sum.inr x3))

noncomputable def treepatch_Apply (p_ : TreePatch) (t_ : FileTree) : Option (FileTree × Fault) :=
(treepatch_ValidatePatch p_).bind fun y1 =>
 if !(decide (y1.Code = 0) && decide (y1.Index = 0)) then
 some (({ Files := [] } : FileTree), y1)
 else
(treepatch_Second t_ (-2)).bind fun y2 =>
 if !(decide (y2.Code = 0) && decide (y2.Index = 0)) then
 some (({ Files := [] } : FileTree), y2)
 else
(treepatch_CopyTree t_).bind fun y3 =>
(iter (fun s => treepatch_Apply.l1 p_ s.1 s.2) (0, y3.Files)).bind fun r1 =>
(match r1 with
| .inl p => some p
| .inr p => treepatch_Apply.j1 p)

noncomputable def changeforgetop_h11Edit (path : ByteArray) (p_ : Patch) : Option TreePatch :=
 some ({ Changes := ([({ Kind := 4, Path := path, To := ByteArray.empty, Lines := [], Patch := p_ } : TreeChange)] : List TreeChange) } : TreePatch)

noncomputable def changeforgeequal_Tree.j1 : Option Bool :=
 some true

noncomputable def changeforgeequal_Tree.l1 (a_ : FileTree) (b_ : FileTree) (x1 : Int) : Option (Step Int (Bool ⊕ Unit)) :=
 if decide (x1 < (a_.Files.length : Int)) then
(at? a_.Files x1).bind fun y1 =>
(at? b_.Files x1).bind fun y2 =>
(if !decide (y1.Path = y2.Path) then some true else (at? a_.Files x1).bind fun y3 =>
(at? b_.Files x1).bind fun y4 =>
(changeforgeequal_Strings y3.Lines y4.Lines).bind fun y5 =>
 some !y5).bind fun x3 =>
 if x3 then
 some (Step.done (Sum.inl false))
 else
(ckK .i64 (x1 + 1)).bind fun z1 =>
 some (Step.next z1)
 else
 some (Step.done (Sum.inr ()))

noncomputable def changeforgeequal_Tree (a_ : FileTree) (b_ : FileTree) : Option Bool :=
 if !decide ((a_.Files.length : Int) = (b_.Files.length : Int)) then
 some false
 else
(iter (fun s => changeforgeequal_Tree.l1 a_ b_ s) 0).bind fun r1 =>
(match r1 with
| .inl p => some p
| .inr _ => changeforgeequal_Tree.j1)

noncomputable def changeforgetop_h11Works : Option Bool :=
(textpatch_Apply ({ Hunks := ([({ At := 0, Old := ([(⟨#[97]⟩ : ByteArray)] : List ByteArray), New := ([(⟨#[98]⟩ : ByteArray)] : List ByteArray) } : Hunk)] : List Hunk) } : Patch) ([(⟨#[97]⟩ : ByteArray)] : List ByteArray)).bind fun y1 =>
(changeforgetop_h11Edit (⟨#[120]⟩ : ByteArray) ({ Hunks := ([({ At := 0, Old := ([(⟨#[97]⟩ : ByteArray)] : List ByteArray), New := ([(⟨#[98]⟩ : ByteArray)] : List ByteArray) } : Hunk)] : List Hunk) } : Patch)).bind fun y2 =>
(treepatch_Apply y2 ({ Files := ([({ Path := (⟨#[120]⟩ : ByteArray), Lines := ([(⟨#[97]⟩ : ByteArray)] : List ByteArray) } : File)] : List File) } : FileTree)).bind fun y3 =>
(if decide (y1.2.Code = 0) then some (decide (y3.2.Code = 0)) else some false).bind fun x1 =>
(if x1 then (changeforgeequal_Strings y1.1 ([(⟨#[98]⟩ : ByteArray)] : List ByteArray)).bind fun y4 =>
 some y4 else some false).bind fun x2 =>
(if x2 then (changeforgeequal_Tree y3.1 ({ Files := ([({ Path := (⟨#[120]⟩ : ByteArray), Lines := ([(⟨#[98]⟩ : ByteArray)] : List ByteArray) } : File)] : List File) } : FileTree)).bind fun y5 =>
 some y5 else some false).bind fun x3 =>
 some x3

noncomputable def sequence_own (o_ : SeqOp) : Option Element_sequence :=
 some ({ counter := o_.Counter, replica := o_.Replica } : Element_sequence)

noncomputable def sequence_after (o_ : SeqOp) : Option Element_sequence :=
 some ({ counter := o_.AfterCounter, replica := o_.AfterReplica } : Element_sequence)

noncomputable def cmp_Or.j1 : Option Int :=
 some 0

noncomputable def cmp_Or.l1 (vals : (List Int)) (x1 : Int) : Option (Step Int (Int ⊕ Unit)) :=
 if decide (x1 < (vals.length : Int)) then
(at? vals x1).bind fun y1 =>
 if !decide (y1 = 0) then
 some (Step.done (Sum.inl y1))
 else
(ckK .i64 (x1 + 1)).bind fun z1 =>
 some (Step.next z1)
 else
 some (Step.done (Sum.inr ()))

noncomputable def cmp_Or (vals : (List Int)) : Option Int :=
(iter (fun s => cmp_Or.l1 vals s) 0).bind fun r1 =>
(match r1 with
| .inl p => some p
| .inr _ => cmp_Or.j1)

noncomputable def cmp_isNaN (x_ : Int) : Option Bool :=
 some (!decide (x_ = x_))

noncomputable def cmp_Compare (x_ : Int) (y : Int) : Option Int :=
(cmp_isNaN x_).bind fun y1 =>
(cmp_isNaN y).bind fun y2 =>
 if y1 then
 if y2 then
 some 0
 else
 some (-1)
 else
 if y2 then
 some 1
 else
 if decide (x_ < y) then
 some (-1)
 else
 if decide (x_ > y) then
 some 1
 else
 some 0

noncomputable def sequence_compare (a_ : Element_sequence) (b_ : Element_sequence) : Option Int :=
(cmp_Compare a_.counter b_.counter).bind fun y1 =>
(cmp_Compare a_.replica b_.replica).bind fun y2 =>
(cmp_Or ([y1, y2] : List Int)).bind fun y3 =>
 some y3

noncomputable def sequence_valid (e_ : Element_sequence) : Option Bool :=
(if decide (e_.counter ≥ 1) then some (decide (e_.counter ≤ 1000000000)) else some false).bind fun x1 =>
(if x1 then some (decide (e_.replica ≥ 0)) else some false).bind fun x2 =>
(if x2 then some (decide (e_.replica < 6)) else some false).bind fun x3 =>
 some x3

noncomputable def sequence_check (o_ : SeqOp) : Option Int :=
(sequence_after o_).bind fun y1 =>
(sequence_own o_).bind fun y2 =>
(sequence_valid y2).bind fun y3 =>
 if !y3 then
 some 3
 else
(if o_.Delete then (if !(decide (y1.counter = 0) && decide (y1.replica = 0)) then some true else some (!decide (o_.Line = (⟨#[]⟩ : ByteArray)))).bind fun x2 =>
 some x2 else some false).bind fun x1 =>
 if x1 then
 some 5
 else
(if !o_.Delete then some (!(decide (y1.counter = 0) && decide (y1.replica = 0))) else some false).bind fun x3 =>
(if x3 then (sequence_after o_).bind fun y4 =>
(sequence_valid y4).bind fun y5 =>
 some !y5 else some false).bind fun x4 =>
 if x4 then
 some 3
 else
(if !o_.Delete then (sequence_after o_).bind fun y6 =>
(sequence_own o_).bind fun y7 =>
(sequence_compare y6 y7).bind fun y8 =>
 some (decide (y8 ≥ 0)) else some false).bind fun x5 =>
 if x5 then
 some 5
 else
(lines_Validate ([o_.Line] : List ByteArray)).bind fun y9 =>
 some y9.Code

noncomputable def sequence_Validate.j2 : Option Fault :=
 some ({ Code := 0, Index := 0 } : Fault)

noncomputable def sequence_Validate.j3 (x1 : List (K2 × Bool)) (x2 : Int) (x4 : Int) (x5 : Int) : Option (Step Int (Fault ⊕ Unit)) :=
(if !(decide (x4 = 0) && decide (x5 = 0)) then some (!((mget x1 (x4, x5)).getD false)) else some false).bind fun x6 =>
 if x6 then
 some (Step.done (Sum.inl ({ Code := 6, Index := x2 } : Fault)))
 else
(ckK .i64 (x2 + 1)).bind fun z1 =>
 some (Step.next z1)

noncomputable def sequence_Validate.l1 (ops : (List SeqOp)) (x1 : List (K2 × Bool)) (x2 : Int) : Option (Step Int (Fault ⊕ Unit)) :=
 if decide (x2 < (ops.length : Int)) then
(at? ops x2).bind fun y1 =>
(sequence_own y1).bind fun y2 =>
 if !y1.Delete then
(sequence_after y1).bind fun y3 =>
 sequence_Validate.j3 x1 x2 y3.counter y3.replica
 else
 sequence_Validate.j3 x1 x2 y2.counter y2.replica
 else
 some (Step.done (Sum.inr ()))

noncomputable def sequence_Validate.j1 (ops : (List SeqOp)) (x1 : List (K2 × Bool)) : Option Fault :=
(iter (fun s => sequence_Validate.l1 ops x1 s) 0).bind fun r1 =>
(match r1 with
| .inl p => some p
| .inr _ => sequence_Validate.j2)

noncomputable def sequence_Validate.l2 (ops : (List SeqOp)) (x7 : Int) (x8 : List (K2 × Bool)) (x9 : List (K2 × Bool)) : Option (Step (Int × (List (K2 × Bool)) × (List (K2 × Bool))) (Fault ⊕ (List (K2 × Bool)))) :=
 if decide (x7 < (ops.length : Int)) then
(at? ops x7).bind fun y4 =>
(sequence_check y4).bind fun y5 =>
 if !decide (y5 = 0) then
 some (Step.done (Sum.inl ({ Code := y5, Index := x7 } : Fault)))
 else
 if y4.Delete then
(sequence_own y4).bind fun y6 =>
 if (mget x8 (y6.counter, y6.replica)).getD false then
 some (Step.done (Sum.inl ({ Code := 7, Index := x7 } : Fault)))
 else
(sequence_own y4).bind fun y7 =>
(some (mput x8 (y7.counter, y7.replica) true)).bind fun y8 =>
(ckK .i64 (x7 + 1)).bind fun z2 =>
 some (Step.next (z2, y8, x9))
 else
(sequence_own y4).bind fun y9 =>
 if (mget x9 (y9.counter, y9.replica)).getD false then
 some (Step.done (Sum.inl ({ Code := 7, Index := x7 } : Fault)))
 else
(sequence_own y4).bind fun y10 =>
(some (mput x9 (y10.counter, y10.replica) true)).bind fun y11 =>
(ckK .i64 (x7 + 1)).bind fun z3 =>
 some (Step.next (z3, x8, y11))
 else
 some (Step.done (Sum.inr x9))

noncomputable def sequence_Validate (ops : (List SeqOp)) : Option Fault :=
 if decide ((ops.length : Int) > 60) then
 some ({ Code := 2, Index := (-1) } : Fault)
 else
(iter (fun s => sequence_Validate.l2 ops s.1 s.2.1 s.2.2) (0, ([] : List (K2 × Bool)), ([] : List (K2 × Bool)))).bind fun r2 =>
(match r2 with
| .inl p => some p
| .inr p => sequence_Validate.j1 ops p)

noncomputable def bits_Len32.j2 (x3 : Int) (x4 : Int) : Option Int :=
(ckK .u8 x4).bind fun z1 =>
(sAt? (⟨#[0, 1, 2, 2, 3, 3, 3, 3, 4, 4, 4, 4, 4, 4, 4, 4, 5, 5, 5, 5, 5, 5, 5, 5, 5, 5, 5, 5, 5, 5, 5, 5, 6, 6, 6, 6, 6, 6, 6, 6, 6, 6, 6, 6, 6, 6, 6, 6, 6, 6, 6, 6, 6, 6, 6, 6, 6, 6, 6, 6, 6, 6, 6, 6, 7, 7, 7, 7, 7, 7, 7, 7, 7, 7, 7, 7, 7, 7, 7, 7, 7, 7, 7, 7, 7, 7, 7, 7, 7, 7, 7, 7, 7, 7, 7, 7, 7, 7, 7, 7, 7, 7, 7, 7, 7, 7, 7, 7, 7, 7, 7, 7, 7, 7, 7, 7, 7, 7, 7, 7, 7, 7, 7, 7, 7, 7, 7, 7, 8, 8, 8, 8, 8, 8, 8, 8, 8, 8, 8, 8, 8, 8, 8, 8, 8, 8, 8, 8, 8, 8, 8, 8, 8, 8, 8, 8, 8, 8, 8, 8, 8, 8, 8, 8, 8, 8, 8, 8, 8, 8, 8, 8, 8, 8, 8, 8, 8, 8, 8, 8, 8, 8, 8, 8, 8, 8, 8, 8, 8, 8, 8, 8, 8, 8, 8, 8, 8, 8, 8, 8, 8, 8, 8, 8, 8, 8, 8, 8, 8, 8, 8, 8, 8, 8, 8, 8, 8, 8, 8, 8, 8, 8, 8, 8, 8, 8, 8, 8, 8, 8, 8, 8, 8, 8, 8, 8, 8, 8, 8, 8, 8, 8, 8, 8, 8, 8, 8, 8, 8, 8, 8, 8, 8, 8, 8, 8]⟩ : ByteArray) z1).bind fun y1 =>
(ckK .i64 y1).bind fun z2 =>
(ckK .i64 (x3 + z2)).bind fun z3 =>
 some z3

noncomputable def bits_Len32.j1 (x1 : Int) (x2 : Int) : Option Int :=
 if decide (x2 ≥ 256) then
(shr? .u32 x2 8).bind fun z4 =>
(ckK .i64 (x1 + 8)).bind fun z5 =>
 bits_Len32.j2 z5 z4
 else
 bits_Len32.j2 x1 x2

noncomputable def bits_Len32 (x_ : Int) : Option Int :=
 if decide (x_ ≥ 65536) then
(shr? .u32 x_ 16).bind fun z6 =>
 bits_Len32.j1 16 z6
 else
 bits_Len32.j1 0 x_

noncomputable def bits_Len64.j3 (x5 : Int) (x6 : Int) : Option Int :=
(ckK .u8 x6).bind fun z1 =>
(sAt? (⟨#[0, 1, 2, 2, 3, 3, 3, 3, 4, 4, 4, 4, 4, 4, 4, 4, 5, 5, 5, 5, 5, 5, 5, 5, 5, 5, 5, 5, 5, 5, 5, 5, 6, 6, 6, 6, 6, 6, 6, 6, 6, 6, 6, 6, 6, 6, 6, 6, 6, 6, 6, 6, 6, 6, 6, 6, 6, 6, 6, 6, 6, 6, 6, 6, 7, 7, 7, 7, 7, 7, 7, 7, 7, 7, 7, 7, 7, 7, 7, 7, 7, 7, 7, 7, 7, 7, 7, 7, 7, 7, 7, 7, 7, 7, 7, 7, 7, 7, 7, 7, 7, 7, 7, 7, 7, 7, 7, 7, 7, 7, 7, 7, 7, 7, 7, 7, 7, 7, 7, 7, 7, 7, 7, 7, 7, 7, 7, 7, 8, 8, 8, 8, 8, 8, 8, 8, 8, 8, 8, 8, 8, 8, 8, 8, 8, 8, 8, 8, 8, 8, 8, 8, 8, 8, 8, 8, 8, 8, 8, 8, 8, 8, 8, 8, 8, 8, 8, 8, 8, 8, 8, 8, 8, 8, 8, 8, 8, 8, 8, 8, 8, 8, 8, 8, 8, 8, 8, 8, 8, 8, 8, 8, 8, 8, 8, 8, 8, 8, 8, 8, 8, 8, 8, 8, 8, 8, 8, 8, 8, 8, 8, 8, 8, 8, 8, 8, 8, 8, 8, 8, 8, 8, 8, 8, 8, 8, 8, 8, 8, 8, 8, 8, 8, 8, 8, 8, 8, 8, 8, 8, 8, 8, 8, 8, 8, 8, 8, 8, 8, 8, 8, 8, 8, 8, 8, 8]⟩ : ByteArray) z1).bind fun y1 =>
(ckK .i64 y1).bind fun z2 =>
(ckK .i64 (x5 + z2)).bind fun z3 =>
 some z3

noncomputable def bits_Len64.j2 (x3 : Int) (x4 : Int) : Option Int :=
 if decide (x4 ≥ 256) then
(shr? .u64 x4 8).bind fun z4 =>
(ckK .i64 (x3 + 8)).bind fun z5 =>
 bits_Len64.j3 z5 z4
 else
 bits_Len64.j3 x3 x4

noncomputable def bits_Len64.j1 (x1 : Int) (x2 : Int) : Option Int :=
 if decide (x2 ≥ 65536) then
(shr? .u64 x2 16).bind fun z6 =>
(ckK .i64 (x1 + 16)).bind fun z7 =>
 bits_Len64.j2 z7 z6
 else
 bits_Len64.j2 x1 x2

noncomputable def bits_Len64 (x_ : Int) : Option Int :=
 if decide (x_ ≥ 4294967296) then
(shr? .u64 x_ 32).bind fun z8 =>
 bits_Len64.j1 32 z8
 else
 bits_Len64.j1 0 x_

noncomputable def bits_Len (x_ : Int) : Option Int :=
(bits_Len64 x_).bind fun y1 =>
 some y1

noncomputable def slices_nextPowerOfTwo (length : Int) : Option Int :=
(ckK .u64 length).bind fun z1 =>
(bits_Len z1).bind fun y1 =>
(shl? .u64 1 y1).bind fun z2 =>
 some z2

noncomputable def sequence_Visible_s1_s1 (a_ : SeqOp) (b_ : SeqOp) : Option Int :=
(sequence_own b_).bind fun y1 =>
(sequence_own a_).bind fun y2 =>
(sequence_compare y1 y2).bind fun y3 =>
 some y3

noncomputable def sequence_Visible_s1.j1 (x1 : List (K2 × Option (List SeqOp))) (x2 : List ByteArray) : Option ((List (K2 × Option (List SeqOp))) × (List ByteArray)) :=
 some (x1, x2)

noncomputable def sequence_Visible_s1.j2 (u2 : (List (K2 × Bool))) (rec_ : Element_sequence → (List (K2 × Option (List SeqOp))) → (List (K2 × Bool)) → (List ByteArray) → Option ((List (K2 × Option (List SeqOp))) × (List ByteArray))) (x3 : Int) (x4 : List (K2 × Option (List SeqOp))) (y3 : SeqOp) (x7 : List ByteArray) : Option (Step (Int × (List (K2 × Option (List SeqOp))) × (List ByteArray)) ((List (K2 × Option (List SeqOp))) × (List ByteArray))) :=
(sequence_own y3).bind fun y4 =>
(rec_ y4 x4 u2 x7).bind fun y5 =>
(ckK .i64 (x3 + 1)).bind fun z1 =>
 some (Step.next (z1, y5.1, y5.2))

noncomputable def sequence_Visible_s1.l1 (u2 : (List (K2 × Bool))) (rec_ : Element_sequence → (List (K2 × Option (List SeqOp))) → (List (K2 × Bool)) → (List ByteArray) → Option ((List (K2 × Option (List SeqOp))) × (List ByteArray))) (y2 : List SeqOp) (x3 : Int) (x4 : List (K2 × Option (List SeqOp))) (x5 : List ByteArray) : Option (Step (Int × (List (K2 × Option (List SeqOp))) × (List ByteArray)) ((List (K2 × Option (List SeqOp))) × (List ByteArray))) :=
 if decide (x3 < (y2.length : Int)) then
(at? y2 x3).bind fun y3 =>
(sequence_own y3).bind fun y6 =>
 if !((mget u2 (y6.counter, y6.replica)).getD false) then
(app? 16 x5 ([y3.Line] : List ByteArray)).bind fun y7 =>
 sequence_Visible_s1.j2 u2 rec_ x3 x4 y3 y7
 else
 sequence_Visible_s1.j2 u2 rec_ x3 x4 y3 x5
 else
 some (Step.done (x4, x5))

noncomputable def sequence_Visible_s1.body (rec_ : Element_sequence → (List (K2 × Option (List SeqOp))) → (List (K2 × Bool)) → (List ByteArray) → Option ((List (K2 × Option (List SeqOp))) × (List ByteArray))) (e_ : Element_sequence) (u1 : (List (K2 × Option (List SeqOp)))) (u2 : (List (K2 × Bool))) (u3 : (List ByteArray)) : Option ((List (K2 × Option (List SeqOp))) × (List ByteArray)) :=
(lookM u1 (e_.counter, e_.replica)).bind fun y1 =>
(sortM sequence_Visible_s1_s1 y1).bind fun y2 =>
(iter (fun s => sequence_Visible_s1.l1 u2 rec_ y2 s.1 s.2.1 s.2.2) (0, (deadM u1 (e_.counter, e_.replica)), u3)).bind fun r1 =>
 sequence_Visible_s1.j1 r1.1 r1.2

noncomputable def sequence_Visible_s1.m : Nat → Element_sequence → (List (K2 × Option (List SeqOp))) → (List (K2 × Bool)) → (List ByteArray) → Option ((List (K2 × Option (List SeqOp))) × (List ByteArray))
| 0 => fun _ _ _ _ => Option.none
| k + 1 => sequence_Visible_s1.body (sequence_Visible_s1.m k)

noncomputable def sequence_Visible_s1 (e_ : Element_sequence) (u1 : (List (K2 × Option (List SeqOp)))) (u2 : (List (K2 × Bool))) (u3 : (List ByteArray)) : Option ((List (K2 × Option (List SeqOp))) × (List ByteArray)) := sequence_Visible_s1.m (100) e_ u1 u2 u3

noncomputable def sequence_Visible.j1 (x1 : List (K2 × Option (List SeqOp))) (x2 : List (K2 × Bool)) : Option ((List ByteArray) × Fault) :=
(sequence_Visible_s1 ({ counter := 0, replica := 0 } : Element_sequence) x1 x2 []).bind fun y2 =>
 some (y2.2, ({ Code := 0, Index := 0 } : Fault))

noncomputable def sequence_Visible.j2 (x3 : Int) (x7 : List (K2 × Option (List SeqOp))) (x8 : List (K2 × Bool)) : Option (Step (Int × (List (K2 × Option (List SeqOp))) × (List (K2 × Bool))) ((List (K2 × Option (List SeqOp))) × (List (K2 × Bool)))) :=
(ckK .i64 (x3 + 1)).bind fun z1 =>
 some (Step.next (z1, x7, x8))

noncomputable def sequence_Visible.j3 (x3 : Int) (x5 : List (K2 × Bool)) (y6 : Element_sequence) (y8 : List SeqOp) (x9 : List SeqOp) (x11 : List (K2 × Option (List SeqOp))) : Option (Step (Int × (List (K2 × Option (List SeqOp))) × (List (K2 × Bool))) ((List (K2 × Option (List SeqOp))) × (List (K2 × Bool)))) :=
(app? 56 y8 x9).bind fun y9 =>
(some (mput x11 (y6.counter, y6.replica) (some y9))).bind fun y10 =>
 sequence_Visible.j2 x3 y10 x5

noncomputable def sequence_Visible.l1 (ops : (List SeqOp)) (x3 : Int) (x4 : List (K2 × Option (List SeqOp))) (x5 : List (K2 × Bool)) : Option (Step (Int × (List (K2 × Option (List SeqOp))) × (List (K2 × Bool))) ((List (K2 × Option (List SeqOp))) × (List (K2 × Bool)))) :=
 if decide (x3 < (ops.length : Int)) then
(at? ops x3).bind fun y3 =>
 if y3.Delete then
(sequence_own y3).bind fun y4 =>
(some (mput x5 (y4.counter, y4.replica) true)).bind fun y5 =>
 sequence_Visible.j2 x3 x4 y5
 else
(sequence_after y3).bind fun y6 =>
(sequence_after y3).bind fun y7 =>
(lookM x4 (y7.counter, y7.replica)).bind fun y8 =>
 sequence_Visible.j3 x3 x5 y6 y8 ([y3] : List SeqOp) (deadM x4 (y7.counter, y7.replica))
 else
 some (Step.done (x4, x5))

noncomputable def sequence_Visible (ops : (List SeqOp)) : Option ((List ByteArray) × Fault) :=
(sequence_Validate ops).bind fun y1 =>
 if !(decide (y1.Code = 0) && decide (y1.Index = 0)) then
 some ([], y1)
 else
(iter (fun s => sequence_Visible.l1 ops s.1 s.2.1 s.2.2) (0, ([] : List (K2 × Option (List SeqOp))), ([] : List (K2 × Bool)))).bind fun r1 =>
 sequence_Visible.j1 r1.1 r1.2

noncomputable def digest_mul.j1 (x1 : Int) : Option Int :=
 some x1

noncomputable def digest_mul.j2 (x3 : Int) (x4 : Int) (x6 : Int) : Option (Step (Int × Int × Int) Int) :=
(ckK .i64 (2 * x3)).bind fun z1 =>
(rem? z1 2305843009213693951).bind fun z2 =>
(shr? .i64 x4 1).bind fun z3 =>
 some (Step.next (x6, z2, z3))

noncomputable def digest_mul.l1 (x2 : Int) (x3 : Int) (x4 : Int) : Option (Step (Int × Int × Int) Int) :=
 if decide (x4 > 0) then
 if decide (andI .i64 x4 1 = 1) then
(ckK .i64 (x2 + x3)).bind fun z4 =>
(rem? z4 2305843009213693951).bind fun z5 =>
 digest_mul.j2 x3 x4 z5
 else
 digest_mul.j2 x3 x4 x2
 else
 some (Step.done x2)

noncomputable def digest_mul (a_ : Int) (b_ : Int) : Option Int :=
(iter (fun s => digest_mul.l1 s.1 s.2.1 s.2.2) (0, a_, b_)).bind fun r1 =>
 digest_mul.j1 r1

noncomputable def digest_next (s_ : Step_digest) (factor : Int) : Option Int :=
(digest_mul s_.e0 factor).bind fun y1 =>
(ckK .i64 (y1 + s_.e1)).bind fun z1 =>
(rem? z1 2305843009213693951).bind fun z2 =>
 some z2

noncomputable def digest_Of.j1 (x1 : Int) : Option (Int × Fault) :=
 some (x1, ({ Code := 0, Index := 0 } : Fault))

noncomputable def digest_Of.l1 (data : (List UInt8)) (x2 : Int) (x3 : Int) : Option (Step (Int × Int) Int) :=
 if decide (x2 < (data.length : Int)) then
(at? data x2).bind fun y1 =>
(ckK .i64 (y1.toNat : Int)).bind fun z1 =>
(ckK .i64 (z1 + 1)).bind fun z2 =>
(digest_next ({ e0 := x3, e1 := z2 } : Step_digest) 257).bind fun y2 =>
(ckK .i64 (x2 + 1)).bind fun z3 =>
 some (Step.next (z3, y2))
 else
 some (Step.done x3)

noncomputable def digest_Of (data : (List UInt8)) : Option (Int × Fault) :=
 if decide ((data.length : Int) > 4096) then
 some (0, ({ Code := 2, Index := 0 } : Fault))
 else
(iter (fun s => digest_Of.l1 data s.1 s.2) (0, 1)).bind fun r1 =>
 digest_Of.j1 r1

noncomputable def digest_pair (a_ : Int) (b_ : Int) : Option Int :=
(digest_next ({ e0 := b_, e1 := 7 } : Step_digest) 31).bind fun y1 =>
(digest_next ({ e0 := a_, e1 := y1 } : Step_digest) 1000003).bind fun y2 =>
 some y2

noncomputable def digest_Strings.j1 (x1 : Int) : Option (Int × Fault) :=
 some (x1, ({ Code := 0, Index := 0 } : Fault))

noncomputable def digest_Strings.l1 (list : (List ByteArray)) (x2 : Int) (x3 : Int) : Option (Step (Int × Int) ((Int × Fault) ⊕ Int)) :=
 if decide (x2 < (list.length : Int)) then
(at? list x2).bind fun y1 =>
(digest_Of y1.data.toList).bind fun y2 =>
 if !(decide (y2.2.Code = 0) && decide (y2.2.Index = 0)) then
 some (Step.done (Sum.inl (0, ({ Code := y2.2.Code, Index := x2 } : Fault))))
 else
(digest_pair x3 y2.1).bind fun y3 =>
(ckK .i64 (x2 + 1)).bind fun z1 =>
 some (Step.next (z1, y3))
 else
 some (Step.done (Sum.inr x3))

noncomputable def digest_Strings (list : (List ByteArray)) : Option (Int × Fault) :=
 if decide ((list.length : Int) > 120) then
 some (0, ({ Code := 2, Index := (-1) } : Fault))
 else
(iter (fun s => digest_Strings.l1 list s.1 s.2) (0, 2)).bind fun r1 =>
(match r1 with
| .inl p => some p
| .inr p => digest_Strings.j1 p)

noncomputable def changeforgetop_TopReplicatedTyping.j1 (x3 : List ByteArray) (x4 : List SeqOp) : Option Bool :=
(sequence_Visible x4).bind fun y3 =>
(digest_Strings y3.1).bind fun y4 =>
(digest_Strings x3).bind fun y5 =>
(if decide (y3.2.Code = 0) then some (decide (y4.2.Code = 0)) else some false).bind fun x5 =>
(if x5 then some (decide (y5.2.Code = 0)) else some false).bind fun x6 =>
(if x6 then (changeforgeequal_Strings y3.1 x3).bind fun y6 =>
 some y6 else some false).bind fun x7 =>
(if x7 then some (decide (y4.1 = y5.1)) else some false).bind fun x8 =>
(if x8 then (changeforgetop_h11Works).bind fun y7 =>
 some y7 else some false).bind fun x9 =>
 some x9

noncomputable def changeforgetop_TopReplicatedTyping.j2 (x10 : Int) (x14 : List SeqOp) (x15 : List ByteArray) : Option (Step (Int × (List ByteArray) × (List SeqOp)) ((List ByteArray) × (List SeqOp))) :=
(ckK .i64 (x10 + 1)).bind fun z2 =>
 some (Step.next (z2, x15, x14))

noncomputable def changeforgetop_TopReplicatedTyping.j3 (l_ : (List ByteArray)) (gone : (List Bool)) (x10 : Int) (x11 : List ByteArray) (x12 : List SeqOp) (z3 : Int) (y8 : ByteArray) (x16 : Int) : Option (Step (Int × (List ByteArray) × (List SeqOp)) ((List ByteArray) × (List SeqOp))) :=
(app? 56 x12 ([({ Delete := false, Replica := 1, Counter := z3, AfterReplica := x16, AfterCounter := x10, Line := y8 } : SeqOp)] : List SeqOp)).bind fun y9 =>
(if decide (x10 < (gone.length : Int)) then (at? gone x10).bind fun y10 =>
 some y10 else some false).bind fun x17 =>
 if x17 then
(ckK .i64 (x10 + 1)).bind fun z4 =>
(app? 56 y9 ([({ Delete := true, Replica := 1, Counter := z4, AfterReplica := 0, AfterCounter := 0, Line := ByteArray.empty } : SeqOp)] : List SeqOp)).bind fun y11 =>
 changeforgetop_TopReplicatedTyping.j2 x10 y11 x11
 else
(at? l_ x10).bind fun y12 =>
(app? 16 x11 ([y12] : List ByteArray)).bind fun y13 =>
 changeforgetop_TopReplicatedTyping.j2 x10 y9 y13

noncomputable def changeforgetop_TopReplicatedTyping.l1 (l_ : (List ByteArray)) (gone : (List Bool)) (x10 : Int) (x11 : List ByteArray) (x12 : List SeqOp) : Option (Step (Int × (List ByteArray) × (List SeqOp)) ((List ByteArray) × (List SeqOp))) :=
 if decide (x10 < (l_.length : Int)) then
(ckK .i64 (x10 + 1)).bind fun z3 =>
(at? l_ x10).bind fun y8 =>
 if decide (x10 = 0) then
 changeforgetop_TopReplicatedTyping.j3 l_ gone x10 x11 x12 z3 y8 0
 else
 changeforgetop_TopReplicatedTyping.j3 l_ gone x10 x11 x12 z3 y8 1
 else
 some (Step.done (x11, x12))

noncomputable def changeforgetop_TopReplicatedTyping (l_ : (List ByteArray)) (gone : (List Bool)) : Option Bool :=
(lines_Validate l_).bind fun y1 =>
(if !decide (y1.Code = 0) then some true else (ckK .i64 (2 * (l_.length : Int))).bind fun z1 =>
 some (decide (z1 > 60))).bind fun x1 =>
(if x1 then some true else some (decide ((gone.length : Int) > (l_.length : Int)))).bind fun x2 =>
 if x2 then
(changeforgetop_h11Works).bind fun y2 =>
 some y2
 else
(iter (fun s => changeforgetop_TopReplicatedTyping.l1 l_ gone s.1 s.2.1 s.2.2) (0, [], [])).bind fun r1 =>
 changeforgetop_TopReplicatedTyping.j1 r1.1 r1.2
end Go.Dc
