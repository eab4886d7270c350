/- The functions as pure models. -/
import Derived.Test.YtmhjcomgbfonfaaGreatDoorDcTy
import Derived.Test.YtmhjcomgbfonfaaGreatDoorDcR
import Derived.Test.YtmhjcomgbfonfaaGreatDoorDcRS
namespace Go.Dc
open Go
set_option linter.unusedVariables false
noncomputable def stringslite_IndexByte (s_ : ByteArray) (c_ : Int) : Option Int :=
 some (idxB s_ c_)

noncomputable def stringslite_Index (s_ : ByteArray) : Option Int :=
 if decide ((⟨#[47]⟩ : ByteArray) = s_) then
 some 0
 else
(sAt? (⟨#[47]⟩ : ByteArray) 0).bind fun y1 =>
(stringslite_IndexByte s_ y1).bind fun y2 =>
 some y2

noncomputable def strings_Index (s_ : ByteArray) : Option Int :=
(stringslite_Index s_).bind fun y1 =>
 some y1

noncomputable def treepatch_Letter (c_ : Int) : Option Bool :=
(if decide (c_ ≥ 97) then some (decide (c_ ≤ 122)) else some false).bind fun x1 =>
(if x1 then some true else (if decide (c_ ≥ 65) then some (decide (c_ ≤ 90)) else some false).bind fun x3 =>
 some x3).bind fun x2 =>
(if x2 then some true else (if decide (c_ ≥ 48) then some (decide (c_ ≤ 57)) else some false).bind fun x5 =>
 some x5).bind fun x4 =>
(if x4 then some true else some (decide (c_ = 46))).bind fun x6 =>
(if x6 then some true else some (decide (c_ = 95))).bind fun x7 =>
(if x7 then some true else some (decide (c_ = 45))).bind fun x8 =>
 some x8

noncomputable def treepatch_ValidPath.j2 : Option Bool :=
 some false

noncomputable def treepatch_ValidPath.j3 : Option Bool :=
 some true

noncomputable def treepatch_ValidPath.j4 : Option Bool :=
 treepatch_ValidPath.j3

noncomputable def treepatch_ValidPath.l1 (x1 : ByteArray) (x4 : Int) : Option (Step Int (Unit ⊕ Unit)) :=
 if decide (x4 < (x1.size : Int)) then
(sAt? x1 x4).bind fun y1 =>
(treepatch_Letter y1).bind fun y2 =>
 if !y2 then
 some (Step.done (Sum.inl ()))
 else
(ckK .i64 (x4 + 1)).bind fun z1 =>
 some (Step.next z1)
 else
 some (Step.done (Sum.inr ()))

noncomputable def treepatch_ValidPath.j1 (x1 : ByteArray) : Option Bool :=
(if decide (x1 = (⟨#[]⟩ : ByteArray)) then some true else some (decide (x1 = (⟨#[46]⟩ : ByteArray)))).bind fun x2 =>
(if x2 then some true else some (decide (x1 = (⟨#[46, 46]⟩ : ByteArray)))).bind fun x3 =>
 if x3 then
 treepatch_ValidPath.j2
 else
(iter (fun s => treepatch_ValidPath.l1 x1 s) 0).bind fun r1 =>
(match r1 with
| .inl _ => treepatch_ValidPath.j2
| .inr _ => treepatch_ValidPath.j4)

noncomputable def treepatch_ValidPath.j5 : Option (Step ByteArray (Bool ⊕ ByteArray)) :=
 some (Step.done (Sum.inl false))

noncomputable def treepatch_ValidPath.j6 (x6 : ByteArray) (y3 : Int) : Option (Step ByteArray (Bool ⊕ ByteArray)) :=
(ckK .i64 (y3 + 1)).bind fun z3 =>
(scut? x6 z3 (x6.size : Int)).bind fun y5 =>
 some (Step.next y5)

noncomputable def treepatch_ValidPath.j7 (x6 : ByteArray) (y3 : Int) : Option (Step ByteArray (Bool ⊕ ByteArray)) :=
 treepatch_ValidPath.j6 x6 y3

noncomputable def treepatch_ValidPath.l3 (y4 : ByteArray) (x10 : Int) : Option (Step Int (Unit ⊕ Unit)) :=
 if decide (x10 < (y4.size : Int)) then
(sAt? y4 x10).bind fun y6 =>
(treepatch_Letter y6).bind fun y7 =>
 if !y7 then
 some (Step.done (Sum.inl ()))
 else
(ckK .i64 (x10 + 1)).bind fun z4 =>
 some (Step.next z4)
 else
 some (Step.done (Sum.inr ()))

noncomputable def treepatch_ValidPath.l2 (x6 : ByteArray) : Option (Step ByteArray (Bool ⊕ ByteArray)) :=
(strings_Index x6).bind fun y3 =>
 if decide (y3 < 0) then
 some (Step.done (Sum.inr x6))
 else
(ckK .i64 (y3 + 0)).bind fun z2 =>
(scut? x6 0 z2).bind fun y4 =>
(if decide (y4 = (⟨#[]⟩ : ByteArray)) then some true else some (decide (y4 = (⟨#[46]⟩ : ByteArray)))).bind fun x8 =>
(if x8 then some true else some (decide (y4 = (⟨#[46, 46]⟩ : ByteArray)))).bind fun x9 =>
 if x9 then
 treepatch_ValidPath.j5
 else
(iter (fun s => treepatch_ValidPath.l3 y4 s) 0).bind fun r3 =>
(match r3 with
| .inl _ => treepatch_ValidPath.j5
| .inr _ => treepatch_ValidPath.j7 x6 y3)

noncomputable def treepatch_ValidPath (path : ByteArray) : Option Bool :=
 if decide ((path.size : Int) > 60) then
 some false
 else
(iter (fun s => treepatch_ValidPath.l2 s) path).bind fun r2 =>
(match r2 with
| .inl p => some p
| .inr p => treepatch_ValidPath.j1 p)

noncomputable def strings_IndexByte (s_ : ByteArray) (c_ : Int) : Option Int :=
(stringslite_IndexByte s_ c_).bind fun y1 =>
 some y1

noncomputable def lines_Validate.j1 : Option Fault :=
 some ({ Code := 0, Index := 0 } : Fault)

noncomputable def lines_Validate.l1 (lines : (List ByteArray)) (x1 : Int) : Option (Step Int (Fault ⊕ Unit)) :=
 if decide (x1 < (lines.length : Int)) then
(at? lines x1).bind fun y1 =>
 if decide ((y1.size : Int) > 80) then
 some (Step.done (Sum.inl ({ Code := 2, Index := x1 } : Fault)))
 else
(strings_IndexByte y1 10).bind fun y2 =>
 if decide (y2 ≥ 0) then
 some (Step.done (Sum.inl ({ Code := 5, Index := x1 } : Fault)))
 else
(ckK .i64 (x1 + 1)).bind fun z1 =>
 some (Step.next z1)
 else
 some (Step.done (Sum.inr ()))

noncomputable def lines_Validate (lines : (List ByteArray)) : Option Fault :=
 if decide ((lines.length : Int) > 120) then
 some ({ Code := 2, Index := (-1) } : Fault)
 else
(iter (fun s => lines_Validate.l1 lines s) 0).bind fun r1 =>
(match r1 with
| .inl p => some p
| .inr _ => lines_Validate.j1)

noncomputable def textpatch_End (h_ : Hunk) : Option Int :=
(ckK .i64 (h_.At + (h_.Old.length : Int))).bind fun z1 =>
 some z1

noncomputable def textpatch_hunk.j1 (h_ : Hunk) (end_ : Int) : Option Int :=
(ckK .i64 ((h_.Old.length : Int) + (h_.New.length : Int))).bind fun z1 =>
(if decide (z1 = 0) then some true else some (decide (h_.At ≤ end_))).bind fun x2 =>
 if x2 then
 some 5
 else
(textpatch_End h_).bind fun y1 =>
 if decide (y1 > 120) then
 some 3
 else
 some 0

noncomputable def textpatch_hunk.l1 (h_ : Hunk) (x3 : Int) : Option (Step Int (Int ⊕ Unit)) :=
 if decide (x3 < 2) then
(at? ([h_.Old, h_.New] : List (List ByteArray)) x3).bind fun y2 =>
(lines_Validate y2).bind fun y3 =>
 if !(decide (y3.Code = 0) && decide (y3.Index = 0)) then
 some (Step.done (Sum.inl y3.Code))
 else
(ckK .i64 (x3 + 1)).bind fun z2 =>
 some (Step.next z2)
 else
 some (Step.done (Sum.inr ()))

noncomputable def textpatch_hunk (h_ : Hunk) (end_ : Int) : Option Int :=
(if decide (h_.At < 0) then some true else some (decide (h_.At > 120))).bind fun x1 =>
 if x1 then
 some 3
 else
(iter (fun s => textpatch_hunk.l1 h_ s) 0).bind fun r1 =>
(match r1 with
| .inl p => some p
| .inr _ => textpatch_hunk.j1 h_ end_)

noncomputable def textpatch_Validate.j1 : Option Fault :=
 some ({ Code := 0, Index := 0 } : Fault)

noncomputable def textpatch_Validate.l1 (p_ : Patch) (x1 : Int) (x2 : Int) : Option (Step (Int × Int) (Fault ⊕ Unit)) :=
 if decide (x1 < (p_.Hunks.length : Int)) then
(at? p_.Hunks x1).bind fun y1 =>
(textpatch_hunk y1 x2).bind fun y2 =>
 if !decide (y2 = 0) then
 some (Step.done (Sum.inl ({ Code := y2, Index := x1 } : Fault)))
 else
(textpatch_End y1).bind fun y3 =>
(ckK .i64 (x1 + 1)).bind fun z1 =>
 some (Step.next (z1, y3))
 else
 some (Step.done (Sum.inr ()))

noncomputable def textpatch_Validate (p_ : Patch) : Option Fault :=
 if decide ((p_.Hunks.length : Int) > 130) then
 some ({ Code := 2, Index := (-1) } : Fault)
 else
(iter (fun s => textpatch_Validate.l1 p_ s.1 s.2) (0, (-1))).bind fun r1 =>
(match r1 with
| .inl p => some p
| .inr _ => textpatch_Validate.j1)

noncomputable def stringslite_HasPrefix (s_ : ByteArray) (prefix_ : ByteArray) : Option Bool :=
(if decide ((s_.size : Int) ≥ (prefix_.size : Int)) then (scut? s_ 0 (prefix_.size : Int)).bind fun y1 =>
 some (decide (y1 = prefix_)) else some false).bind fun x1 =>
 some x1

noncomputable def strings_HasPrefix (s_ : ByteArray) (prefix_ : ByteArray) : Option Bool :=
(stringslite_HasPrefix s_ prefix_).bind fun y1 =>
 some y1

noncomputable def treepatch_Related (a_ : ByteArray) (b_ : ByteArray) : Option Bool :=
(if decide (a_ = b_) then some true else (cat? b_ (⟨#[47]⟩ : ByteArray)).bind fun z1 =>
(strings_HasPrefix a_ z1).bind fun y1 =>
 some y1).bind fun x1 =>
(if x1 then some true else (cat? a_ (⟨#[47]⟩ : ByteArray)).bind fun z2 =>
(strings_HasPrefix b_ z2).bind fun y2 =>
 some y2).bind fun x2 =>
 some x2

noncomputable def treepatch_check (c_ : TreeChange) : Option Int :=
(if decide (c_.Kind < 1) then some true else some (decide (c_.Kind > 4))).bind fun x1 =>
 if x1 then
 some 4
 else
(treepatch_ValidPath c_.Path).bind fun y1 =>
(if !y1 then some true else (if decide (c_.Kind = 3) then (treepatch_ValidPath c_.To).bind fun y2 =>
 some !y2 else some false).bind fun x3 =>
 some x3).bind fun x2 =>
 if x2 then
 some 12
 else
(if !(decide (c_.Kind = 3)) then some (!decide (c_.To = (⟨#[]⟩ : ByteArray))) else some false).bind fun x4 =>
(if x4 then some true else (if decide (c_.Kind = 3) then (treepatch_Related c_.Path c_.To).bind fun y3 =>
 some y3 else some false).bind fun x6 =>
 some x6).bind fun x5 =>
 if x5 then
 some 5
 else
(if decide ((c_.Lines.length : Int) > 0) then (if decide (c_.Kind = 4) then some true else some (decide (c_.Kind = 3))).bind fun x8 =>
 some x8 else some false).bind fun x7 =>
 if x7 then
 some 5
 else
 if !decide (decide (c_.Kind = 4) = decide ((c_.Patch.Hunks.length : Int) > 0)) then
 some 5
 else
(lines_Validate c_.Lines).bind fun y4 =>
 if !(decide (y4.Code = 0) && decide (y4.Index = 0)) then
 some y4.Code
 else
(textpatch_Validate c_.Patch).bind fun y5 =>
 some y5.Code

noncomputable def treepatch_ValidatePatch.j1 : Option Fault :=
 some ({ Code := 0, Index := 0 } : Fault)

noncomputable def treepatch_ValidatePatch.l1 (p_ : TreePatch) (x1 : Int) : Option (Step Int (Fault ⊕ Unit)) :=
 if decide (x1 < (p_.Changes.length : Int)) then
(at? p_.Changes x1).bind fun y1 =>
(treepatch_check y1).bind fun y2 =>
 if !decide (y2 = 0) then
 some (Step.done (Sum.inl ({ Code := y2, Index := x1 } : Fault)))
 else
(ckK .i64 (x1 + 1)).bind fun z1 =>
 some (Step.next z1)
 else
 some (Step.done (Sum.inr ()))

noncomputable def treepatch_ValidatePatch (p_ : TreePatch) : Option Fault :=
 if decide ((p_.Changes.length : Int) > 30) then
 some ({ Code := 2, Index := (-1) } : Fault)
 else
(iter (fun s => treepatch_ValidatePatch.l1 p_ s) 0).bind fun r1 =>
(match r1 with
| .inl p => some p
| .inr _ => treepatch_ValidatePatch.j1)

noncomputable def treepatch_Clash.j1 : Option Bool :=
 some false

noncomputable def treepatch_Clash.l1 (files : (List File)) (path : ByteArray) (except : Int) (x1 : Int) : Option (Step Int (Bool ⊕ Unit)) :=
 if decide (x1 < (files.length : Int)) then
(at? files x1).bind fun y1 =>
(if !decide (x1 = except) then (treepatch_Related y1.Path path).bind fun y2 =>
 some y2 else some false).bind fun x3 =>
 if x3 then
 some (Step.done (Sum.inl true))
 else
(ckK .i64 (x1 + 1)).bind fun z1 =>
 some (Step.next z1)
 else
 some (Step.done (Sum.inr ()))

noncomputable def treepatch_Clash (files : (List File)) (path : ByteArray) (except : Int) : Option Bool :=
(iter (fun s => treepatch_Clash.l1 files path except s) 0).bind fun r1 =>
(match r1 with
| .inl p => some p
| .inr _ => treepatch_Clash.j1)

noncomputable def lines_Second (b_ : (List ByteArray)) (index : Int) : Option Fault :=
(lines_Validate b_).bind fun y1 =>
 if !(decide (y1.Code = 0) && decide (y1.Index = 0)) then
 some ({ Code := y1.Code, Index := index } : Fault)
 else
 some ({ Code := 0, Index := 0 } : Fault)

noncomputable def treepatch_Validate.j1 : Option Fault :=
 some ({ Code := 0, Index := 0 } : Fault)

noncomputable def treepatch_Validate.l1 (t_ : FileTree) (x1 : Int) : Option (Step Int (Fault ⊕ Unit)) :=
 if decide (x1 < (t_.Files.length : Int)) then
(at? t_.Files x1).bind fun y1 =>
(treepatch_ValidPath y1.Path).bind fun y2 =>
 if !y2 then
 some (Step.done (Sum.inl ({ Code := 12, Index := x1 } : Fault)))
 else
(if decide (x1 > 0) then (ckK .i64 (x1 - 1)).bind fun z1 =>
(at? t_.Files z1).bind fun y3 =>
 some (sLt y1.Path y3.Path || decide (y1.Path = y3.Path)) else some false).bind fun x3 =>
 if x3 then
 some (Step.done (Sum.inl ({ Code := 5, Index := x1 } : Fault)))
 else
(cut? t_.Files 0 x1).bind fun y4 =>
(treepatch_Clash y4 y1.Path (-1)).bind fun y5 =>
 if y5 then
 some (Step.done (Sum.inl ({ Code := 7, Index := x1 } : Fault)))
 else
(lines_Second y1.Lines x1).bind fun y6 =>
 if !(decide (y6.Code = 0) && decide (y6.Index = 0)) then
 some (Step.done (Sum.inl y6))
 else
(ckK .i64 (x1 + 1)).bind fun z2 =>
 some (Step.next z2)
 else
 some (Step.done (Sum.inr ()))

noncomputable def treepatch_Validate (t_ : FileTree) : Option Fault :=
 if decide ((t_.Files.length : Int) > 24) then
 some ({ Code := 2, Index := (-1) } : Fault)
 else
(iter (fun s => treepatch_Validate.l1 t_ s) 0).bind fun r1 =>
(match r1 with
| .inl p => some p
| .inr _ => treepatch_Validate.j1)

noncomputable def treepatch_Second (t_ : FileTree) (index : Int) : Option Fault :=
(treepatch_Validate t_).bind fun y1 =>
 if !(decide (y1.Code = 0) && decide (y1.Index = 0)) then
 some ({ Code := y1.Code, Index := index } : Fault)
 else
 some ({ Code := 0, Index := 0 } : Fault)

noncomputable def slices_Clone (s_ : (List ByteArray)) : Option (List ByteArray) :=
 nilIf s_ (
 some []) (
(app? 16 ([] : List ByteArray) s_).bind fun y1 =>
 some y1)

noncomputable def treepatch_CopyTree.j1 (x1 : List File) : Option FileTree :=
 some ({ Files := x1 } : FileTree)

noncomputable def treepatch_CopyTree.l1 (t_ : FileTree) (x2 : Int) (x3 : List File) : Option (Step (Int × (List File)) (List File)) :=
 if decide (x2 < (t_.Files.length : Int)) then
(at? t_.Files x2).bind fun y1 =>
(slices_Clone y1.Lines).bind fun y2 =>
(app? 40 x3 ([({ Path := y1.Path, Lines := y2 } : File)] : List File)).bind fun y3 =>
(ckK .i64 (x2 + 1)).bind fun z1 =>
 some (Step.next (z1, y3))
 else
 some (Step.done x3)

noncomputable def treepatch_CopyTree (t_ : FileTree) : Option FileTree :=
(iter (fun s => treepatch_CopyTree.l1 t_ s.1 s.2) (0, [])).bind fun r1 =>
 treepatch_CopyTree.j1 r1

noncomputable def slices_Equal.j1 : Option Bool :=
 some true

noncomputable def slices_Equal.l1 (s1_ : (List ByteArray)) (s2_ : (List ByteArray)) (x1 : Int) : Option (Step Int (Bool ⊕ Unit)) :=
 if decide (x1 < (s1_.length : Int)) then
(at? s1_ x1).bind fun y1 =>
(at? s2_ x1).bind fun y2 =>
 if !decide (y1 = y2) then
 some (Step.done (Sum.inl false))
 else
(ckK .i64 (x1 + 1)).bind fun z1 =>
 some (Step.next z1)
 else
 some (Step.done (Sum.inr ()))

noncomputable def slices_Equal (s1_ : (List ByteArray)) (s2_ : (List ByteArray)) : Option Bool :=
 if !decide ((s1_.length : Int) = (s2_.length : Int)) then
 some false
 else
(iter (fun s => slices_Equal.l1 s1_ s2_ s) 0).bind fun r1 =>
(match r1 with
| .inl p => some p
| .inr _ => slices_Equal.j1)

noncomputable def lines_Occurs (text : (List ByteArray)) (part : (List ByteArray)) (at_ : Int) : Option Bool :=
(if decide (at_ ≥ 0) then some (decide (at_ ≤ (text.length : Int))) else some false).bind fun x1 =>
(if x1 then (ckK .i64 ((text.length : Int) - at_)).bind fun z1 =>
 some (decide ((part.length : Int) ≤ z1)) else some false).bind fun x2 =>
(if x2 then (ckK .i64 (at_ + (part.length : Int))).bind fun z2 =>
(cut? text at_ z2).bind fun y1 =>
(slices_Equal y1 part).bind fun y2 =>
 some y2 else some false).bind fun x3 =>
 some x3

noncomputable def textpatch_Raw.j1 (text : (List ByteArray)) (high : Int) (x1 : List ByteArray) (x2 : Int) : Option (List ByteArray) :=
(cut? text x2 high).bind fun y1 =>
(app? 16 x1 y1).bind fun y2 =>
 some y2

noncomputable def textpatch_Raw.l1 (hunks : (List Hunk)) (text : (List ByteArray)) (x3 : Int) (x4 : List ByteArray) (x5 : Int) : Option (Step (Int × (List ByteArray) × Int) ((List ByteArray) × Int)) :=
 if decide (x3 < (hunks.length : Int)) then
(at? hunks x3).bind fun y3 =>
(cut? text x5 y3.At).bind fun y4 =>
(app? 16 x4 y4).bind fun y5 =>
(app? 16 y5 y3.New).bind fun y6 =>
(textpatch_End y3).bind fun y7 =>
(ckK .i64 (x3 + 1)).bind fun z1 =>
 some (Step.next (z1, y6, y7))
 else
 some (Step.done (x4, x5))

noncomputable def textpatch_Raw (hunks : (List Hunk)) (text : (List ByteArray)) (low : Int) (high : Int) : Option (List ByteArray) :=
(iter (fun s => textpatch_Raw.l1 hunks text s.1 s.2.1 s.2.2) (0, [], low)).bind fun r1 =>
 textpatch_Raw.j1 text high r1.1 r1.2

noncomputable def textpatch_Apply.j1 (p_ : Patch) (text : (List ByteArray)) : Option ((List ByteArray) × Fault) :=
(textpatch_Raw p_.Hunks text 0 (text.length : Int)).bind fun y3 =>
 if decide ((y3.length : Int) > 120) then
 some ([], ({ Code := 10, Index := (-1) } : Fault))
 else
 some (y3, ({ Code := 0, Index := 0 } : Fault))

noncomputable def textpatch_Apply.l1 (p_ : Patch) (text : (List ByteArray)) (x1 : Int) : Option (Step Int (((List ByteArray) × Fault) ⊕ Unit)) :=
 if decide (x1 < (p_.Hunks.length : Int)) then
(at? p_.Hunks x1).bind fun y4 =>
(lines_Occurs text y4.Old y4.At).bind fun y5 =>
 if !y5 then
 some (Step.done (Sum.inl ([], ({ Code := 19, Index := x1 } : Fault))))
 else
(ckK .i64 (x1 + 1)).bind fun z1 =>
 some (Step.next z1)
 else
 some (Step.done (Sum.inr ()))

noncomputable def textpatch_Apply (p_ : Patch) (text : (List ByteArray)) : Option ((List ByteArray) × Fault) :=
(textpatch_Validate p_).bind fun y1 =>
 if !(decide (y1.Code = 0) && decide (y1.Index = 0)) then
 some ([], y1)
 else
(lines_Second text (-2)).bind fun y2 =>
 if !(decide (y2.Code = 0) && decide (y2.Index = 0)) then
 some ([], y2)
 else
(iter (fun s => textpatch_Apply.l1 p_ text s) 0).bind fun r1 =>
(match r1 with
| .inl p => some p
| .inr _ => textpatch_Apply.j1 p_ text)

noncomputable def bytealg_CompareString (a_ : ByteArray) (b_ : ByteArray) : Option Int :=
 some (cmpB a_ b_)

noncomputable def strings_Compare (a_ : ByteArray) (b_ : ByteArray) : Option Int :=
(bytealg_CompareString a_ b_).bind fun y1 =>
 some y1

noncomputable def treepatch_Find_s1 (f : File) (path : ByteArray) : Option Int :=
(strings_Compare f.Path path).bind fun y1 =>
 some y1

noncomputable def treepatch_Find.j1 (files : (List File)) (path : ByteArray) (x1 : Int) : Option (Int × Bool) :=
(if decide (x1 < (files.length : Int)) then (at? files x1).bind fun y1 =>
(treepatch_Find_s1 y1 path).bind fun y2 =>
 some (decide (y2 = 0)) else some false).bind fun x2 =>
 some (x1, x2)

noncomputable def treepatch_Find.l1 (files : (List File)) (path : ByteArray) (x3 : Int) (x4 : Int) : Option (Step (Int × Int) Int) :=
 if decide (x4 < x3) then
(ckK .i64 (x4 + x3)).bind fun z1 =>
(ckK .u64 z1).bind fun z2 =>
(shr? .u64 z2 1).bind fun z3 =>
(ckK .i64 z3).bind fun z4 =>
(at? files z4).bind fun y3 =>
(treepatch_Find_s1 y3 path).bind fun y4 =>
 if decide (y4 < 0) then
(ckK .i64 (z4 + 1)).bind fun z5 =>
 some (Step.next (x3, z5))
 else
 some (Step.next (z4, x4))
 else
 some (Step.done x4)

noncomputable def treepatch_Find (files : (List File)) (path : ByteArray) : Option (Int × Bool) :=
(iter (fun s => treepatch_Find.l1 files path s.1 s.2) ((files.length : Int), 0)).bind fun r1 =>
 treepatch_Find.j1 files path r1

noncomputable def treepatch_Put.j1 (l_ : (List ByteArray)) (y1 : Int × Bool) (x1 : List File) : Option FileTree :=
(slices_Clone l_).bind fun y2 =>
(at? x1 y1.1).bind fun y3 =>
(some (x1.set y1.1.toNat ({ Path := y3.Path, Lines := y2 } : File))).bind fun y4 =>
 some ({ Files := y4 } : FileTree)

noncomputable def treepatch_Put (t_ : FileTree) (path : ByteArray) (l_ : (List ByteArray)) : Option FileTree :=
(treepatch_Find t_.Files path).bind fun y1 =>
 if !y1.2 then
(ins? 40 t_.Files y1.1 ([({ Path := path, Lines := [] } : File)] : List File)).bind fun y5 =>
 treepatch_Put.j1 l_ y1 y5
 else
 treepatch_Put.j1 l_ y1 t_.Files

noncomputable def treepatch_make1.j1 (x1 : List File) : Option (Int × FileTree) :=
 some (0, ({ Files := x1 } : FileTree))

noncomputable def treepatch_make1 (c_ : TreeChange) (t_ : FileTree) : Option (Int × FileTree) :=
(treepatch_Find t_.Files c_.Path).bind fun y1 =>
 if decide (c_.Kind = 1) then
(treepatch_Clash t_.Files c_.Path (-1)).bind fun y2 =>
 if y2 then
 some (7, t_)
 else
 if decide ((t_.Files.length : Int) ≥ 24) then
 some (14, t_)
 else
(treepatch_Put t_ c_.Path c_.Lines).bind fun y3 =>
 some (0, y3)
 else
 if !y1.2 then
 some (6, t_)
 else
(at? t_.Files y1.1).bind fun y4 =>
 if decide (c_.Kind = 2) then
(slices_Equal y4.Lines c_.Lines).bind fun y5 =>
 if !y5 then
 some (19, t_)
 else
(ckK .i64 (y1.1 + 1)).bind fun z1 =>
(del? t_.Files y1.1 z1).bind fun y6 =>
 treepatch_make1.j1 y6
 else
 if decide (c_.Kind = 3) then
(treepatch_Clash t_.Files c_.To y1.1).bind fun y7 =>
 if y7 then
 some (7, t_)
 else
(ckK .i64 (y1.1 + 1)).bind fun z2 =>
(del? t_.Files y1.1 z2).bind fun y8 =>
(treepatch_Put ({ Files := y8 } : FileTree) c_.To y4.Lines).bind fun y9 =>
 treepatch_make1.j1 y9.Files
 else
(textpatch_Apply c_.Patch y4.Lines).bind fun y10 =>
 if !(decide (y10.2.Code = 0) && decide (y10.2.Index = 0)) then
 some (y10.2.Code, t_)
 else
(at? t_.Files y1.1).bind fun y11 =>
(some (t_.Files.set y1.1.toNat ({ Path := y11.Path, Lines := y10.1 } : File))).bind fun y12 =>
 treepatch_make1.j1 y12

noncomputable def treepatch_Apply.j1 (x1 : List File) : Option (FileTree × Fault) :=
 some (({ Files := x1 } : FileTree), ({ Code := 0, Index := 0 } : Fault))

noncomputable def treepatch_Apply.l1 (p_ : TreePatch) (x2 : Int) (x3 : List File) : Option (Step (Int × (List File)) ((FileTree × Fault) ⊕ (List File))) :=
 if decide (x2 < (p_.Changes.length : Int)) then
(at? p_.Changes x2).bind fun y4 =>
(treepatch_make1 y4 ({ Files := x3 } : FileTree)).bind fun y5 =>
 if !decide (y5.1 = 0) then
 some (Step.done (Sum.inl (({ Files := [] } : FileTree), ({ Code := y5.1, Index := x2 } : Fault))))
 else
(ckK .i64 (x2 + 1)).bind fun z1 =>
 some (Step.next (z1, y5.2.Files))
 else
 some (Step.done (Sum.inr x3))

noncomputable def treepatch_Apply (p_ : TreePatch) (t_ : FileTree) : Option (FileTree × Fault) :=
(treepatch_ValidatePatch p_).bind fun y1 =>
 if !(decide (y1.Code = 0) && decide (y1.Index = 0)) then
 some (({ Files := [] } : FileTree), y1)
 else
(treepatch_Second t_ (-2)).bind fun y2 =>
 if !(decide (y2.Code = 0) && decide (y2.Index = 0)) then
 some (({ Files := [] } : FileTree), y2)
 else
(treepatch_CopyTree t_).bind fun y3 =>
(iter (fun s => treepatch_Apply.l1 p_ s.1 s.2) (0, y3.Files)).bind fun r1 =>
(match r1 with
| .inl p => some p
| .inr p => treepatch_Apply.j1 p)

noncomputable def cmp_isNaN (x_ : ByteArray) : Option Bool :=
 some (!decide (x_ = x_))

noncomputable def lines_Both (a_ : (List ByteArray)) (b_ : (List ByteArray)) : Option Fault :=
(lines_Validate a_).bind fun y1 =>
 if !(decide (y1.Code = 0) && decide (y1.Index = 0)) then
 some y1
 else
(lines_Second b_ (-2)).bind fun y2 =>
 some y2

noncomputable def diff_Align_s1 (i_ : Int) (j : Int) (u2 : (List Int)) (u3 : Int) : Option Int :=
(ckK .i64 (i_ * u3)).bind fun z1 =>
(ckK .i64 (z1 + j)).bind fun z2 =>
(at? u2 z2).bind fun y1 =>
 some y1

noncomputable def diff_Align.j2 (x2 : List Int) : Option (List Int) :=
 some x2

noncomputable def diff_Align.l1 (a_ : (List ByteArray)) (b_ : (List ByteArray)) (z1 : Int) (x1 : List Int) (x3 : Int) (x4 : Int) (x5 : List Int) : Option (Step (Int × Int × (List Int)) (List Int)) :=
(if decide (x4 < (a_.length : Int)) then some true else some (decide (x3 < (b_.length : Int)))).bind fun x7 =>
 if x7 then
(if decide (x4 < (a_.length : Int)) then some (decide (x3 < (b_.length : Int))) else some false).bind fun x8 =>
(if x8 then (at? a_ x4).bind fun y2 =>
(at? b_ x3).bind fun y3 =>
 some (decide (y2 = y3)) else some false).bind fun x9 =>
 if x9 then
(app? 8 x5 ([0] : List Int)).bind fun y4 =>
(ckK .i64 (x4 + 1)).bind fun z4 =>
(ckK .i64 (x3 + 1)).bind fun z5 =>
 some (Step.next (z5, z4, y4))
 else
(if decide (x3 = (b_.length : Int)) then some true else (if decide (x4 < (a_.length : Int)) then (ckK .i64 (x4 + 1)).bind fun z6 =>
(diff_Align_s1 z6 x3 x1 z1).bind fun y5 =>
(ckK .i64 (x3 + 1)).bind fun z7 =>
(diff_Align_s1 x4 z7 x1 z1).bind fun y6 =>
 some (decide (y5 ≥ y6)) else some false).bind fun x11 =>
 some x11).bind fun x10 =>
 if x10 then
(app? 8 x5 ([1] : List Int)).bind fun y7 =>
(ckK .i64 (x4 + 1)).bind fun z8 =>
 some (Step.next (x3, z8, y7))
 else
(app? 8 x5 ([2] : List Int)).bind fun y8 =>
(ckK .i64 (x3 + 1)).bind fun z9 =>
 some (Step.next (z9, x4, y8))
 else
 some (Step.done x5)

noncomputable def diff_Align.j1 (a_ : (List ByteArray)) (b_ : (List ByteArray)) (z1 : Int) (x1 : List Int) : Option (List Int) :=
(iter (fun s => diff_Align.l1 a_ b_ z1 x1 s.1 s.2.1 s.2.2) (0, 0, [])).bind fun r1 =>
 diff_Align.j2 r1

noncomputable def diff_Align.j3 (x12 : Int) (x15 : List Int) : Option (Step (Int × (List Int)) (List Int)) :=
(ckK .i64 (x12 - 1)).bind fun z11 =>
 some (Step.next (z11, x15))

noncomputable def diff_Align.j4 (x12 : Int) (x16 : List Int) : Option (Step (Int × (List Int)) (List Int)) :=
 diff_Align.j3 x12 x16

noncomputable def diff_Align.j5 (z1 : Int) (x12 : Int) (x17 : Int) (x18 : List Int) (x20 : Int) : Option (Step (Int × (List Int)) (List Int)) :=
(ckK .i64 (x12 * z1)).bind fun z15 =>
(ckK .i64 (z15 + x17)).bind fun z16 =>
(at? x18 z16).bind fun y11 =>
(some (x18.set z16.toNat x20)).bind fun y12 =>
(ckK .i64 (x17 - 1)).bind fun z17 =>
 some (Step.next (z17, y12))

noncomputable def diff_Align.l3 (a_ : (List ByteArray)) (b_ : (List ByteArray)) (z1 : Int) (x12 : Int) (x17 : Int) (x18 : List Int) : Option (Step (Int × (List Int)) (List Int)) :=
 if decide (x17 ≥ 0) then
(ckK .i64 (x12 + 1)).bind fun z13 =>
(diff_Align_s1 z13 x17 x18 z1).bind fun y9 =>
(ckK .i64 (x17 + 1)).bind fun z14 =>
(diff_Align_s1 x12 z14 x18 z1).bind fun y10 =>
(at? a_ x12).bind fun y13 =>
(at? b_ x17).bind fun y14 =>
 if decide (y13 = y14) then
(ckK .i64 (x12 + 1)).bind fun z18 =>
(ckK .i64 (x17 + 1)).bind fun z19 =>
(diff_Align_s1 z18 z19 x18 z1).bind fun y15 =>
(ckK .i64 (y15 + 1)).bind fun z20 =>
 diff_Align.j5 z1 x12 x17 x18 z20
 else
 diff_Align.j5 z1 x12 x17 x18 (max y9 y10)
 else
 some (Step.done x18)

noncomputable def diff_Align.l2 (a_ : (List ByteArray)) (b_ : (List ByteArray)) (z1 : Int) (x12 : Int) (x13 : List Int) : Option (Step (Int × (List Int)) (List Int)) :=
 if decide (x12 ≥ 0) then
(ckK .i64 ((b_.length : Int) - 1)).bind fun z12 =>
(iter (fun s => diff_Align.l3 a_ b_ z1 x12 s.1 s.2) (z12, x13)).bind fun r3 =>
 diff_Align.j4 x12 r3
 else
 some (Step.done x13)

noncomputable def diff_Align (a_ : (List ByteArray)) (b_ : (List ByteArray)) : Option (List Int) :=
(ckK .i64 ((b_.length : Int) + 1)).bind fun z1 =>
(ckK .i64 ((a_.length : Int) + 1)).bind fun z2 =>
(ckK .i64 (z2 * z1)).bind fun z3 =>
(mk? 8 z3 (0 : Int)).bind fun y1 =>
(ckK .i64 ((a_.length : Int) - 1)).bind fun z10 =>
(iter (fun s => diff_Align.l2 a_ b_ z1 s.1 s.2) (z10, y1)).bind fun r2 =>
 diff_Align.j1 a_ b_ z1 r2

noncomputable def changeforgeequal_Strings.j1 : Option Bool :=
 some true

noncomputable def changeforgeequal_Strings.l1 (a_ : (List ByteArray)) (b_ : (List ByteArray)) (x1 : Int) : Option (Step Int (Bool ⊕ Unit)) :=
 if decide (x1 < (a_.length : Int)) then
(at? a_ x1).bind fun y1 =>
(at? b_ x1).bind fun y2 =>
 if !decide (y1 = y2) then
 some (Step.done (Sum.inl false))
 else
(ckK .i64 (x1 + 1)).bind fun z1 =>
 some (Step.next z1)
 else
 some (Step.done (Sum.inr ()))

noncomputable def changeforgeequal_Strings (a_ : (List ByteArray)) (b_ : (List ByteArray)) : Option Bool :=
 if !decide ((a_.length : Int) = (b_.length : Int)) then
 some false
 else
(iter (fun s => changeforgeequal_Strings.l1 a_ b_ s) 0).bind fun r1 =>
(match r1 with
| .inl p => some p
| .inr _ => changeforgeequal_Strings.j1)

noncomputable def changeforgeequal_Tree.j1 : Option Bool :=
 some true

noncomputable def changeforgeequal_Tree.l1 (a_ : FileTree) (b_ : FileTree) (x1 : Int) : Option (Step Int (Bool ⊕ Unit)) :=
 if decide (x1 < (a_.Files.length : Int)) then
(at? a_.Files x1).bind fun y1 =>
(at? b_.Files x1).bind fun y2 =>
(if !decide (y1.Path = y2.Path) then some true else (at? a_.Files x1).bind fun y3 =>
(at? b_.Files x1).bind fun y4 =>
(changeforgeequal_Strings y3.Lines y4.Lines).bind fun y5 =>
 some !y5).bind fun x3 =>
 if x3 then
 some (Step.done (Sum.inl false))
 else
(ckK .i64 (x1 + 1)).bind fun z1 =>
 some (Step.next z1)
 else
 some (Step.done (Sum.inr ()))

noncomputable def changeforgeequal_Tree (a_ : FileTree) (b_ : FileTree) : Option Bool :=
 if !decide ((a_.Files.length : Int) = (b_.Files.length : Int)) then
 some false
 else
(iter (fun s => changeforgeequal_Tree.l1 a_ b_ s) 0).bind fun r1 =>
(match r1 with
| .inl p => some p
| .inr _ => changeforgeequal_Tree.j1)

noncomputable def changeforgelaw2_one (path : ByteArray) (l_ : (List ByteArray)) : Option FileTree :=
 some ({ Files := ([({ Path := path, Lines := l_ } : File)] : List File) } : FileTree)

noncomputable def changeforgelaw2_change (c_ : TreeChange) : Option TreePatch :=
 some ({ Changes := ([c_] : List TreeChange) } : TreePatch)

noncomputable def changeforgelaw2_renamed.j1 (x1 : Bool) : Option Bool :=
 some x1

noncomputable def changeforgelaw2_renamed : Option Bool :=
(changeforgelaw2_change ({ Kind := 3, Path := (⟨#[97]⟩ : ByteArray), To := (⟨#[98]⟩ : ByteArray), Lines := [], Patch := ({ Hunks := [] } : Patch) } : TreeChange)).bind fun y1 =>
(changeforgelaw2_one (⟨#[97]⟩ : ByteArray) ([(⟨#[120]⟩ : ByteArray)] : List ByteArray)).bind fun y2 =>
(treepatch_Apply y1 y2).bind fun y3 =>
 if decide (y3.2.Code = 0) then
(changeforgelaw2_one (⟨#[98]⟩ : ByteArray) ([(⟨#[120]⟩ : ByteArray)] : List ByteArray)).bind fun y4 =>
(changeforgeequal_Tree y3.1 y4).bind fun y5 =>
 if y5 then
(treepatch_ValidPath (⟨#[97, 47, 98, 46, 103, 111]⟩ : ByteArray)).bind fun y6 =>
 if y6 then
(treepatch_ValidPath (⟨#[47, 97]⟩ : ByteArray)).bind fun y7 =>
 changeforgelaw2_renamed.j1 !y7
 else
 changeforgelaw2_renamed.j1 false
 else
 changeforgelaw2_renamed.j1 false
 else
 changeforgelaw2_renamed.j1 false

noncomputable def api_File_ (s_ : (List File)) : Option (List File) :=
 nilIf s_ (
 some []) (
(app? 40 ([] : List File) s_).bind fun y1 =>
 some y1)

noncomputable def rename_only.j1 (x1 : List File) : Option (List File) :=
 some x1

noncomputable def rename_only.j3 (x3 : Int) (x4 : List File) : Option (List File) :=
(als? x4 x3).bind fun z1 =>
(clr? x4 x3 z1 ({ Path := ByteArray.empty, Lines := [] } : File)).bind fun y2 =>
(cut? y2 0 x3).bind fun y3 =>
 rename_only.j1 y3

noncomputable def rename_only.j4 (x5 : Int) (x9 : Int) (x10 : List File) : Option (Step (Int × Int × (List File)) (Int × (List File))) :=
(ckK .i64 (x5 + 1)).bind fun z3 =>
 some (Step.next (z3, x9, x10))

noncomputable def rename_only.l1 (b_ : FileTree) (x5 : Int) (x6 : Int) (x7 : List File) : Option (Step (Int × Int × (List File)) (Int × (List File))) :=
 if decide (x5 < (x7.length : Int)) then
(at? x7 x5).bind fun y4 =>
(treepatch_Find b_.Files y4.Path).bind fun y5 =>
 if !y5.2 then
(at? x7 x6).bind fun y6 =>
(some (x7.set x6.toNat y4)).bind fun y7 =>
(ckK .i64 (x6 + 1)).bind fun z4 =>
 rename_only.j4 x5 z4 y7
 else
 rename_only.j4 x5 x6 x7
 else
 some (Step.done (x6, x7))

noncomputable def rename_only.j2 (b_ : FileTree) (y1 : (List File)) (x2 : Int) : Option (List File) :=
 if decide (x2 = (-1)) then
 rename_only.j1 y1
 else
(ckK .i64 (x2 + 1)).bind fun z2 =>
(iter (fun s => rename_only.l1 b_ s.1 s.2.1 s.2.2) (z2, x2, y1)).bind fun r1 =>
 rename_only.j3 r1.1 r1.2

noncomputable def rename_only.j5 (b_ : FileTree) (y1 : (List File)) : Option (List File) :=
 rename_only.j2 b_ y1 (-1)

noncomputable def rename_only.l2 (b_ : FileTree) (y1 : (List File)) (x11 : Int) : Option (Step Int (Int ⊕ Unit)) :=
 if decide (x11 < (y1.length : Int)) then
(at? y1 x11).bind fun y8 =>
(treepatch_Find b_.Files y8.Path).bind fun y9 =>
 if y9.2 then
 some (Step.done (Sum.inl x11))
 else
(ckK .i64 (x11 + 1)).bind fun z5 =>
 some (Step.next z5)
 else
 some (Step.done (Sum.inr ()))

noncomputable def rename_only (a_ : FileTree) (b_ : FileTree) : Option (List File) :=
(api_File_ a_.Files).bind fun y1 =>
(iter (fun s => rename_only.l2 b_ y1 s) 0).bind fun r2 =>
(match r2 with
| .inl p => rename_only.j2 b_ y1 p
| .inr _ => rename_only.j5 b_ y1)

noncomputable def diff_Distance.j1 (x1 : Int) : Option (Int × Fault) :=
 some (x1, ({ Code := 0, Index := 0 } : Fault))

noncomputable def diff_Distance.j2 (x2 : Int) (x5 : Int) : Option (Step (Int × Int) Int) :=
(ckK .i64 (x2 + 1)).bind fun z1 =>
 some (Step.next (z1, x5))

noncomputable def diff_Distance.l1 (y2 : (List Int)) (x2 : Int) (x3 : Int) : Option (Step (Int × Int) Int) :=
 if decide (x2 < (y2.length : Int)) then
(at? y2 x2).bind fun y3 =>
 if !decide (y3 = 0) then
(ckK .i64 (x3 + 1)).bind fun z2 =>
 diff_Distance.j2 x2 z2
 else
 diff_Distance.j2 x2 x3
 else
 some (Step.done x3)

noncomputable def diff_Distance (a_ : (List ByteArray)) (b_ : (List ByteArray)) : Option (Int × Fault) :=
(lines_Both a_ b_).bind fun y1 =>
 if !(decide (y1.Code = 0) && decide (y1.Index = 0)) then
 some (0, y1)
 else
(diff_Align a_ b_).bind fun y2 =>
(iter (fun s => diff_Distance.l1 y2 s.1 s.2) (0, 0)).bind fun r1 =>
 diff_Distance.j1 r1

noncomputable def rename_Similarity (a_ : (List ByteArray)) (b_ : (List ByteArray)) : Option (Int × Fault) :=
(diff_Distance a_ b_).bind fun y1 =>
 if !(decide (y1.2.Code = 0) && decide (y1.2.Index = 0)) then
 some (0, y1.2)
 else
(ckK .i64 ((a_.length : Int) + (b_.length : Int))).bind fun z1 =>
 if decide (z1 = 0) then
 some (100, ({ Code := 0, Index := 0 } : Fault))
 else
(ckK .i64 (z1 - y1.1)).bind fun z2 =>
(ckK .i64 (100 * z2)).bind fun z3 =>
(quo? .i64 z3 z1).bind fun z4 =>
 some (z4, ({ Code := 0, Index := 0 } : Fault))

noncomputable def cmp_Or.j1 : Option Int :=
 some 0

noncomputable def cmp_Or.l1 (vals : (List Int)) (x1 : Int) : Option (Step Int (Int ⊕ Unit)) :=
 if decide (x1 < (vals.length : Int)) then
(at? vals x1).bind fun y1 =>
 if !decide (y1 = 0) then
 some (Step.done (Sum.inl y1))
 else
(ckK .i64 (x1 + 1)).bind fun z1 =>
 some (Step.next z1)
 else
 some (Step.done (Sum.inr ()))

noncomputable def cmp_Or (vals : (List Int)) : Option Int :=
(iter (fun s => cmp_Or.l1 vals s) 0).bind fun r1 =>
(match r1 with
| .inl p => some p
| .inr _ => cmp_Or.j1)

noncomputable def cmp_Compare (x_ : ByteArray) (y : ByteArray) : Option Int :=
(cmp_isNaN x_).bind fun y1 =>
(cmp_isNaN y).bind fun y2 =>
 if y1 then
 if y2 then
 some 0
 else
 some (-1)
 else
 if y2 then
 some 1
 else
 if sLt x_ y then
 some (-1)
 else
 if !(sLt x_ y || decide (x_ = y)) then
 some 1
 else
 some 0

noncomputable def rename_Detect_s1 (a_ : Pair_rename) (b_ : Pair_rename) : Option Int :=
(ckK .i64 (b_.percent - a_.percent)).bind fun z1 =>
(cmp_Compare a_.old_ b_.old_).bind fun y1 =>
(cmp_Compare a_.newer b_.newer).bind fun y2 =>
(cmp_Or ([z1, y1, y2] : List Int)).bind fun y3 =>
 some y3

noncomputable def rename_Detect_s3 (a_ : Arr2_ByteArray) (b_ : Arr2_ByteArray) : Option Int :=
(cmp_Compare a_.e0 b_.e0).bind fun y1 =>
 some y1

noncomputable def rename_Detect.j2 (x3 : List Arr2_ByteArray) : Option ((List Arr2_ByteArray) × Fault) :=
(sortM rename_Detect_s3 x3).bind fun y4 =>
 some (y4, ({ Code := 0, Index := 0 } : Fault))

noncomputable def rename_Detect.j3 (x4 : Int) (x7 : List Arr2_ByteArray) : Option (Step (Int × (List Arr2_ByteArray)) (List Arr2_ByteArray)) :=
(ckK .i64 (x4 + 1)).bind fun z1 =>
 some (Step.next (z1, x7))

noncomputable def rename_Detect.j4 (old_ : FileTree) (newer : FileTree) (x4 : Int) (x5 : List Arr2_ByteArray) (y5 : Pair_rename) (x8 : Int) : Option (Step (Int × (List Arr2_ByteArray)) (List Arr2_ByteArray)) :=
 if !(decide (x8 ≥ 0)) then
(app? 32 x5 ([({ e0 := y5.old_, e1 := y5.newer } : Arr2_ByteArray)] : List Arr2_ByteArray)).bind fun y6 =>
 rename_Detect.j3 x4 y6
 else
 rename_Detect.j3 x4 x5

noncomputable def rename_Detect.j5 (old_ : FileTree) (newer : FileTree) (x4 : Int) (x5 : List Arr2_ByteArray) (y5 : Pair_rename) : Option (Step (Int × (List Arr2_ByteArray)) (List Arr2_ByteArray)) :=
 rename_Detect.j4 old_ newer x4 x5 y5 (-1)

noncomputable def rename_Detect.l2 (old_ : FileTree) (newer : FileTree) (x5 : List Arr2_ByteArray) (y5 : Pair_rename) (x9 : Int) : Option (Step Int (Int ⊕ Unit)) :=
 if decide (x9 < (x5.length : Int)) then
(at? x5 x9).bind fun y7 =>
(if decide (y7.e0 = y5.old_) then some true else some (decide (y7.e1 = y5.newer))).bind fun x11 =>
 if x11 then
 some (Step.done (Sum.inl x9))
 else
(ckK .i64 (x9 + 1)).bind fun z2 =>
 some (Step.next z2)
 else
 some (Step.done (Sum.inr ()))

noncomputable def rename_Detect.l1 (old_ : FileTree) (newer : FileTree) (y3 : List Pair_rename) (x4 : Int) (x5 : List Arr2_ByteArray) : Option (Step (Int × (List Arr2_ByteArray)) (List Arr2_ByteArray)) :=
 if decide (x4 < (y3.length : Int)) then
(at? y3 x4).bind fun y5 =>
(iter (fun s => rename_Detect.l2 old_ newer x5 y5 s) 0).bind fun r2 =>
(match r2 with
| .inl p => rename_Detect.j4 old_ newer x4 x5 y5 p
| .inr _ => rename_Detect.j5 old_ newer x4 x5 y5)
 else
 some (Step.done x5)

noncomputable def rename_Detect.j1 (old_ : FileTree) (newer : FileTree) (x2 : List Pair_rename) : Option ((List Arr2_ByteArray) × Fault) :=
(sortM rename_Detect_s1 x2).bind fun y3 =>
(iter (fun s => rename_Detect.l1 old_ newer y3 s.1 s.2) (0, [])).bind fun r1 =>
 rename_Detect.j2 r1

noncomputable def rename_Detect.j6 (x12 : Int) (x15 : List Pair_rename) : Option (Step (Int × (List Pair_rename)) (List Pair_rename)) :=
(ckK .i64 (x12 + 1)).bind fun z3 =>
 some (Step.next (z3, x15))

noncomputable def rename_Detect.j7 (x12 : Int) (x16 : List Pair_rename) : Option (Step (Int × (List Pair_rename)) (List Pair_rename)) :=
 rename_Detect.j6 x12 x16

noncomputable def rename_Detect.j8 (x17 : Int) (x20 : List Pair_rename) : Option (Step (Int × (List Pair_rename)) (List Pair_rename)) :=
(ckK .i64 (x17 + 1)).bind fun z4 =>
 some (Step.next (z4, x20))

noncomputable def rename_Detect.l4 (old_ : FileTree) (newer : FileTree) (percent : Int) (y9 : File) (y10 : (List File)) (x17 : Int) (x18 : List Pair_rename) : Option (Step (Int × (List Pair_rename)) (List Pair_rename)) :=
 if decide (x17 < (y10.length : Int)) then
(at? y10 x17).bind fun y11 =>
(rename_Similarity y9.Lines y11.Lines).bind fun y12 =>
 if decide (y12.1 ≥ percent) then
(app? 40 x18 ([({ old_ := y9.Path, newer := y11.Path, percent := y12.1 } : Pair_rename)] : List Pair_rename)).bind fun y13 =>
 rename_Detect.j8 x17 y13
 else
 rename_Detect.j8 x17 x18
 else
 some (Step.done x18)

noncomputable def rename_Detect.l3 (old_ : FileTree) (newer : FileTree) (percent : Int) (y8 : (List File)) (x12 : Int) (x13 : List Pair_rename) : Option (Step (Int × (List Pair_rename)) (List Pair_rename)) :=
 if decide (x12 < (y8.length : Int)) then
(at? y8 x12).bind fun y9 =>
(rename_only newer old_).bind fun y10 =>
(iter (fun s => rename_Detect.l4 old_ newer percent y9 y10 s.1 s.2) (0, x13)).bind fun r4 =>
 rename_Detect.j7 x12 r4
 else
 some (Step.done x13)

noncomputable def rename_Detect (old_ : FileTree) (newer : FileTree) (percent : Int) : Option ((List Arr2_ByteArray) × Fault) :=
(treepatch_Validate old_).bind fun y1 =>
 if !(decide (y1.Code = 0) && decide (y1.Index = 0)) then
 some ([], y1)
 else
(treepatch_Second newer (-2)).bind fun y2 =>
 if !(decide (y2.Code = 0) && decide (y2.Index = 0)) then
 some ([], y2)
 else
(if decide (percent < 0) then some true else some (decide (percent > 100))).bind fun x1 =>
 if x1 then
 some ([], ({ Code := 3, Index := (-3) } : Fault))
 else
(rename_only old_ newer).bind fun y8 =>
(iter (fun s => rename_Detect.l3 old_ newer percent y8 s.1 s.2) (0, [])).bind fun r3 =>
 rename_Detect.j1 old_ newer r3

noncomputable def changeforgeequal_StringPairs.j1 : Option Bool :=
 some true

noncomputable def changeforgeequal_StringPairs.l1 (a_ : (List Arr2_ByteArray)) (b_ : (List Arr2_ByteArray)) (x1 : Int) : Option (Step Int (Bool ⊕ Unit)) :=
 if decide (x1 < (a_.length : Int)) then
(at? a_ x1).bind fun y1 =>
(at? b_ x1).bind fun y2 =>
 if !(decide (y1.e0 = y2.e0) && decide (y1.e1 = y2.e1)) then
 some (Step.done (Sum.inl false))
 else
(ckK .i64 (x1 + 1)).bind fun z1 =>
 some (Step.next z1)
 else
 some (Step.done (Sum.inr ()))

noncomputable def changeforgeequal_StringPairs (a_ : (List Arr2_ByteArray)) (b_ : (List Arr2_ByteArray)) : Option Bool :=
 if !decide ((a_.length : Int) = (b_.length : Int)) then
 some false
 else
(iter (fun s => changeforgeequal_StringPairs.l1 a_ b_ s) 0).bind fun r1 =>
(match r1 with
| .inl p => some p
| .inr _ => changeforgeequal_StringPairs.j1)

noncomputable def changeforgelaw2_TreepatchRenameDetected.j1 (path : ByteArray) (to : ByteArray) (percent : Int) (y1 : FileTree) (y3 : FileTree × Fault) : Option Bool :=
(rename_Detect y1 y3.1 percent).bind fun y4 =>
(if !decide (y3.2.Code = 0) then some true else some (!decide (y4.2.Code = 0))).bind fun x3 =>
 if x3 then
(changeforgelaw2_renamed).bind fun y5 =>
 some y5
 else
(changeforgeequal_StringPairs y4.1 ([({ e0 := path, e1 := to } : Arr2_ByteArray)] : List Arr2_ByteArray)).bind fun y6 =>
(if y6 then (changeforgelaw2_renamed).bind fun y7 =>
 some y7 else some false).bind fun x4 =>
 some x4

noncomputable def changeforgelaw2_TreepatchRenameDetected (path : ByteArray) (to : ByteArray) (l_ : (List ByteArray)) (percent : Int) : Option Bool :=
(changeforgelaw2_one path l_).bind fun y1 =>
(changeforgelaw2_change ({ Kind := 3, Path := path, To := to, Lines := [], Patch := ({ Hunks := [] } : Patch) } : TreeChange)).bind fun y2 =>
(treepatch_Apply y2 y1).bind fun y3 =>
 changeforgelaw2_TreepatchRenameDetected.j1 path to percent y1 y3
end Go.Dc
