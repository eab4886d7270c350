/- The functions as pure models. -/
import Derived.Test.YthpkobkngplbbaaGreatDoorDcTy
import Derived.Test.YthpkobkngplbbaaGreatDoorDcR
namespace Go.Dc
open Go
set_option linter.unusedVariables false
noncomputable def stringslite_IndexByte (s_ : ByteArray) (c_ : Int) : Option Int :=
 some (idxB s_ c_)

noncomputable def strings_IndexByte (s_ : ByteArray) (c_ : Int) : Option Int :=
(stringslite_IndexByte s_ c_).bind fun y1 =>
 some y1

noncomputable def lines_Validate.j1 : Option Fault :=
 some ({ Code := 0, Index := 0 } : Fault)

noncomputable def lines_Validate.l1 (lines : (List ByteArray)) (x1 : Int) : Option (Step Int (Fault ⊕ Unit)) :=
 if decide (x1 < (lines.length : Int)) then
(at? lines x1).bind fun y1 =>
 if decide ((y1.size : Int) > 80) then
 some (Step.done (Sum.inl ({ Code := 2, Index := x1 } : Fault)))
 else
(strings_IndexByte y1 10).bind fun y2 =>
 if decide (y2 ≥ 0) then
 some (Step.done (Sum.inl ({ Code := 5, Index := x1 } : Fault)))
 else
(ckK .i64 (x1 + 1)).bind fun z1 =>
 some (Step.next z1)
 else
 some (Step.done (Sum.inr ()))

noncomputable def lines_Validate (lines : (List ByteArray)) : Option Fault :=
 if decide ((lines.length : Int) > 120) then
 some ({ Code := 2, Index := (-1) } : Fault)
 else
(iter (fun s => lines_Validate.l1 lines s) 0).bind fun r1 =>
(match r1 with
| .inl p => some p
| .inr _ => lines_Validate.j1)

noncomputable def textpatch_End (h_ : Hunk) : Option Int :=
(ckK .i64 (h_.At + (h_.Old.length : Int))).bind fun z1 =>
 some z1

noncomputable def textpatch_hunk.j1 (h_ : Hunk) (end_ : Int) : Option Int :=
(ckK .i64 ((h_.Old.length : Int) + (h_.New.length : Int))).bind fun z1 =>
(if decide (z1 = 0) then some true else some (decide (h_.At ≤ end_))).bind fun x2 =>
 if x2 then
 some 5
 else
(textpatch_End h_).bind fun y1 =>
 if decide (y1 > 120) then
 some 3
 else
 some 0

noncomputable def textpatch_hunk.l1 (h_ : Hunk) (x3 : Int) : Option (Step Int (Int ⊕ Unit)) :=
 if decide (x3 < 2) then
(at? ([h_.Old, h_.New] : List (List ByteArray)) x3).bind fun y2 =>
(lines_Validate y2).bind fun y3 =>
 if !(decide (y3.Code = 0) && decide (y3.Index = 0)) then
 some (Step.done (Sum.inl y3.Code))
 else
(ckK .i64 (x3 + 1)).bind fun z2 =>
 some (Step.next z2)
 else
 some (Step.done (Sum.inr ()))

noncomputable def textpatch_hunk (h_ : Hunk) (end_ : Int) : Option Int :=
(if decide (h_.At < 0) then some true else some (decide (h_.At > 120))).bind fun x1 =>
 if x1 then
 some 3
 else
(iter (fun s => textpatch_hunk.l1 h_ s) 0).bind fun r1 =>
(match r1 with
| .inl p => some p
| .inr _ => textpatch_hunk.j1 h_ end_)

noncomputable def textpatch_Validate.j1 : Option Fault :=
 some ({ Code := 0, Index := 0 } : Fault)

noncomputable def textpatch_Validate.l1 (p_ : Patch) (x1 : Int) (x2 : Int) : Option (Step (Int × Int) (Fault ⊕ Unit)) :=
 if decide (x1 < (p_.Hunks.length : Int)) then
(at? p_.Hunks x1).bind fun y1 =>
(textpatch_hunk y1 x2).bind fun y2 =>
 if !decide (y2 = 0) then
 some (Step.done (Sum.inl ({ Code := y2, Index := x1 } : Fault)))
 else
(textpatch_End y1).bind fun y3 =>
(ckK .i64 (x1 + 1)).bind fun z1 =>
 some (Step.next (z1, y3))
 else
 some (Step.done (Sum.inr ()))

noncomputable def textpatch_Validate (p_ : Patch) : Option Fault :=
 if decide ((p_.Hunks.length : Int) > 130) then
 some ({ Code := 2, Index := (-1) } : Fault)
 else
(iter (fun s => textpatch_Validate.l1 p_ s.1 s.2) (0, (-1))).bind fun r1 =>
(match r1 with
| .inl p => some p
| .inr _ => textpatch_Validate.j1)

noncomputable def bytealg_hashStr.j2 (x1 : Int) (x2 : Int) : Option (Int × Int) :=
 some (x1, x2)

noncomputable def bytealg_hashStr.j3 (x3 : Int) (x4 : Int) (x7 : Int) : Option (Step (Int × Int × Int) Int) :=
(ckK .u32 (x4 * x4)).bind fun z1 =>
(shr? .i64 x3 1).bind fun z2 =>
 some (Step.next (z2, z1, x7))

noncomputable def bytealg_hashStr.l1 (x3 : Int) (x4 : Int) (x5 : Int) : Option (Step (Int × Int × Int) Int) :=
 if decide (x3 > 0) then
 if !decide (andI .i64 x3 1 = 0) then
(ckK .u32 (x5 * x4)).bind fun z3 =>
 bytealg_hashStr.j3 x3 x4 z3
 else
 bytealg_hashStr.j3 x3 x4 x5
 else
 some (Step.done x5)

noncomputable def bytealg_hashStr.j1 (sep : ByteArray) (x1 : Int) : Option (Int × Int) :=
(iter (fun s => bytealg_hashStr.l1 s.1 s.2.1 s.2.2) ((sep.size : Int), 16777619, 1)).bind fun r1 =>
 bytealg_hashStr.j2 x1 r1

noncomputable def bytealg_hashStr.l2 (sep : ByteArray) (x8 : Int) (x9 : Int) : Option (Step (Int × Int) Int) :=
 if decide (x8 < (sep.size : Int)) then
(ckK .u32 (x9 * 16777619)).bind fun z4 =>
(sAt? sep x8).bind fun y1 =>
(ckK .u32 y1).bind fun z5 =>
(ckK .u32 (z4 + z5)).bind fun z6 =>
(ckK .i64 (x8 + 1)).bind fun z7 =>
 some (Step.next (z7, z6))
 else
 some (Step.done x9)

noncomputable def bytealg_hashStr (sep : ByteArray) : Option (Int × Int) :=
(iter (fun s => bytealg_hashStr.l2 sep s.1 s.2) (0, 0)).bind fun r2 =>
 bytealg_hashStr.j1 sep r2

noncomputable def bytealg_IndexRabinKarp.j2 : Option Int :=
 some (-1)

noncomputable def bytealg_IndexRabinKarp.l1 (s_ : ByteArray) (sep : ByteArray) (y1 : Int × Int) (x3 : Int) (x4 : Int) : Option (Step (Int × Int) (Int ⊕ Unit)) :=
 if decide (x3 < (s_.size : Int)) then
(ckK .u32 (x4 * 16777619)).bind fun z1 =>
(sAt? s_ x3).bind fun y3 =>
(ckK .u32 y3).bind fun z2 =>
(ckK .u32 (z1 + z2)).bind fun z3 =>
(ckK .i64 (x3 - (sep.size : Int))).bind fun z4 =>
(sAt? s_ z4).bind fun y4 =>
(ckK .u32 y4).bind fun z5 =>
(ckK .u32 (y1.2 * z5)).bind fun z6 =>
(ckK .u32 (z3 - z6)).bind fun z7 =>
(ckK .i64 (x3 + 1)).bind fun z8 =>
(if decide (z7 = y1.1) then (ckK .i64 (z8 - (sep.size : Int))).bind fun z9 =>
(scut? s_ z9 z8).bind fun y5 =>
 some (decide (y5 = sep)) else some false).bind fun x6 =>
 if x6 then
(ckK .i64 (z8 - (sep.size : Int))).bind fun z10 =>
 some (Step.done (Sum.inl z10))
 else
 some (Step.next (z8, z7))
 else
 some (Step.done (Sum.inr ()))

noncomputable def bytealg_IndexRabinKarp.j1 (s_ : ByteArray) (sep : ByteArray) (y1 : Int × Int) (x1 : Int) : Option Int :=
(if decide (x1 = y1.1) then (scut? s_ 0 (sep.size : Int)).bind fun y2 =>
 some (decide (y2 = sep)) else some false).bind fun x2 =>
 if x2 then
 some 0
 else
(iter (fun s => bytealg_IndexRabinKarp.l1 s_ sep y1 s.1 s.2) ((sep.size : Int), x1)).bind fun r1 =>
(match r1 with
| .inl p => some p
| .inr _ => bytealg_IndexRabinKarp.j2)

noncomputable def bytealg_IndexRabinKarp.l2 (s_ : ByteArray) (sep : ByteArray) (x7 : Int) (x8 : Int) : Option (Step (Int × Int) Int) :=
 if decide (x7 < (sep.size : Int)) then
(ckK .u32 (x8 * 16777619)).bind fun z11 =>
(sAt? s_ x7).bind fun y6 =>
(ckK .u32 y6).bind fun z12 =>
(ckK .u32 (z11 + z12)).bind fun z13 =>
(ckK .i64 (x7 + 1)).bind fun z14 =>
 some (Step.next (z14, z13))
 else
 some (Step.done x8)

noncomputable def bytealg_IndexRabinKarp (s_ : ByteArray) (sep : ByteArray) : Option Int :=
(bytealg_hashStr sep).bind fun y1 =>
(iter (fun s => bytealg_IndexRabinKarp.l2 s_ sep s.1 s.2) (0, 0)).bind fun r2 =>
 bytealg_IndexRabinKarp.j1 s_ sep y1 r2

noncomputable def stringslite_Index (s_ : ByteArray) : Option Int :=
 if decide ((⟨#[47]⟩ : ByteArray) = s_) then
 some 0
 else
(sAt? (⟨#[47]⟩ : ByteArray) 0).bind fun y1 =>
(stringslite_IndexByte s_ y1).bind fun y2 =>
 some y2

noncomputable def strings_Index (s_ : ByteArray) : Option Int :=
(stringslite_Index s_).bind fun y1 =>
 some y1

noncomputable def treepatch_Letter (c_ : Int) : Option Bool :=
(if decide (c_ ≥ 97) then some (decide (c_ ≤ 122)) else some false).bind fun x1 =>
(if x1 then some true else (if decide (c_ ≥ 65) then some (decide (c_ ≤ 90)) else some false).bind fun x3 =>
 some x3).bind fun x2 =>
(if x2 then some true else (if decide (c_ ≥ 48) then some (decide (c_ ≤ 57)) else some false).bind fun x5 =>
 some x5).bind fun x4 =>
(if x4 then some true else some (decide (c_ = 46))).bind fun x6 =>
(if x6 then some true else some (decide (c_ = 95))).bind fun x7 =>
(if x7 then some true else some (decide (c_ = 45))).bind fun x8 =>
 some x8

noncomputable def treepatch_ValidPath.j2 : Option Bool :=
 some false

noncomputable def treepatch_ValidPath.j3 : Option Bool :=
 some true

noncomputable def treepatch_ValidPath.j4 : Option Bool :=
 treepatch_ValidPath.j3

noncomputable def treepatch_ValidPath.l1 (x1 : ByteArray) (x4 : Int) : Option (Step Int (Unit ⊕ Unit)) :=
 if decide (x4 < (x1.size : Int)) then
(sAt? x1 x4).bind fun y1 =>
(treepatch_Letter y1).bind fun y2 =>
 if !y2 then
 some (Step.done (Sum.inl ()))
 else
(ckK .i64 (x4 + 1)).bind fun z1 =>
 some (Step.next z1)
 else
 some (Step.done (Sum.inr ()))

noncomputable def treepatch_ValidPath.j1 (x1 : ByteArray) : Option Bool :=
(if decide (x1 = (⟨#[]⟩ : ByteArray)) then some true else some (decide (x1 = (⟨#[46]⟩ : ByteArray)))).bind fun x2 =>
(if x2 then some true else some (decide (x1 = (⟨#[46, 46]⟩ : ByteArray)))).bind fun x3 =>
 if x3 then
 treepatch_ValidPath.j2
 else
(iter (fun s => treepatch_ValidPath.l1 x1 s) 0).bind fun r1 =>
(match r1 with
| .inl _ => treepatch_ValidPath.j2
| .inr _ => treepatch_ValidPath.j4)

noncomputable def treepatch_ValidPath.j5 : Option (Step ByteArray (Bool ⊕ ByteArray)) :=
 some (Step.done (Sum.inl false))

noncomputable def treepatch_ValidPath.j6 (x6 : ByteArray) (y3 : Int) : Option (Step ByteArray (Bool ⊕ ByteArray)) :=
(ckK .i64 (y3 + 1)).bind fun z3 =>
(scut? x6 z3 (x6.size : Int)).bind fun y5 =>
 some (Step.next y5)

noncomputable def treepatch_ValidPath.j7 (x6 : ByteArray) (y3 : Int) : Option (Step ByteArray (Bool ⊕ ByteArray)) :=
 treepatch_ValidPath.j6 x6 y3

noncomputable def treepatch_ValidPath.l3 (y4 : ByteArray) (x10 : Int) : Option (Step Int (Unit ⊕ Unit)) :=
 if decide (x10 < (y4.size : Int)) then
(sAt? y4 x10).bind fun y6 =>
(treepatch_Letter y6).bind fun y7 =>
 if !y7 then
 some (Step.done (Sum.inl ()))
 else
(ckK .i64 (x10 + 1)).bind fun z4 =>
 some (Step.next z4)
 else
 some (Step.done (Sum.inr ()))

noncomputable def treepatch_ValidPath.l2 (x6 : ByteArray) : Option (Step ByteArray (Bool ⊕ ByteArray)) :=
(strings_Index x6).bind fun y3 =>
 if decide (y3 < 0) then
 some (Step.done (Sum.inr x6))
 else
(ckK .i64 (y3 + 0)).bind fun z2 =>
(scut? x6 0 z2).bind fun y4 =>
(if decide (y4 = (⟨#[]⟩ : ByteArray)) then some true else some (decide (y4 = (⟨#[46]⟩ : ByteArray)))).bind fun x8 =>
(if x8 then some true else some (decide (y4 = (⟨#[46, 46]⟩ : ByteArray)))).bind fun x9 =>
 if x9 then
 treepatch_ValidPath.j5
 else
(iter (fun s => treepatch_ValidPath.l3 y4 s) 0).bind fun r3 =>
(match r3 with
| .inl _ => treepatch_ValidPath.j5
| .inr _ => treepatch_ValidPath.j7 x6 y3)

noncomputable def treepatch_ValidPath (path : ByteArray) : Option Bool :=
 if decide ((path.size : Int) > 60) then
 some false
 else
(iter (fun s => treepatch_ValidPath.l2 s) path).bind fun r2 =>
(match r2 with
| .inl p => some p
| .inr p => treepatch_ValidPath.j1 p)

noncomputable def stringslite_HasPrefix (s_ : ByteArray) (prefix_ : ByteArray) : Option Bool :=
(if decide ((s_.size : Int) ≥ (prefix_.size : Int)) then (scut? s_ 0 (prefix_.size : Int)).bind fun y1 =>
 some (decide (y1 = prefix_)) else some false).bind fun x1 =>
 some x1

noncomputable def strings_HasPrefix (s_ : ByteArray) (prefix_ : ByteArray) : Option Bool :=
(stringslite_HasPrefix s_ prefix_).bind fun y1 =>
 some y1

noncomputable def treepatch_Related (a_ : ByteArray) (b_ : ByteArray) : Option Bool :=
(if decide (a_ = b_) then some true else (cat? b_ (⟨#[47]⟩ : ByteArray)).bind fun z1 =>
(strings_HasPrefix a_ z1).bind fun y1 =>
 some y1).bind fun x1 =>
(if x1 then some true else (cat? a_ (⟨#[47]⟩ : ByteArray)).bind fun z2 =>
(strings_HasPrefix b_ z2).bind fun y2 =>
 some y2).bind fun x2 =>
 some x2

noncomputable def treepatch_check (c_ : TreeChange) : Option Int :=
(if decide (c_.Kind < 1) then some true else some (decide (c_.Kind > 4))).bind fun x1 =>
 if x1 then
 some 4
 else
(treepatch_ValidPath c_.Path).bind fun y1 =>
(if !y1 then some true else (if decide (c_.Kind = 3) then (treepatch_ValidPath c_.To).bind fun y2 =>
 some !y2 else some false).bind fun x3 =>
 some x3).bind fun x2 =>
 if x2 then
 some 12
 else
(if !(decide (c_.Kind = 3)) then some (!decide (c_.To = (⟨#[]⟩ : ByteArray))) else some false).bind fun x4 =>
(if x4 then some true else (if decide (c_.Kind = 3) then (treepatch_Related c_.Path c_.To).bind fun y3 =>
 some y3 else some false).bind fun x6 =>
 some x6).bind fun x5 =>
 if x5 then
 some 5
 else
(if decide ((c_.Lines.length : Int) > 0) then (if decide (c_.Kind = 4) then some true else some (decide (c_.Kind = 3))).bind fun x8 =>
 some x8 else some false).bind fun x7 =>
 if x7 then
 some 5
 else
 if !decide (decide (c_.Kind = 4) = decide ((c_.Patch.Hunks.length : Int) > 0)) then
 some 5
 else
(lines_Validate c_.Lines).bind fun y4 =>
 if !(decide (y4.Code = 0) && decide (y4.Index = 0)) then
 some y4.Code
 else
(textpatch_Validate c_.Patch).bind fun y5 =>
 some y5.Code

noncomputable def treepatch_ValidatePatch.j1 : Option Fault :=
 some ({ Code := 0, Index := 0 } : Fault)

noncomputable def treepatch_ValidatePatch.l1 (p_ : TreePatch) (x1 : Int) : Option (Step Int (Fault ⊕ Unit)) :=
 if decide (x1 < (p_.Changes.length : Int)) then
(at? p_.Changes x1).bind fun y1 =>
(treepatch_check y1).bind fun y2 =>
 if !decide (y2 = 0) then
 some (Step.done (Sum.inl ({ Code := y2, Index := x1 } : Fault)))
 else
(ckK .i64 (x1 + 1)).bind fun z1 =>
 some (Step.next z1)
 else
 some (Step.done (Sum.inr ()))

noncomputable def treepatch_ValidatePatch (p_ : TreePatch) : Option Fault :=
 if decide ((p_.Changes.length : Int) > 30) then
 some ({ Code := 2, Index := (-1) } : Fault)
 else
(iter (fun s => treepatch_ValidatePatch.l1 p_ s) 0).bind fun r1 =>
(match r1 with
| .inl p => some p
| .inr _ => treepatch_ValidatePatch.j1)

noncomputable def treepatch_Clash.j1 : Option Bool :=
 some false

noncomputable def treepatch_Clash.l1 (files : (List File)) (path : ByteArray) (except : Int) (x1 : Int) : Option (Step Int (Bool ⊕ Unit)) :=
 if decide (x1 < (files.length : Int)) then
(at? files x1).bind fun y1 =>
(if !decide (x1 = except) then (treepatch_Related y1.Path path).bind fun y2 =>
 some y2 else some false).bind fun x3 =>
 if x3 then
 some (Step.done (Sum.inl true))
 else
(ckK .i64 (x1 + 1)).bind fun z1 =>
 some (Step.next z1)
 else
 some (Step.done (Sum.inr ()))

noncomputable def treepatch_Clash (files : (List File)) (path : ByteArray) (except : Int) : Option Bool :=
(iter (fun s => treepatch_Clash.l1 files path except s) 0).bind fun r1 =>
(match r1 with
| .inl p => some p
| .inr _ => treepatch_Clash.j1)

noncomputable def lines_Second (b_ : (List ByteArray)) (index : Int) : Option Fault :=
(lines_Validate b_).bind fun y1 =>
 if !(decide (y1.Code = 0) && decide (y1.Index = 0)) then
 some ({ Code := y1.Code, Index := index } : Fault)
 else
 some ({ Code := 0, Index := 0 } : Fault)

noncomputable def treepatch_Validate.j1 : Option Fault :=
 some ({ Code := 0, Index := 0 } : Fault)

noncomputable def treepatch_Validate.l1 (t_ : FileTree) (x1 : Int) : Option (Step Int (Fault ⊕ Unit)) :=
 if decide (x1 < (t_.Files.length : Int)) then
(at? t_.Files x1).bind fun y1 =>
(treepatch_ValidPath y1.Path).bind fun y2 =>
 if !y2 then
 some (Step.done (Sum.inl ({ Code := 12, Index := x1 } : Fault)))
 else
(if decide (x1 > 0) then (ckK .i64 (x1 - 1)).bind fun z1 =>
(at? t_.Files z1).bind fun y3 =>
 some (sLt y1.Path y3.Path || decide (y1.Path = y3.Path)) else some false).bind fun x3 =>
 if x3 then
 some (Step.done (Sum.inl ({ Code := 5, Index := x1 } : Fault)))
 else
(cut? t_.Files 0 x1).bind fun y4 =>
(treepatch_Clash y4 y1.Path (-1)).bind fun y5 =>
 if y5 then
 some (Step.done (Sum.inl ({ Code := 7, Index := x1 } : Fault)))
 else
(lines_Second y1.Lines x1).bind fun y6 =>
 if !(decide (y6.Code = 0) && decide (y6.Index = 0)) then
 some (Step.done (Sum.inl y6))
 else
(ckK .i64 (x1 + 1)).bind fun z2 =>
 some (Step.next z2)
 else
 some (Step.done (Sum.inr ()))

noncomputable def treepatch_Validate (t_ : FileTree) : Option Fault :=
 if decide ((t_.Files.length : Int) > 24) then
 some ({ Code := 2, Index := (-1) } : Fault)
 else
(iter (fun s => treepatch_Validate.l1 t_ s) 0).bind fun r1 =>
(match r1 with
| .inl p => some p
| .inr _ => treepatch_Validate.j1)

noncomputable def treepatch_Second (t_ : FileTree) (index : Int) : Option Fault :=
(treepatch_Validate t_).bind fun y1 =>
 if !(decide (y1.Code = 0) && decide (y1.Index = 0)) then
 some ({ Code := y1.Code, Index := index } : Fault)
 else
 some ({ Code := 0, Index := 0 } : Fault)

noncomputable def slices_Clone (s_ : (List ByteArray)) : Option (List ByteArray) :=
 nilIf s_ (
 some []) (
(app? 16 ([] : List ByteArray) s_).bind fun y1 =>
 some y1)

noncomputable def treepatch_CopyTree.j1 (x1 : List File) : Option FileTree :=
 some ({ Files := x1 } : FileTree)

noncomputable def treepatch_CopyTree.l1 (t_ : FileTree) (x2 : Int) (x3 : List File) : Option (Step (Int × (List File)) (List File)) :=
 if decide (x2 < (t_.Files.length : Int)) then
(at? t_.Files x2).bind fun y1 =>
(slices_Clone y1.Lines).bind fun y2 =>
(app? 40 x3 ([({ Path := y1.Path, Lines := y2 } : File)] : List File)).bind fun y3 =>
(ckK .i64 (x2 + 1)).bind fun z1 =>
 some (Step.next (z1, y3))
 else
 some (Step.done x3)

noncomputable def treepatch_CopyTree (t_ : FileTree) : Option FileTree :=
(iter (fun s => treepatch_CopyTree.l1 t_ s.1 s.2) (0, [])).bind fun r1 =>
 treepatch_CopyTree.j1 r1

noncomputable def slices_Equal.j1 : Option Bool :=
 some true

noncomputable def slices_Equal.l1 (s1_ : (List ByteArray)) (s2_ : (List ByteArray)) (x1 : Int) : Option (Step Int (Bool ⊕ Unit)) :=
 if decide (x1 < (s1_.length : Int)) then
(at? s1_ x1).bind fun y1 =>
(at? s2_ x1).bind fun y2 =>
 if !decide (y1 = y2) then
 some (Step.done (Sum.inl false))
 else
(ckK .i64 (x1 + 1)).bind fun z1 =>
 some (Step.next z1)
 else
 some (Step.done (Sum.inr ()))

noncomputable def slices_Equal (s1_ : (List ByteArray)) (s2_ : (List ByteArray)) : Option Bool :=
 if !decide ((s1_.length : Int) = (s2_.length : Int)) then
 some false
 else
(iter (fun s => slices_Equal.l1 s1_ s2_ s) 0).bind fun r1 =>
(match r1 with
| .inl p => some p
| .inr _ => slices_Equal.j1)

noncomputable def lines_Occurs (text : (List ByteArray)) (part : (List ByteArray)) (at_ : Int) : Option Bool :=
(if decide (at_ ≥ 0) then some (decide (at_ ≤ (text.length : Int))) else some false).bind fun x1 =>
(if x1 then (ckK .i64 ((text.length : Int) - at_)).bind fun z1 =>
 some (decide ((part.length : Int) ≤ z1)) else some false).bind fun x2 =>
(if x2 then (ckK .i64 (at_ + (part.length : Int))).bind fun z2 =>
(cut? text at_ z2).bind fun y1 =>
(slices_Equal y1 part).bind fun y2 =>
 some y2 else some false).bind fun x3 =>
 some x3

noncomputable def textpatch_Raw.j1 (text : (List ByteArray)) (high : Int) (x1 : List ByteArray) (x2 : Int) : Option (List ByteArray) :=
(cut? text x2 high).bind fun y1 =>
(app? 16 x1 y1).bind fun y2 =>
 some y2

noncomputable def textpatch_Raw.l1 (hunks : (List Hunk)) (text : (List ByteArray)) (x3 : Int) (x4 : List ByteArray) (x5 : Int) : Option (Step (Int × (List ByteArray) × Int) ((List ByteArray) × Int)) :=
 if decide (x3 < (hunks.length : Int)) then
(at? hunks x3).bind fun y3 =>
(cut? text x5 y3.At).bind fun y4 =>
(app? 16 x4 y4).bind fun y5 =>
(app? 16 y5 y3.New).bind fun y6 =>
(textpatch_End y3).bind fun y7 =>
(ckK .i64 (x3 + 1)).bind fun z1 =>
 some (Step.next (z1, y6, y7))
 else
 some (Step.done (x4, x5))

noncomputable def textpatch_Raw (hunks : (List Hunk)) (text : (List ByteArray)) (low : Int) (high : Int) : Option (List ByteArray) :=
(iter (fun s => textpatch_Raw.l1 hunks text s.1 s.2.1 s.2.2) (0, [], low)).bind fun r1 =>
 textpatch_Raw.j1 text high r1.1 r1.2

noncomputable def textpatch_Apply.j1 (p_ : Patch) (text : (List ByteArray)) : Option ((List ByteArray) × Fault) :=
(textpatch_Raw p_.Hunks text 0 (text.length : Int)).bind fun y3 =>
 if decide ((y3.length : Int) > 120) then
 some ([], ({ Code := 10, Index := (-1) } : Fault))
 else
 some (y3, ({ Code := 0, Index := 0 } : Fault))

noncomputable def textpatch_Apply.l1 (p_ : Patch) (text : (List ByteArray)) (x1 : Int) : Option (Step Int (((List ByteArray) × Fault) ⊕ Unit)) :=
 if decide (x1 < (p_.Hunks.length : Int)) then
(at? p_.Hunks x1).bind fun y4 =>
(lines_Occurs text y4.Old y4.At).bind fun y5 =>
 if !y5 then
 some (Step.done (Sum.inl ([], ({ Code := 19, Index := x1 } : Fault))))
 else
(ckK .i64 (x1 + 1)).bind fun z1 =>
 some (Step.next z1)
 else
 some (Step.done (Sum.inr ()))

noncomputable def textpatch_Apply (p_ : Patch) (text : (List ByteArray)) : Option ((List ByteArray) × Fault) :=
(textpatch_Validate p_).bind fun y1 =>
 if !(decide (y1.Code = 0) && decide (y1.Index = 0)) then
 some ([], y1)
 else
(lines_Second text (-2)).bind fun y2 =>
 if !(decide (y2.Code = 0) && decide (y2.Index = 0)) then
 some ([], y2)
 else
(iter (fun s => textpatch_Apply.l1 p_ text s) 0).bind fun r1 =>
(match r1 with
| .inl p => some p
| .inr _ => textpatch_Apply.j1 p_ text)

noncomputable def bytealg_CompareString (a_ : ByteArray) (b_ : ByteArray) : Option Int :=
 some (cmpB a_ b_)

noncomputable def strings_Compare (a_ : ByteArray) (b_ : ByteArray) : Option Int :=
(bytealg_CompareString a_ b_).bind fun y1 =>
 some y1

noncomputable def treepatch_Find_s1 (f : File) (path : ByteArray) : Option Int :=
(strings_Compare f.Path path).bind fun y1 =>
 some y1

noncomputable def treepatch_Find.j1 (files : (List File)) (path : ByteArray) (x1 : Int) : Option (Int × Bool) :=
(if decide (x1 < (files.length : Int)) then (at? files x1).bind fun y1 =>
(treepatch_Find_s1 y1 path).bind fun y2 =>
 some (decide (y2 = 0)) else some false).bind fun x2 =>
 some (x1, x2)

noncomputable def treepatch_Find.l1 (files : (List File)) (path : ByteArray) (x3 : Int) (x4 : Int) : Option (Step (Int × Int) Int) :=
 if decide (x4 < x3) then
(ckK .i64 (x4 + x3)).bind fun z1 =>
(ckK .u64 z1).bind fun z2 =>
(shr? .u64 z2 1).bind fun z3 =>
(ckK .i64 z3).bind fun z4 =>
(at? files z4).bind fun y3 =>
(treepatch_Find_s1 y3 path).bind fun y4 =>
 if decide (y4 < 0) then
(ckK .i64 (z4 + 1)).bind fun z5 =>
 some (Step.next (x3, z5))
 else
 some (Step.next (z4, x4))
 else
 some (Step.done x4)

noncomputable def treepatch_Find (files : (List File)) (path : ByteArray) : Option (Int × Bool) :=
(iter (fun s => treepatch_Find.l1 files path s.1 s.2) ((files.length : Int), 0)).bind fun r1 =>
 treepatch_Find.j1 files path r1

noncomputable def treepatch_Put.j1 (l_ : (List ByteArray)) (y1 : Int × Bool) (x1 : List File) : Option FileTree :=
(slices_Clone l_).bind fun y2 =>
(at? x1 y1.1).bind fun y3 =>
(some (x1.set y1.1.toNat ({ Path := y3.Path, Lines := y2 } : File))).bind fun y4 =>
 some ({ Files := y4 } : FileTree)

noncomputable def treepatch_Put (t_ : FileTree) (path : ByteArray) (l_ : (List ByteArray)) : Option FileTree :=
(treepatch_Find t_.Files path).bind fun y1 =>
 if !y1.2 then
(ins? 40 t_.Files y1.1 ([({ Path := path, Lines := [] } : File)] : List File)).bind fun y5 =>
 treepatch_Put.j1 l_ y1 y5
 else
 treepatch_Put.j1 l_ y1 t_.Files

noncomputable def treepatch_make1.j1 (x1 : List File) : Option (Int × FileTree) :=
 some (0, ({ Files := x1 } : FileTree))

noncomputable def treepatch_make1 (c_ : TreeChange) (t_ : FileTree) : Option (Int × FileTree) :=
(treepatch_Find t_.Files c_.Path).bind fun y1 =>
 if decide (c_.Kind = 1) then
(treepatch_Clash t_.Files c_.Path (-1)).bind fun y2 =>
 if y2 then
 some (7, t_)
 else
 if decide ((t_.Files.length : Int) ≥ 24) then
 some (14, t_)
 else
(treepatch_Put t_ c_.Path c_.Lines).bind fun y3 =>
 some (0, y3)
 else
 if !y1.2 then
 some (6, t_)
 else
(at? t_.Files y1.1).bind fun y4 =>
 if decide (c_.Kind = 2) then
(slices_Equal y4.Lines c_.Lines).bind fun y5 =>
 if !y5 then
 some (19, t_)
 else
(ckK .i64 (y1.1 + 1)).bind fun z1 =>
(del? t_.Files y1.1 z1).bind fun y6 =>
 treepatch_make1.j1 y6
 else
 if decide (c_.Kind = 3) then
(treepatch_Clash t_.Files c_.To y1.1).bind fun y7 =>
 if y7 then
 some (7, t_)
 else
(ckK .i64 (y1.1 + 1)).bind fun z2 =>
(del? t_.Files y1.1 z2).bind fun y8 =>
(treepatch_Put ({ Files := y8 } : FileTree) c_.To y4.Lines).bind fun y9 =>
 treepatch_make1.j1 y9.Files
 else
(textpatch_Apply c_.Patch y4.Lines).bind fun y10 =>
 if !(decide (y10.2.Code = 0) && decide (y10.2.Index = 0)) then
 some (y10.2.Code, t_)
 else
(at? t_.Files y1.1).bind fun y11 =>
(some (t_.Files.set y1.1.toNat ({ Path := y11.Path, Lines := y10.1 } : File))).bind fun y12 =>
 treepatch_make1.j1 y12

noncomputable def treepatch_Apply.j1 (x1 : List File) : Option (FileTree × Fault) :=
 some (({ Files := x1 } : FileTree), ({ Code := 0, Index := 0 } : Fault))

noncomputable def treepatch_Apply.l1 (p_ : TreePatch) (x2 : Int) (x3 : List File) : Option (Step (Int × (List File)) ((FileTree × Fault) ⊕ (List File))) :=
 if decide (x2 < (p_.Changes.length : Int)) then
(at? p_.Changes x2).bind fun y4 =>
(treepatch_make1 y4 ({ Files := x3 } : FileTree)).bind fun y5 =>
 if !decide (y5.1 = 0) then
 some (Step.done (Sum.inl (({ Files := [] } : FileTree), ({ Code := y5.1, Index := x2 } : Fault))))
 else
(ckK .i64 (x2 + 1)).bind fun z1 =>
 some (Step.next (z1, y5.2.Files))
 else
 some (Step.done (Sum.inr x3))

noncomputable def treepatch_Apply (p_ : TreePatch) (t_ : FileTree) : Option (FileTree × Fault) :=
(treepatch_ValidatePatch p_).bind fun y1 =>
 if !(decide (y1.Code = 0) && decide (y1.Index = 0)) then
 some (({ Files := [] } : FileTree), y1)
 else
(treepatch_Second t_ (-2)).bind fun y2 =>
 if !(decide (y2.Code = 0) && decide (y2.Index = 0)) then
 some (({ Files := [] } : FileTree), y2)
 else
(treepatch_CopyTree t_).bind fun y3 =>
(iter (fun s => treepatch_Apply.l1 p_ s.1 s.2) (0, y3.Files)).bind fun r1 =>
(match r1 with
| .inl p => some p
| .inr p => treepatch_Apply.j1 p)

noncomputable def changeforgeequal_Strings.j1 : Option Bool :=
 some true

noncomputable def changeforgeequal_Strings.l1 (a_ : (List ByteArray)) (b_ : (List ByteArray)) (x1 : Int) : Option (Step Int (Bool ⊕ Unit)) :=
 if decide (x1 < (a_.length : Int)) then
(at? a_ x1).bind fun y1 =>
(at? b_ x1).bind fun y2 =>
 if !decide (y1 = y2) then
 some (Step.done (Sum.inl false))
 else
(ckK .i64 (x1 + 1)).bind fun z1 =>
 some (Step.next z1)
 else
 some (Step.done (Sum.inr ()))

noncomputable def changeforgeequal_Strings (a_ : (List ByteArray)) (b_ : (List ByteArray)) : Option Bool :=
 if !decide ((a_.length : Int) = (b_.length : Int)) then
 some false
 else
(iter (fun s => changeforgeequal_Strings.l1 a_ b_ s) 0).bind fun r1 =>
(match r1 with
| .inl p => some p
| .inr _ => changeforgeequal_Strings.j1)

noncomputable def changeforgeequal_Tree.j1 : Option Bool :=
 some true

noncomputable def changeforgeequal_Tree.l1 (a_ : FileTree) (b_ : FileTree) (x1 : Int) : Option (Step Int (Bool ⊕ Unit)) :=
 if decide (x1 < (a_.Files.length : Int)) then
(at? a_.Files x1).bind fun y1 =>
(at? b_.Files x1).bind fun y2 =>
(if !decide (y1.Path = y2.Path) then some true else (at? a_.Files x1).bind fun y3 =>
(at? b_.Files x1).bind fun y4 =>
(changeforgeequal_Strings y3.Lines y4.Lines).bind fun y5 =>
 some !y5).bind fun x3 =>
 if x3 then
 some (Step.done (Sum.inl false))
 else
(ckK .i64 (x1 + 1)).bind fun z1 =>
 some (Step.next z1)
 else
 some (Step.done (Sum.inr ()))

noncomputable def changeforgeequal_Tree (a_ : FileTree) (b_ : FileTree) : Option Bool :=
 if !decide ((a_.Files.length : Int) = (b_.Files.length : Int)) then
 some false
 else
(iter (fun s => changeforgeequal_Tree.l1 a_ b_ s) 0).bind fun r1 =>
(match r1 with
| .inl p => some p
| .inr _ => changeforgeequal_Tree.j1)

noncomputable def changeforgetop_h11Edit (path : ByteArray) (p_ : Patch) : Option TreePatch :=
 some ({ Changes := ([({ Kind := 4, Path := path, To := ByteArray.empty, Lines := [], Patch := p_ } : TreeChange)] : List TreeChange) } : TreePatch)

noncomputable def changeforgetop_h11Works : Option Bool :=
(textpatch_Apply ({ Hunks := ([({ At := 0, Old := ([(⟨#[97]⟩ : ByteArray)] : List ByteArray), New := ([(⟨#[98]⟩ : ByteArray)] : List ByteArray) } : Hunk)] : List Hunk) } : Patch) ([(⟨#[97]⟩ : ByteArray)] : List ByteArray)).bind fun y1 =>
(changeforgetop_h11Edit (⟨#[120]⟩ : ByteArray) ({ Hunks := ([({ At := 0, Old := ([(⟨#[97]⟩ : ByteArray)] : List ByteArray), New := ([(⟨#[98]⟩ : ByteArray)] : List ByteArray) } : Hunk)] : List Hunk) } : Patch)).bind fun y2 =>
(treepatch_Apply y2 ({ Files := ([({ Path := (⟨#[120]⟩ : ByteArray), Lines := ([(⟨#[97]⟩ : ByteArray)] : List ByteArray) } : File)] : List File) } : FileTree)).bind fun y3 =>
(if decide (y1.2.Code = 0) then some (decide (y3.2.Code = 0)) else some false).bind fun x1 =>
(if x1 then (changeforgeequal_Strings y1.1 ([(⟨#[98]⟩ : ByteArray)] : List ByteArray)).bind fun y4 =>
 some y4 else some false).bind fun x2 =>
(if x2 then (changeforgeequal_Tree y3.1 ({ Files := ([({ Path := (⟨#[120]⟩ : ByteArray), Lines := ([(⟨#[98]⟩ : ByteArray)] : List ByteArray) } : File)] : List File) } : FileTree)).bind fun y5 =>
 some y5 else some false).bind fun x3 =>
 some x3

noncomputable def lines_Both (a_ : (List ByteArray)) (b_ : (List ByteArray)) : Option Fault :=
(lines_Validate a_).bind fun y1 =>
 if !(decide (y1.Code = 0) && decide (y1.Index = 0)) then
 some y1
 else
(lines_Second b_ (-2)).bind fun y2 =>
 some y2

noncomputable def diff_Align_s1 (i_ : Int) (j : Int) (u2 : (List Int)) (u3 : Int) : Option Int :=
(ckK .i64 (i_ * u3)).bind fun z1 =>
(ckK .i64 (z1 + j)).bind fun z2 =>
(at? u2 z2).bind fun y1 =>
 some y1

noncomputable def diff_Align.j2 (x2 : List Int) : Option (List Int) :=
 some x2

noncomputable def diff_Align.l1 (a_ : (List ByteArray)) (b_ : (List ByteArray)) (z1 : Int) (x1 : List Int) (x3 : Int) (x4 : Int) (x5 : List Int) : Option (Step (Int × Int × (List Int)) (List Int)) :=
(if decide (x4 < (a_.length : Int)) then some true else some (decide (x3 < (b_.length : Int)))).bind fun x7 =>
 if x7 then
(if decide (x4 < (a_.length : Int)) then some (decide (x3 < (b_.length : Int))) else some false).bind fun x8 =>
(if x8 then (at? a_ x4).bind fun y2 =>
(at? b_ x3).bind fun y3 =>
 some (decide (y2 = y3)) else some false).bind fun x9 =>
 if x9 then
(app? 8 x5 ([0] : List Int)).bind fun y4 =>
(ckK .i64 (x4 + 1)).bind fun z4 =>
(ckK .i64 (x3 + 1)).bind fun z5 =>
 some (Step.next (z5, z4, y4))
 else
(if decide (x3 = (b_.length : Int)) then some true else (if decide (x4 < (a_.length : Int)) then (ckK .i64 (x4 + 1)).bind fun z6 =>
(diff_Align_s1 z6 x3 x1 z1).bind fun y5 =>
(ckK .i64 (x3 + 1)).bind fun z7 =>
(diff_Align_s1 x4 z7 x1 z1).bind fun y6 =>
 some (decide (y5 ≥ y6)) else some false).bind fun x11 =>
 some x11).bind fun x10 =>
 if x10 then
(app? 8 x5 ([1] : List Int)).bind fun y7 =>
(ckK .i64 (x4 + 1)).bind fun z8 =>
 some (Step.next (x3, z8, y7))
 else
(app? 8 x5 ([2] : List Int)).bind fun y8 =>
(ckK .i64 (x3 + 1)).bind fun z9 =>
 some (Step.next (z9, x4, y8))
 else
 some (Step.done x5)

noncomputable def diff_Align.j1 (a_ : (List ByteArray)) (b_ : (List ByteArray)) (z1 : Int) (x1 : List Int) : Option (List Int) :=
(iter (fun s => diff_Align.l1 a_ b_ z1 x1 s.1 s.2.1 s.2.2) (0, 0, [])).bind fun r1 =>
 diff_Align.j2 r1

noncomputable def diff_Align.j3 (x12 : Int) (x15 : List Int) : Option (Step (Int × (List Int)) (List Int)) :=
(ckK .i64 (x12 - 1)).bind fun z11 =>
 some (Step.next (z11, x15))

noncomputable def diff_Align.j4 (x12 : Int) (x16 : List Int) : Option (Step (Int × (List Int)) (List Int)) :=
 diff_Align.j3 x12 x16

noncomputable def diff_Align.j5 (z1 : Int) (x12 : Int) (x17 : Int) (x18 : List Int) (x20 : Int) : Option (Step (Int × (List Int)) (List Int)) :=
(ckK .i64 (x12 * z1)).bind fun z15 =>
(ckK .i64 (z15 + x17)).bind fun z16 =>
(at? x18 z16).bind fun y11 =>
(some (x18.set z16.toNat x20)).bind fun y12 =>
(ckK .i64 (x17 - 1)).bind fun z17 =>
 some (Step.next (z17, y12))

noncomputable def diff_Align.l3 (a_ : (List ByteArray)) (b_ : (List ByteArray)) (z1 : Int) (x12 : Int) (x17 : Int) (x18 : List Int) : Option (Step (Int × (List Int)) (List Int)) :=
 if decide (x17 ≥ 0) then
(ckK .i64 (x12 + 1)).bind fun z13 =>
(diff_Align_s1 z13 x17 x18 z1).bind fun y9 =>
(ckK .i64 (x17 + 1)).bind fun z14 =>
(diff_Align_s1 x12 z14 x18 z1).bind fun y10 =>
(at? a_ x12).bind fun y13 =>
(at? b_ x17).bind fun y14 =>
 if decide (y13 = y14) then
(ckK .i64 (x12 + 1)).bind fun z18 =>
(ckK .i64 (x17 + 1)).bind fun z19 =>
(diff_Align_s1 z18 z19 x18 z1).bind fun y15 =>
(ckK .i64 (y15 + 1)).bind fun z20 =>
 diff_Align.j5 z1 x12 x17 x18 z20
 else
 diff_Align.j5 z1 x12 x17 x18 (max y9 y10)
 else
 some (Step.done x18)

noncomputable def diff_Align.l2 (a_ : (List ByteArray)) (b_ : (List ByteArray)) (z1 : Int) (x12 : Int) (x13 : List Int) : Option (Step (Int × (List Int)) (List Int)) :=
 if decide (x12 ≥ 0) then
(ckK .i64 ((b_.length : Int) - 1)).bind fun z12 =>
(iter (fun s => diff_Align.l3 a_ b_ z1 x12 s.1 s.2) (z12, x13)).bind fun r3 =>
 diff_Align.j4 x12 r3
 else
 some (Step.done x13)

noncomputable def diff_Align (a_ : (List ByteArray)) (b_ : (List ByteArray)) : Option (List Int) :=
(ckK .i64 ((b_.length : Int) + 1)).bind fun z1 =>
(ckK .i64 ((a_.length : Int) + 1)).bind fun z2 =>
(ckK .i64 (z2 * z1)).bind fun z3 =>
(mk? 8 z3 (0 : Int)).bind fun y1 =>
(ckK .i64 ((a_.length : Int) - 1)).bind fun z10 =>
(iter (fun s => diff_Align.l2 a_ b_ z1 s.1 s.2) (z10, y1)).bind fun r2 =>
 diff_Align.j1 a_ b_ z1 r2

noncomputable def diff_Distance.j1 (x1 : Int) : Option (Int × Fault) :=
 some (x1, ({ Code := 0, Index := 0 } : Fault))

noncomputable def diff_Distance.j2 (x2 : Int) (x5 : Int) : Option (Step (Int × Int) Int) :=
(ckK .i64 (x2 + 1)).bind fun z1 =>
 some (Step.next (z1, x5))

noncomputable def diff_Distance.l1 (y2 : (List Int)) (x2 : Int) (x3 : Int) : Option (Step (Int × Int) Int) :=
 if decide (x2 < (y2.length : Int)) then
(at? y2 x2).bind fun y3 =>
 if !decide (y3 = 0) then
(ckK .i64 (x3 + 1)).bind fun z2 =>
 diff_Distance.j2 x2 z2
 else
 diff_Distance.j2 x2 x3
 else
 some (Step.done x3)

noncomputable def diff_Distance (a_ : (List ByteArray)) (b_ : (List ByteArray)) : Option (Int × Fault) :=
(lines_Both a_ b_).bind fun y1 =>
 if !(decide (y1.Code = 0) && decide (y1.Index = 0)) then
 some (0, y1)
 else
(diff_Align a_ b_).bind fun y2 =>
(iter (fun s => diff_Distance.l1 y2 s.1 s.2) (0, 0)).bind fun r1 =>
 diff_Distance.j1 r1

noncomputable def rename_Similarity (a_ : (List ByteArray)) (b_ : (List ByteArray)) : Option (Int × Fault) :=
(diff_Distance a_ b_).bind fun y1 =>
 if !(decide (y1.2.Code = 0) && decide (y1.2.Index = 0)) then
 some (0, y1.2)
 else
(ckK .i64 ((a_.length : Int) + (b_.length : Int))).bind fun z1 =>
 if decide (z1 = 0) then
 some (100, ({ Code := 0, Index := 0 } : Fault))
 else
(ckK .i64 (z1 - y1.1)).bind fun z2 =>
(ckK .i64 (100 * z2)).bind fun z3 =>
(quo? .i64 z3 z1).bind fun z4 =>
 some (z4, ({ Code := 0, Index := 0 } : Fault))

noncomputable def api_File_ (s_ : (List File)) : Option (List File) :=
 nilIf s_ (
 some []) (
(app? 40 ([] : List File) s_).bind fun y1 =>
 some y1)

noncomputable def rename_only.j1 (x1 : List File) : Option (List File) :=
 some x1

noncomputable def rename_only.j3 (x3 : Int) (x4 : List File) : Option (List File) :=
(als? x4 x3).bind fun z1 =>
(clr? x4 x3 z1 ({ Path := ByteArray.empty, Lines := [] } : File)).bind fun y2 =>
(cut? y2 0 x3).bind fun y3 =>
 rename_only.j1 y3

noncomputable def rename_only.j4 (x5 : Int) (x9 : Int) (x10 : List File) : Option (Step (Int × Int × (List File)) (Int × (List File))) :=
(ckK .i64 (x5 + 1)).bind fun z3 =>
 some (Step.next (z3, x9, x10))

noncomputable def rename_only.l1 (b_ : FileTree) (x5 : Int) (x6 : Int) (x7 : List File) : Option (Step (Int × Int × (List File)) (Int × (List File))) :=
 if decide (x5 < (x7.length : Int)) then
(at? x7 x5).bind fun y4 =>
(treepatch_Find b_.Files y4.Path).bind fun y5 =>
 if !y5.2 then
(at? x7 x6).bind fun y6 =>
(some (x7.set x6.toNat y4)).bind fun y7 =>
(ckK .i64 (x6 + 1)).bind fun z4 =>
 rename_only.j4 x5 z4 y7
 else
 rename_only.j4 x5 x6 x7
 else
 some (Step.done (x6, x7))

noncomputable def rename_only.j2 (b_ : FileTree) (y1 : (List File)) (x2 : Int) : Option (List File) :=
 if decide (x2 = (-1)) then
 rename_only.j1 y1
 else
(ckK .i64 (x2 + 1)).bind fun z2 =>
(iter (fun s => rename_only.l1 b_ s.1 s.2.1 s.2.2) (z2, x2, y1)).bind fun r1 =>
 rename_only.j3 r1.1 r1.2

noncomputable def rename_only.j5 (b_ : FileTree) (y1 : (List File)) : Option (List File) :=
 rename_only.j2 b_ y1 (-1)

noncomputable def rename_only.l2 (b_ : FileTree) (y1 : (List File)) (x11 : Int) : Option (Step Int (Int ⊕ Unit)) :=
 if decide (x11 < (y1.length : Int)) then
(at? y1 x11).bind fun y8 =>
(treepatch_Find b_.Files y8.Path).bind fun y9 =>
 if y9.2 then
 some (Step.done (Sum.inl x11))
 else
(ckK .i64 (x11 + 1)).bind fun z5 =>
 some (Step.next z5)
 else
 some (Step.done (Sum.inr ()))

noncomputable def rename_only (a_ : FileTree) (b_ : FileTree) : Option (List File) :=
(api_File_ a_.Files).bind fun y1 =>
(iter (fun s => rename_only.l2 b_ y1 s) 0).bind fun r2 =>
(match r2 with
| .inl p => rename_only.j2 b_ y1 p
| .inr _ => rename_only.j5 b_ y1)

noncomputable def bits_Len32.j2 (x3 : Int) (x4 : Int) : Option Int :=
(ckK .u8 x4).bind fun z1 =>
(sAt? (⟨#[0, 1, 2, 2, 3, 3, 3, 3, 4, 4, 4, 4, 4, 4, 4, 4, 5, 5, 5, 5, 5, 5, 5, 5, 5, 5, 5, 5, 5, 5, 5, 5, 6, 6, 6, 6, 6, 6, 6, 6, 6, 6, 6, 6, 6, 6, 6, 6, 6, 6, 6, 6, 6, 6, 6, 6, 6, 6, 6, 6, 6, 6, 6, 6, 7, 7, 7, 7, 7, 7, 7, 7, 7, 7, 7, 7, 7, 7, 7, 7, 7, 7, 7, 7, 7, 7, 7, 7, 7, 7, 7, 7, 7, 7, 7, 7, 7, 7, 7, 7, 7, 7, 7, 7, 7, 7, 7, 7, 7, 7, 7, 7, 7, 7, 7, 7, 7, 7, 7, 7, 7, 7, 7, 7, 7, 7, 7, 7, 8, 8, 8, 8, 8, 8, 8, 8, 8, 8, 8, 8, 8, 8, 8, 8, 8, 8, 8, 8, 8, 8, 8, 8, 8, 8, 8, 8, 8, 8, 8, 8, 8, 8, 8, 8, 8, 8, 8, 8, 8, 8, 8, 8, 8, 8, 8, 8, 8, 8, 8, 8, 8, 8, 8, 8, 8, 8, 8, 8, 8, 8, 8, 8, 8, 8, 8, 8, 8, 8, 8, 8, 8, 8, 8, 8, 8, 8, 8, 8, 8, 8, 8, 8, 8, 8, 8, 8, 8, 8, 8, 8, 8, 8, 8, 8, 8, 8, 8, 8, 8, 8, 8, 8, 8, 8, 8, 8, 8, 8, 8, 8, 8, 8, 8, 8, 8, 8, 8, 8, 8, 8, 8, 8, 8, 8, 8, 8]⟩ : ByteArray) z1).bind fun y1 =>
(ckK .i64 y1).bind fun z2 =>
(ckK .i64 (x3 + z2)).bind fun z3 =>
 some z3

noncomputable def bits_Len32.j1 (x1 : Int) (x2 : Int) : Option Int :=
 if decide (x2 ≥ 256) then
(shr? .u32 x2 8).bind fun z4 =>
(ckK .i64 (x1 + 8)).bind fun z5 =>
 bits_Len32.j2 z5 z4
 else
 bits_Len32.j2 x1 x2

noncomputable def bits_Len32 (x_ : Int) : Option Int :=
 if decide (x_ ≥ 65536) then
(shr? .u32 x_ 16).bind fun z6 =>
 bits_Len32.j1 16 z6
 else
 bits_Len32.j1 0 x_

noncomputable def bits_Len64.j3 (x5 : Int) (x6 : Int) : Option Int :=
(ckK .u8 x6).bind fun z1 =>
(sAt? (⟨#[0, 1, 2, 2, 3, 3, 3, 3, 4, 4, 4, 4, 4, 4, 4, 4, 5, 5, 5, 5, 5, 5, 5, 5, 5, 5, 5, 5, 5, 5, 5, 5, 6, 6, 6, 6, 6, 6, 6, 6, 6, 6, 6, 6, 6, 6, 6, 6, 6, 6, 6, 6, 6, 6, 6, 6, 6, 6, 6, 6, 6, 6, 6, 6, 7, 7, 7, 7, 7, 7, 7, 7, 7, 7, 7, 7, 7, 7, 7, 7, 7, 7, 7, 7, 7, 7, 7, 7, 7, 7, 7, 7, 7, 7, 7, 7, 7, 7, 7, 7, 7, 7, 7, 7, 7, 7, 7, 7, 7, 7, 7, 7, 7, 7, 7, 7, 7, 7, 7, 7, 7, 7, 7, 7, 7, 7, 7, 7, 8, 8, 8, 8, 8, 8, 8, 8, 8, 8, 8, 8, 8, 8, 8, 8, 8, 8, 8, 8, 8, 8, 8, 8, 8, 8, 8, 8, 8, 8, 8, 8, 8, 8, 8, 8, 8, 8, 8, 8, 8, 8, 8, 8, 8, 8, 8, 8, 8, 8, 8, 8, 8, 8, 8, 8, 8, 8, 8, 8, 8, 8, 8, 8, 8, 8, 8, 8, 8, 8, 8, 8, 8, 8, 8, 8, 8, 8, 8, 8, 8, 8, 8, 8, 8, 8, 8, 8, 8, 8, 8, 8, 8, 8, 8, 8, 8, 8, 8, 8, 8, 8, 8, 8, 8, 8, 8, 8, 8, 8, 8, 8, 8, 8, 8, 8, 8, 8, 8, 8, 8, 8, 8, 8, 8, 8, 8, 8]⟩ : ByteArray) z1).bind fun y1 =>
(ckK .i64 y1).bind fun z2 =>
(ckK .i64 (x5 + z2)).bind fun z3 =>
 some z3

noncomputable def bits_Len64.j2 (x3 : Int) (x4 : Int) : Option Int :=
 if decide (x4 ≥ 256) then
(shr? .u64 x4 8).bind fun z4 =>
(ckK .i64 (x3 + 8)).bind fun z5 =>
 bits_Len64.j3 z5 z4
 else
 bits_Len64.j3 x3 x4

noncomputable def bits_Len64.j1 (x1 : Int) (x2 : Int) : Option Int :=
 if decide (x2 ≥ 65536) then
(shr? .u64 x2 16).bind fun z6 =>
(ckK .i64 (x1 + 16)).bind fun z7 =>
 bits_Len64.j2 z7 z6
 else
 bits_Len64.j2 x1 x2

noncomputable def bits_Len64 (x_ : Int) : Option Int :=
 if decide (x_ ≥ 4294967296) then
(shr? .u64 x_ 32).bind fun z8 =>
 bits_Len64.j1 32 z8
 else
 bits_Len64.j1 0 x_

noncomputable def cmp_Or.j1 : Option Int :=
 some 0

noncomputable def cmp_Or.l1 (vals : (List Int)) (x1 : Int) : Option (Step Int (Int ⊕ Unit)) :=
 if decide (x1 < (vals.length : Int)) then
(at? vals x1).bind fun y1 =>
 if !decide (y1 = 0) then
 some (Step.done (Sum.inl y1))
 else
(ckK .i64 (x1 + 1)).bind fun z1 =>
 some (Step.next z1)
 else
 some (Step.done (Sum.inr ()))

noncomputable def cmp_Or (vals : (List Int)) : Option Int :=
(iter (fun s => cmp_Or.l1 vals s) 0).bind fun r1 =>
(match r1 with
| .inl p => some p
| .inr _ => cmp_Or.j1)

noncomputable def cmp_isNaN (x_ : ByteArray) : Option Bool :=
 some (!decide (x_ = x_))

noncomputable def cmp_Compare (x_ : ByteArray) (y : ByteArray) : Option Int :=
(cmp_isNaN x_).bind fun y1 =>
(cmp_isNaN y).bind fun y2 =>
 if y1 then
 if y2 then
 some 0
 else
 some (-1)
 else
 if y2 then
 some 1
 else
 if sLt x_ y then
 some (-1)
 else
 if !(sLt x_ y || decide (x_ = y)) then
 some 1
 else
 some 0

noncomputable def rename_Detect_s1 (a_ : Pair_rename) (b_ : Pair_rename) : Option Int :=
(ckK .i64 (b_.percent - a_.percent)).bind fun z1 =>
(cmp_Compare a_.old_ b_.old_).bind fun y1 =>
(cmp_Compare a_.newer b_.newer).bind fun y2 =>
(cmp_Or ([z1, y1, y2] : List Int)).bind fun y3 =>
 some y3

noncomputable def rename_Detect_s3 (a_ : Arr2_ByteArray) (b_ : Arr2_ByteArray) : Option Int :=
(cmp_Compare a_.e0 b_.e0).bind fun y1 =>
 some y1

noncomputable def rename_Detect.j2 (x3 : List Arr2_ByteArray) : Option ((List Arr2_ByteArray) × Fault) :=
(sortM rename_Detect_s3 x3).bind fun y4 =>
 some (y4, ({ Code := 0, Index := 0 } : Fault))

noncomputable def rename_Detect.j3 (x4 : Int) (x7 : List Arr2_ByteArray) : Option (Step (Int × (List Arr2_ByteArray)) (List Arr2_ByteArray)) :=
(ckK .i64 (x4 + 1)).bind fun z1 =>
 some (Step.next (z1, x7))

noncomputable def rename_Detect.j4 (old_ : FileTree) (newer : FileTree) (x4 : Int) (x5 : List Arr2_ByteArray) (y5 : Pair_rename) (x8 : Int) : Option (Step (Int × (List Arr2_ByteArray)) (List Arr2_ByteArray)) :=
 if !(decide (x8 ≥ 0)) then
(app? 32 x5 ([({ e0 := y5.old_, e1 := y5.newer } : Arr2_ByteArray)] : List Arr2_ByteArray)).bind fun y6 =>
 rename_Detect.j3 x4 y6
 else
 rename_Detect.j3 x4 x5

noncomputable def rename_Detect.j5 (old_ : FileTree) (newer : FileTree) (x4 : Int) (x5 : List Arr2_ByteArray) (y5 : Pair_rename) : Option (Step (Int × (List Arr2_ByteArray)) (List Arr2_ByteArray)) :=
 rename_Detect.j4 old_ newer x4 x5 y5 (-1)

noncomputable def rename_Detect.l2 (old_ : FileTree) (newer : FileTree) (x5 : List Arr2_ByteArray) (y5 : Pair_rename) (x9 : Int) : Option (Step Int (Int ⊕ Unit)) :=
 if decide (x9 < (x5.length : Int)) then
(at? x5 x9).bind fun y7 =>
(if decide (y7.e0 = y5.old_) then some true else some (decide (y7.e1 = y5.newer))).bind fun x11 =>
 if x11 then
 some (Step.done (Sum.inl x9))
 else
(ckK .i64 (x9 + 1)).bind fun z2 =>
 some (Step.next z2)
 else
 some (Step.done (Sum.inr ()))

noncomputable def rename_Detect.l1 (old_ : FileTree) (newer : FileTree) (y3 : List Pair_rename) (x4 : Int) (x5 : List Arr2_ByteArray) : Option (Step (Int × (List Arr2_ByteArray)) (List Arr2_ByteArray)) :=
 if decide (x4 < (y3.length : Int)) then
(at? y3 x4).bind fun y5 =>
(iter (fun s => rename_Detect.l2 old_ newer x5 y5 s) 0).bind fun r2 =>
(match r2 with
| .inl p => rename_Detect.j4 old_ newer x4 x5 y5 p
| .inr _ => rename_Detect.j5 old_ newer x4 x5 y5)
 else
 some (Step.done x5)

noncomputable def rename_Detect.j1 (old_ : FileTree) (newer : FileTree) (x2 : List Pair_rename) : Option ((List Arr2_ByteArray) × Fault) :=
(sortM rename_Detect_s1 x2).bind fun y3 =>
(iter (fun s => rename_Detect.l1 old_ newer y3 s.1 s.2) (0, [])).bind fun r1 =>
 rename_Detect.j2 r1

noncomputable def rename_Detect.j6 (x12 : Int) (x15 : List Pair_rename) : Option (Step (Int × (List Pair_rename)) (List Pair_rename)) :=
(ckK .i64 (x12 + 1)).bind fun z3 =>
 some (Step.next (z3, x15))

noncomputable def rename_Detect.j7 (x12 : Int) (x16 : List Pair_rename) : Option (Step (Int × (List Pair_rename)) (List Pair_rename)) :=
 rename_Detect.j6 x12 x16

noncomputable def rename_Detect.j8 (x17 : Int) (x20 : List Pair_rename) : Option (Step (Int × (List Pair_rename)) (List Pair_rename)) :=
(ckK .i64 (x17 + 1)).bind fun z4 =>
 some (Step.next (z4, x20))

noncomputable def rename_Detect.l4 (old_ : FileTree) (newer : FileTree) (percent : Int) (y9 : File) (y10 : (List File)) (x17 : Int) (x18 : List Pair_rename) : Option (Step (Int × (List Pair_rename)) (List Pair_rename)) :=
 if decide (x17 < (y10.length : Int)) then
(at? y10 x17).bind fun y11 =>
(rename_Similarity y9.Lines y11.Lines).bind fun y12 =>
 if decide (y12.1 ≥ percent) then
(app? 40 x18 ([({ old_ := y9.Path, newer := y11.Path, percent := y12.1 } : Pair_rename)] : List Pair_rename)).bind fun y13 =>
 rename_Detect.j8 x17 y13
 else
 rename_Detect.j8 x17 x18
 else
 some (Step.done x18)

noncomputable def rename_Detect.l3 (old_ : FileTree) (newer : FileTree) (percent : Int) (y8 : (List File)) (x12 : Int) (x13 : List Pair_rename) : Option (Step (Int × (List Pair_rename)) (List Pair_rename)) :=
 if decide (x12 < (y8.length : Int)) then
(at? y8 x12).bind fun y9 =>
(rename_only newer old_).bind fun y10 =>
(iter (fun s => rename_Detect.l4 old_ newer percent y9 y10 s.1 s.2) (0, x13)).bind fun r4 =>
 rename_Detect.j7 x12 r4
 else
 some (Step.done x13)

noncomputable def rename_Detect (old_ : FileTree) (newer : FileTree) (percent : Int) : Option ((List Arr2_ByteArray) × Fault) :=
(treepatch_Validate old_).bind fun y1 =>
 if !(decide (y1.Code = 0) && decide (y1.Index = 0)) then
 some ([], y1)
 else
(treepatch_Second newer (-2)).bind fun y2 =>
 if !(decide (y2.Code = 0) && decide (y2.Index = 0)) then
 some ([], y2)
 else
(if decide (percent < 0) then some true else some (decide (percent > 100))).bind fun x1 =>
 if x1 then
 some ([], ({ Code := 3, Index := (-3) } : Fault))
 else
(rename_only old_ newer).bind fun y8 =>
(iter (fun s => rename_Detect.l3 old_ newer percent y8 s.1 s.2) (0, [])).bind fun r3 =>
 rename_Detect.j1 old_ newer r3

noncomputable def treepatch_SecondPatch (p_ : TreePatch) (index : Int) : Option Fault :=
(treepatch_ValidatePatch p_).bind fun y1 =>
 if !(decide (y1.Code = 0) && decide (y1.Index = 0)) then
 some ({ Code := y1.Code, Index := index } : Fault)
 else
 some ({ Code := 0, Index := 0 } : Fault)

noncomputable def textpatch_Copy.j1 (x1 : List Hunk) : Option Patch :=
 some ({ Hunks := x1 } : Patch)

noncomputable def textpatch_Copy.l1 (p_ : Patch) (x2 : Int) (x3 : List Hunk) : Option (Step (Int × (List Hunk)) (List Hunk)) :=
 if decide (x2 < (p_.Hunks.length : Int)) then
(at? p_.Hunks x2).bind fun y1 =>
(slices_Clone y1.Old).bind fun y2 =>
(slices_Clone y1.New).bind fun y3 =>
(app? 56 x3 ([({ At := y1.At, Old := y2, New := y3 } : Hunk)] : List Hunk)).bind fun y4 =>
(ckK .i64 (x2 + 1)).bind fun z1 =>
 some (Step.next (z1, y4))
 else
 some (Step.done x3)

noncomputable def textpatch_Copy (p_ : Patch) : Option Patch :=
(iter (fun s => textpatch_Copy.l1 p_ s.1 s.2) (0, [])).bind fun r1 =>
 textpatch_Copy.j1 r1

noncomputable def treepatch_CopyChange (c_ : TreeChange) : Option TreeChange :=
(slices_Clone c_.Lines).bind fun y1 =>
(textpatch_Copy c_.Patch).bind fun y2 =>
 some ({ Kind := c_.Kind, Path := c_.Path, To := c_.To, Lines := y1, Patch := y2 } : TreeChange)

noncomputable def treecommute_paths (c_ : TreeChange) : Option (List ByteArray) :=
 if decide (c_.Kind = 3) then
 some ([c_.Path, c_.To] : List ByteArray)
 else
 some ([c_.Path] : List ByteArray)

noncomputable def treecommute_touches.j1 : Option Bool :=
 some false

noncomputable def treecommute_touches.j2 (x1 : Int) (x3 : Int) : Option (Step Int (Bool ⊕ Unit)) :=
 if decide (x3 ≥ 0) then
 some (Step.done (Sum.inl true))
 else
(ckK .i64 (x1 + 1)).bind fun z1 =>
 some (Step.next z1)

noncomputable def treecommute_touches.j3 (x1 : Int) : Option (Step Int (Bool ⊕ Unit)) :=
 treecommute_touches.j2 x1 (-1)

noncomputable def treecommute_touches.l2 (path : ByteArray) (y2 : (List ByteArray)) (x4 : Int) : Option (Step Int (Int ⊕ Unit)) :=
 if decide (x4 < (y2.length : Int)) then
(at? y2 x4).bind fun y3 =>
(treepatch_Related y3 path).bind fun y4 =>
 if y4 then
 some (Step.done (Sum.inl x4))
 else
(ckK .i64 (x4 + 1)).bind fun z2 =>
 some (Step.next z2)
 else
 some (Step.done (Sum.inr ()))

noncomputable def treecommute_touches.l1 (path : ByteArray) (changes : (List TreeChange)) (x1 : Int) : Option (Step Int (Bool ⊕ Unit)) :=
 if decide (x1 < (changes.length : Int)) then
(at? changes x1).bind fun y1 =>
(treecommute_paths y1).bind fun y2 =>
(iter (fun s => treecommute_touches.l2 path y2 s) 0).bind fun r2 =>
(match r2 with
| .inl p => treecommute_touches.j2 x1 p
| .inr _ => treecommute_touches.j3 x1)
 else
 some (Step.done (Sum.inr ()))

noncomputable def treecommute_touches (path : ByteArray) (changes : (List TreeChange)) : Option Bool :=
(iter (fun s => treecommute_touches.l1 path changes s) 0).bind fun r1 =>
(match r1 with
| .inl p => some p
| .inr _ => treecommute_touches.j1)

noncomputable def treecommute_independent.j1 (x1 : Int) : Option Bool :=
 some (!(decide (x1 ≥ 0)))

noncomputable def treecommute_independent.j2 : Option Bool :=
 treecommute_independent.j1 (-1)

noncomputable def treecommute_independent.l1 (b_ : TreeChange) (y1 : (List ByteArray)) (x2 : Int) : Option (Step Int (Int ⊕ Unit)) :=
 if decide (x2 < (y1.length : Int)) then
(at? y1 x2).bind fun y2 =>
(treecommute_touches y2 ([b_] : List TreeChange)).bind fun y3 =>
 if y3 then
 some (Step.done (Sum.inl x2))
 else
(ckK .i64 (x2 + 1)).bind fun z1 =>
 some (Step.next z1)
 else
 some (Step.done (Sum.inr ()))

noncomputable def treecommute_independent (a_ : TreeChange) (b_ : TreeChange) : Option Bool :=
(treecommute_paths a_).bind fun y1 =>
(iter (fun s => treecommute_independent.l1 b_ y1 s) 0).bind fun r1 =>
(match r1 with
| .inl p => treecommute_independent.j1 p
| .inr _ => treecommute_independent.j2)

noncomputable def textpatch_Second (p_ : Patch) (index : Int) : Option Fault :=
(textpatch_Validate p_).bind fun y1 =>
 if !(decide (y1.Code = 0) && decide (y1.Index = 0)) then
 some ({ Code := y1.Code, Index := index } : Fault)
 else
 some ({ Code := 0, Index := 0 } : Fault)

noncomputable def commute_both (p_ : Patch) (q_ : Patch) : Option Fault :=
(textpatch_Validate p_).bind fun y1 =>
 if !(decide (y1.Code = 0) && decide (y1.Index = 0)) then
 some y1
 else
(textpatch_Second q_ (-2)).bind fun y2 =>
 some y2

noncomputable def textpatch_Growth (h_ : Hunk) : Option Int :=
(ckK .i64 ((h_.New.length : Int) - (h_.Old.length : Int))).bind fun z1 =>
 some z1

noncomputable def commute_newRanges.j1 (x1 : List Range_commute) : Option (List Range_commute) :=
 some x1

noncomputable def commute_newRanges.l1 (p_ : Patch) (x2 : Int) (x3 : Int) (x4 : List Range_commute) : Option (Step (Int × Int × (List Range_commute)) (List Range_commute)) :=
 if decide (x2 < (p_.Hunks.length : Int)) then
(at? p_.Hunks x2).bind fun y1 =>
(ckK .i64 (y1.At + x3)).bind fun z1 =>
(ckK .i64 (z1 + (y1.New.length : Int))).bind fun z2 =>
(textpatch_Growth y1).bind fun y2 =>
(app? 24 x4 ([({ Low := z1, High := z2, Growth := y2 } : Range_commute)] : List Range_commute)).bind fun y3 =>
(textpatch_Growth y1).bind fun y4 =>
(ckK .i64 (x3 + y4)).bind fun z3 =>
(ckK .i64 (x2 + 1)).bind fun z4 =>
 some (Step.next (z4, z3, y3))
 else
 some (Step.done x4)

noncomputable def commute_newRanges (p_ : Patch) : Option (List Range_commute) :=
(iter (fun s => commute_newRanges.l1 p_ s.1 s.2.1 s.2.2) (0, 0, [])).bind fun r1 =>
 commute_newRanges.j1 r1

noncomputable def commute_Touch (a_ : Range_commute) (b_ : Range_commute) : Option Bool :=
(if decide (a_.High ≥ b_.Low) then some (decide (b_.High ≥ a_.Low)) else some false).bind fun x1 =>
 some x1

noncomputable def commute_meet.j1 : Option Bool :=
 some false

noncomputable def commute_meet.j2 (x1 : Int) : Option (Step Int (Bool ⊕ Unit)) :=
(ckK .i64 (x1 + 1)).bind fun z1 =>
 some (Step.next z1)

noncomputable def commute_meet.j3 (x1 : Int) : Option (Step Int (Bool ⊕ Unit)) :=
 commute_meet.j2 x1

noncomputable def commute_meet.l2 (b_ : (List Range_commute)) (y1 : Range_commute) (x3 : Int) : Option (Step Int (Bool ⊕ Unit)) :=
 if decide (x3 < (b_.length : Int)) then
(at? b_ x3).bind fun y2 =>
(commute_Touch y1 y2).bind fun y3 =>
 if y3 then
 some (Step.done (Sum.inl true))
 else
(ckK .i64 (x3 + 1)).bind fun z2 =>
 some (Step.next z2)
 else
 some (Step.done (Sum.inr ()))

noncomputable def commute_meet.l1 (a_ : (List Range_commute)) (b_ : (List Range_commute)) (x1 : Int) : Option (Step Int (Bool ⊕ Unit)) :=
 if decide (x1 < (a_.length : Int)) then
(at? a_ x1).bind fun y1 =>
(iter (fun s => commute_meet.l2 b_ y1 s) 0).bind fun r2 =>
(match r2 with
| .inl p => some (Step.done (Sum.inl p))
| .inr _ => commute_meet.j3 x1)
 else
 some (Step.done (Sum.inr ()))

noncomputable def commute_meet (a_ : (List Range_commute)) (b_ : (List Range_commute)) : Option Bool :=
(iter (fun s => commute_meet.l1 a_ b_ s) 0).bind fun r1 =>
(match r1 with
| .inl p => some p
| .inr _ => commute_meet.j1)

noncomputable def commute_OldRanges.j1 (x1 : List Range_commute) : Option (List Range_commute) :=
 some x1

noncomputable def commute_OldRanges.l1 (p_ : Patch) (x2 : Int) (x3 : List Range_commute) : Option (Step (Int × (List Range_commute)) (List Range_commute)) :=
 if decide (x2 < (p_.Hunks.length : Int)) then
(at? p_.Hunks x2).bind fun y1 =>
(textpatch_End y1).bind fun y2 =>
(textpatch_Growth y1).bind fun y3 =>
(app? 24 x3 ([({ Low := y1.At, High := y2, Growth := y3 } : Range_commute)] : List Range_commute)).bind fun y4 =>
(ckK .i64 (x2 + 1)).bind fun z1 =>
 some (Step.next (z1, y4))
 else
 some (Step.done x3)

noncomputable def commute_OldRanges (p_ : Patch) : Option (List Range_commute) :=
(iter (fun s => commute_OldRanges.l1 p_ s.1 s.2) (0, [])).bind fun r1 =>
 commute_OldRanges.j1 r1

noncomputable def textpatch_Made (p_ : Patch) : Option (Patch × Fault) :=
(textpatch_Validate p_).bind fun y1 =>
 if !(decide (y1.Code = 0) && decide (y1.Index = 0)) then
 some (({ Hunks := [] } : Patch), ({ Code := 10, Index := (-1) } : Fault))
 else
 some (p_, ({ Code := 0, Index := 0 } : Fault))

noncomputable def commute_shift.j1 (x1 : List Hunk) : Option Patch :=
 some ({ Hunks := x1 } : Patch)

noncomputable def commute_shift.j2 (x2 : Int) (x5 : List Hunk) : Option (Step (Int × (List Hunk)) (List Hunk)) :=
(ckK .i64 (x2 + 1)).bind fun z1 =>
 some (Step.next (z1, x5))

noncomputable def commute_shift.j3 (x2 : Int) (x6 : List Hunk) : Option (Step (Int × (List Hunk)) (List Hunk)) :=
 commute_shift.j2 x2 x6

noncomputable def commute_shift.j4 (x7 : Int) (x10 : List Hunk) : Option (Step (Int × (List Hunk)) (List Hunk)) :=
(ckK .i64 (x7 + 1)).bind fun z2 =>
 some (Step.next (z2, x10))

noncomputable def commute_shift.l2 (l_ : (List Range_commute)) (sign : Int) (x2 : Int) (y2 : Hunk) (x7 : Int) (x8 : List Hunk) : Option (Step (Int × (List Hunk)) (List Hunk)) :=
 if decide (x7 < (l_.length : Int)) then
(at? l_ x7).bind fun y3 =>
 if decide (y3.High < y2.At) then
(at? x8 x2).bind fun y4 =>
(ckK .i64 (sign * y3.Growth)).bind fun z3 =>
(ckK .i64 (y4.At + z3)).bind fun z4 =>
(at? x8 x2).bind fun y5 =>
(some (x8.set x2.toNat ({ At := z4, Old := y5.Old, New := y5.New } : Hunk))).bind fun y6 =>
 commute_shift.j4 x7 y6
 else
 commute_shift.j4 x7 x8
 else
 some (Step.done x8)

noncomputable def commute_shift.l1 (p_ : Patch) (l_ : (List Range_commute)) (sign : Int) (x2 : Int) (x3 : List Hunk) : Option (Step (Int × (List Hunk)) (List Hunk)) :=
 if decide (x2 < (p_.Hunks.length : Int)) then
(at? p_.Hunks x2).bind fun y2 =>
(iter (fun s => commute_shift.l2 l_ sign x2 y2 s.1 s.2) (0, x3)).bind fun r2 =>
 commute_shift.j3 x2 r2
 else
 some (Step.done x3)

noncomputable def commute_shift (p_ : Patch) (l_ : (List Range_commute)) (sign : Int) : Option Patch :=
(textpatch_Copy p_).bind fun y1 =>
(iter (fun s => commute_shift.l1 p_ l_ sign s.1 s.2) (0, y1.Hunks)).bind fun r1 =>
 commute_shift.j1 r1

noncomputable def commute_Commute.j1 (y6 : Patch × Fault) (y9 : Patch × Fault) : Option (Patch × Patch × Bool × Fault) :=
 if !(decide (y9.2.Code = 0) && decide (y9.2.Index = 0)) then
 some (({ Hunks := [] } : Patch), ({ Hunks := [] } : Patch), false, y9.2)
 else
 some (y6.1, y9.1, true, ({ Code := 0, Index := 0 } : Fault))

noncomputable def commute_Commute (p_ : Patch) (q_ : Patch) : Option (Patch × Patch × Bool × Fault) :=
(commute_both p_ q_).bind fun y1 =>
 if !(decide (y1.Code = 0) && decide (y1.Index = 0)) then
 some (({ Hunks := [] } : Patch), ({ Hunks := [] } : Patch), false, y1)
 else
(commute_newRanges p_).bind fun y2 =>
(commute_OldRanges q_).bind fun y3 =>
(commute_meet y2 y3).bind fun y4 =>
 if y4 then
 some (({ Hunks := [] } : Patch), ({ Hunks := [] } : Patch), false, ({ Code := 0, Index := 0 } : Fault))
 else
(commute_shift q_ y2 (-1)).bind fun y5 =>
(textpatch_Made y5).bind fun y6 =>
 if !(decide (y6.2.Code = 0) && decide (y6.2.Index = 0)) then
 some (({ Hunks := [] } : Patch), ({ Hunks := [] } : Patch), false, y6.2)
 else
(commute_OldRanges y6.1).bind fun y7 =>
(commute_shift p_ y7 1).bind fun y8 =>
(textpatch_Made y8).bind fun y9 =>
 commute_Commute.j1 y6 y9

noncomputable def treecommute_edit (path : ByteArray) (p_ : Patch) : Option TreeChange :=
 some ({ Kind := 4, Path := path, To := ByteArray.empty, Lines := [], Patch := p_ } : TreeChange)

noncomputable def treecommute_Commute.j1 (a_ : TreeChange) (b_ : TreeChange) : Option (TreeChange × TreeChange × Bool × Fault) :=
(treepatch_CopyChange a_).bind fun y1 =>
(treepatch_CopyChange b_).bind fun y2 =>
(treecommute_independent y1 y2).bind fun y3 =>
 if y3 then
 some (y2, y1, true, ({ Code := 0, Index := 0 } : Fault))
 else
(if decide (y1.Kind = 4) then some (decide (y2.Kind = 4)) else some false).bind fun x1 =>
(if x1 then some (decide (y1.Path = y2.Path)) else some false).bind fun x2 =>
 if x2 then
(commute_Commute y1.Patch y2.Patch).bind fun y4 =>
 if !(decide (y4.2.2.2.Code = 0) && decide (y4.2.2.2.Index = 0)) then
 some (({ Kind := 0, Path := ByteArray.empty, To := ByteArray.empty, Lines := [], Patch := ({ Hunks := [] } : Patch) } : TreeChange), ({ Kind := 0, Path := ByteArray.empty, To := ByteArray.empty, Lines := [], Patch := ({ Hunks := [] } : Patch) } : TreeChange), false, ({ Code := y4.2.2.2.Code, Index := (-1) } : Fault))
 else
 if !y4.2.2.1 then
 some (({ Kind := 0, Path := ByteArray.empty, To := ByteArray.empty, Lines := [], Patch := ({ Hunks := [] } : Patch) } : TreeChange), ({ Kind := 0, Path := ByteArray.empty, To := ByteArray.empty, Lines := [], Patch := ({ Hunks := [] } : Patch) } : TreeChange), false, ({ Code := 0, Index := 0 } : Fault))
 else
(treecommute_edit y2.Path y4.1).bind fun y5 =>
(treecommute_edit y1.Path y4.2.1).bind fun y6 =>
 some (y5, y6, true, ({ Code := 0, Index := 0 } : Fault))
 else
(if decide (y1.Kind = 3) then some (decide (y2.Kind = 4)) else some false).bind fun x3 =>
(if x3 then some (decide (y2.Path = y1.To)) else some false).bind fun x4 =>
 if x4 then
(treecommute_edit y1.Path y2.Patch).bind fun y7 =>
 some (y7, y1, true, ({ Code := 0, Index := 0 } : Fault))
 else
(if decide (y1.Kind = 4) then some (decide (y2.Kind = 3)) else some false).bind fun x5 =>
(if x5 then some (decide (y2.Path = y1.Path)) else some false).bind fun x6 =>
 if x6 then
(treecommute_edit y2.To y1.Patch).bind fun y8 =>
 some (y2, y8, true, ({ Code := 0, Index := 0 } : Fault))
 else
 some (({ Kind := 0, Path := ByteArray.empty, To := ByteArray.empty, Lines := [], Patch := ({ Hunks := [] } : Patch) } : TreeChange), ({ Kind := 0, Path := ByteArray.empty, To := ByteArray.empty, Lines := [], Patch := ({ Hunks := [] } : Patch) } : TreeChange), false, ({ Code := 0, Index := 0 } : Fault))

noncomputable def treecommute_Commute.l1 (a_ : TreeChange) (b_ : TreeChange) (x7 : Int) : Option (Step Int ((TreeChange × TreeChange × Bool × Fault) ⊕ Unit)) :=
 if decide (x7 < (([a_, b_] : List TreeChange).length : Int)) then
(at? ([a_, b_] : List TreeChange) x7).bind fun y9 =>
(treepatch_SecondPatch ({ Changes := ([y9] : List TreeChange) } : TreePatch) x7).bind fun y10 =>
 if !(decide (y10.Code = 0) && decide (y10.Index = 0)) then
 some (Step.done (Sum.inl (({ Kind := 0, Path := ByteArray.empty, To := ByteArray.empty, Lines := [], Patch := ({ Hunks := [] } : Patch) } : TreeChange), ({ Kind := 0, Path := ByteArray.empty, To := ByteArray.empty, Lines := [], Patch := ({ Hunks := [] } : Patch) } : TreeChange), false, y10)))
 else
(ckK .i64 (x7 + 1)).bind fun z1 =>
 some (Step.next z1)
 else
 some (Step.done (Sum.inr ()))

noncomputable def treecommute_Commute (a_ : TreeChange) (b_ : TreeChange) : Option (TreeChange × TreeChange × Bool × Fault) :=
(iter (fun s => treecommute_Commute.l1 a_ b_ s) 0).bind fun r1 =>
(match r1 with
| .inl p => some p
| .inr _ => treecommute_Commute.j1 a_ b_)

noncomputable def changeforgetop_TopRenamesAreFollowed (t_ : FileTree) (path : ByteArray) (to : ByteArray) (p_ : Patch) : Option Bool :=
(treepatch_Apply ({ Changes := ([({ Kind := 3, Path := path, To := to, Lines := [], Patch := ({ Hunks := [] } : Patch) } : TreeChange)] : List TreeChange) } : TreePatch) t_).bind fun y1 =>
 if !decide (y1.2.Code = 0) then
(changeforgetop_h11Works).bind fun y2 =>
 some y2
 else
(rename_Detect t_ y1.1 100).bind fun y3 =>
(if !decide (y3.2.Code = 0) then some true else some (!decide ((y3.1.length : Int) = 1))).bind fun x1 =>
(if x1 then some true else (at? y3.1 0).bind fun y4 =>
 some (!(decide (y4.e0 = path) && decide (y4.e1 = to)))).bind fun x2 =>
 if x2 then
 some false
 else
(treepatch_Apply ({ Changes := ([({ Kind := 3, Path := path, To := to, Lines := [], Patch := ({ Hunks := [] } : Patch) } : TreeChange), ({ Kind := 4, Path := to, To := ByteArray.empty, Lines := [], Patch := p_ } : TreeChange)] : List TreeChange) } : TreePatch) t_).bind fun y5 =>
(treecommute_Commute ({ Kind := 3, Path := path, To := to, Lines := [], Patch := ({ Hunks := [] } : Patch) } : TreeChange) ({ Kind := 4, Path := to, To := ByteArray.empty, Lines := [], Patch := p_ } : TreeChange)).bind fun y6 =>
 if !decide (y5.2.Code = 0) then
(changeforgetop_h11Works).bind fun y7 =>
 some y7
 else
(treepatch_Apply ({ Changes := ([y6.1, y6.2.1] : List TreeChange) } : TreePatch) t_).bind fun y8 =>
(if decide (y6.2.2.2.Code = 0) then some y6.2.2.1 else some false).bind fun x3 =>
(if x3 then some (decide (y8.2.Code = 0)) else some false).bind fun x4 =>
(if x4 then (changeforgeequal_Tree y5.1 y8.1).bind fun y9 =>
 some y9 else some false).bind fun x5 =>
(if x5 then (changeforgetop_h11Works).bind fun y10 =>
 some y10 else some false).bind fun x6 =>
 some x6

noncomputable def digest_mul.j1 (x1 : Int) : Option Int :=
 some x1

noncomputable def digest_mul.j2 (x3 : Int) (x4 : Int) (x6 : Int) : Option (Step (Int × Int × Int) Int) :=
(ckK .i64 (2 * x3)).bind fun z1 =>
(rem? z1 2305843009213693951).bind fun z2 =>
(shr? .i64 x4 1).bind fun z3 =>
 some (Step.next (x6, z2, z3))

noncomputable def digest_mul.l1 (x2 : Int) (x3 : Int) (x4 : Int) : Option (Step (Int × Int × Int) Int) :=
 if decide (x4 > 0) then
 if decide (andI .i64 x4 1 = 1) then
(ckK .i64 (x2 + x3)).bind fun z4 =>
(rem? z4 2305843009213693951).bind fun z5 =>
 digest_mul.j2 x3 x4 z5
 else
 digest_mul.j2 x3 x4 x2
 else
 some (Step.done x2)

noncomputable def digest_mul (a_ : Int) (b_ : Int) : Option Int :=
(iter (fun s => digest_mul.l1 s.1 s.2.1 s.2.2) (0, a_, b_)).bind fun r1 =>
 digest_mul.j1 r1

noncomputable def digest_next (s_ : Step_digest) (factor : Int) : Option Int :=
(digest_mul s_.e0 factor).bind fun y1 =>
(ckK .i64 (y1 + s_.e1)).bind fun z1 =>
(rem? z1 2305843009213693951).bind fun z2 =>
 some z2

noncomputable def digest_Of.j1 (x1 : Int) : Option (Int × Fault) :=
 some (x1, ({ Code := 0, Index := 0 } : Fault))

noncomputable def digest_Of.l1 (data : (List UInt8)) (x2 : Int) (x3 : Int) : Option (Step (Int × Int) Int) :=
 if decide (x2 < (data.length : Int)) then
(at? data x2).bind fun y1 =>
(ckK .i64 (y1.toNat : Int)).bind fun z1 =>
(ckK .i64 (z1 + 1)).bind fun z2 =>
(digest_next ({ e0 := x3, e1 := z2 } : Step_digest) 257).bind fun y2 =>
(ckK .i64 (x2 + 1)).bind fun z3 =>
 some (Step.next (z3, y2))
 else
 some (Step.done x3)

noncomputable def digest_Of (data : (List UInt8)) : Option (Int × Fault) :=
 if decide ((data.length : Int) > 4096) then
 some (0, ({ Code := 2, Index := 0 } : Fault))
 else
(iter (fun s => digest_Of.l1 data s.1 s.2) (0, 1)).bind fun r1 =>
 digest_Of.j1 r1

noncomputable def digest_is (a_ : Int) : Option Bool :=
(if decide (a_ ≥ 0) then some (decide (a_ < 2305843009213693951)) else some false).bind fun x1 =>
 some x1

noncomputable def digest_pair (a_ : Int) (b_ : Int) : Option Int :=
(digest_next ({ e0 := b_, e1 := 7 } : Step_digest) 31).bind fun y1 =>
(digest_next ({ e0 := a_, e1 := y1 } : Step_digest) 1000003).bind fun y2 =>
 some y2

noncomputable def digest_Pair.j1 (a_ : Int) (b_ : Int) : Option (Int × Fault) :=
(digest_pair a_ b_).bind fun y1 =>
 some (y1, ({ Code := 0, Index := 0 } : Fault))

noncomputable def digest_Pair.l1 (a_ : Int) (b_ : Int) (x1 : Int) : Option (Step Int ((Int × Fault) ⊕ Unit)) :=
 if decide (x1 < 2) then
(at? ([a_, b_] : List Int) x1).bind fun y2 =>
(digest_is y2).bind fun y3 =>
 if !y3 then
 some (Step.done (Sum.inl (0, ({ Code := 3, Index := x1 } : Fault))))
 else
(ckK .i64 (x1 + 1)).bind fun z1 =>
 some (Step.next z1)
 else
 some (Step.done (Sum.inr ()))

noncomputable def digest_Pair (a_ : Int) (b_ : Int) : Option (Int × Fault) :=
(iter (fun s => digest_Pair.l1 a_ b_ s) 0).bind fun r1 =>
(match r1 with
| .inl p => some p
| .inr _ => digest_Pair.j1 a_ b_)

noncomputable def rename_Sketch.j1 (x1 : List Int) : Option ((List Int) × Fault) :=
(arrl? 8 x1).bind fun y2 =>
 some (y2, ({ Code := 0, Index := 0 } : Fault))

noncomputable def rename_Sketch.j2 (x2 : Int) (x5 : List Int) : Option (Step (Int × (List Int)) (List Int)) :=
(ckK .i64 (x2 + 1)).bind fun z1 =>
 some (Step.next (z1, x5))

noncomputable def rename_Sketch.j3 (x2 : Int) (x6 : List Int) : Option (Step (Int × (List Int)) (List Int)) :=
 rename_Sketch.j2 x2 x6

noncomputable def rename_Sketch.j4 (x7 : Int) (x10 : List Int) : Option (Step (Int × (List Int)) (List Int)) :=
(ckK .i64 (x7 + 1)).bind fun z2 =>
 some (Step.next (z2, x10))

noncomputable def rename_Sketch.l2 (x2 : Int) (y4 : Int × Fault) (x7 : Int) (x8 : List Int) : Option (Step (Int × (List Int)) (List Int)) :=
 if decide (x7 < 8) then
(ckK .i64 (x7 + 1)).bind fun z3 =>
(digest_Pair z3 y4.1).bind fun y5 =>
(if decide (x2 = 0) then some true else (arr? 8 x8 x7).bind fun y6 =>
 some (decide (y5.1 < y6))).bind fun x11 =>
 if x11 then
(arr? 8 x8 x7).bind fun y7 =>
(some (x8.set x7.toNat y5.1)).bind fun y8 =>
 rename_Sketch.j4 x7 y8
 else
 rename_Sketch.j4 x7 x8
 else
 some (Step.done x8)

noncomputable def rename_Sketch.l1 (text : (List ByteArray)) (x2 : Int) (x3 : List Int) : Option (Step (Int × (List Int)) (List Int)) :=
 if decide (x2 < (text.length : Int)) then
(at? text x2).bind fun y3 =>
(digest_Of y3.data.toList).bind fun y4 =>
(iter (fun s => rename_Sketch.l2 x2 y4 s.1 s.2) (0, x3)).bind fun r2 =>
 rename_Sketch.j3 x2 r2
 else
 some (Step.done x3)

noncomputable def rename_Sketch (text : (List ByteArray)) : Option ((List Int) × Fault) :=
(lines_Validate text).bind fun y1 =>
 if !(decide (y1.Code = 0) && decide (y1.Index = 0)) then
 some ([], y1)
 else
 if decide ((text.length : Int) = 0) then
 some ([], ({ Code := 0, Index := 0 } : Fault))
 else
(iter (fun s => rename_Sketch.l1 text s.1 s.2) (0, ([0, 0, 0, 0, 0, 0, 0, 0] : List Int))).bind fun r1 =>
 rename_Sketch.j1 r1

noncomputable def changeforgeref1_suffixes.j1 (x1 : List (List Int)) : Option (List (List Int)) :=
 some x1

noncomputable def changeforgeref1_suffixes.j2 (x2 : Int) (x5 : List (List Int)) : Option (Step (Int × (List (List Int))) (List (List Int))) :=
(ckK .i64 (x2 - 1)).bind fun z2 =>
 some (Step.next (z2, x5))

noncomputable def changeforgeref1_suffixes.j3 (x2 : Int) (x6 : List (List Int)) : Option (Step (Int × (List (List Int))) (List (List Int))) :=
 changeforgeref1_suffixes.j2 x2 x6

noncomputable def changeforgeref1_suffixes.j5 (x2 : Int) (x7 : Int) (x12 : Int) (x13 : List (List Int)) : Option (Step (Int × (List (List Int))) (List (List Int))) :=
(at? x13 x2).bind fun y8 =>
(at? y8 x7).bind fun y9 =>
(some (y8.set x7.toNat x12)).bind fun y10 =>
(ckK .i64 (x7 - 1)).bind fun z6 =>
(some (x13.set x2.toNat y10)).bind fun y11 =>
 some (Step.next (z6, y11))

noncomputable def changeforgeref1_suffixes.j4 (a_ : (List ByteArray)) (b_ : (List ByteArray)) (x2 : Int) (x7 : Int) (x10 : Int) (x11 : List (List Int)) : Option (Step (Int × (List (List Int))) (List (List Int))) :=
(at? a_ x7).bind fun y12 =>
(at? b_ x2).bind fun y13 =>
(if decide (y12 = y13) then (ckK .i64 (x2 + 1)).bind fun z7 =>
(at? x11 z7).bind fun y14 =>
(ckK .i64 (x7 + 1)).bind fun z8 =>
(at? y14 z8).bind fun y15 =>
(ckK .i64 (y15 + 1)).bind fun z9 =>
 some (decide (z9 > x10)) else some false).bind fun x14 =>
 if x14 then
(ckK .i64 (x2 + 1)).bind fun z10 =>
(at? x11 z10).bind fun y16 =>
(ckK .i64 (x7 + 1)).bind fun z11 =>
(at? y16 z11).bind fun y17 =>
(ckK .i64 (y17 + 1)).bind fun z12 =>
 changeforgeref1_suffixes.j5 x2 x7 z12 x11
 else
 changeforgeref1_suffixes.j5 x2 x7 x10 x11

noncomputable def changeforgeref1_suffixes.l2 (a_ : (List ByteArray)) (b_ : (List ByteArray)) (x2 : Int) (x7 : Int) (x8 : List (List Int)) : Option (Step (Int × (List (List Int))) (List (List Int))) :=
 if decide (x7 ≥ 0) then
(ckK .i64 (x2 + 1)).bind fun z5 =>
(at? x8 z5).bind fun y6 =>
(at? y6 x7).bind fun y7 =>
(at? x8 x2).bind fun y18 =>
(ckK .i64 (x7 + 1)).bind fun z13 =>
(at? y18 z13).bind fun y19 =>
 if decide (y19 > y7) then
(ckK .i64 (x7 + 1)).bind fun z14 =>
(at? y18 z14).bind fun y20 =>
 changeforgeref1_suffixes.j4 a_ b_ x2 x7 y20 x8
 else
 changeforgeref1_suffixes.j4 a_ b_ x2 x7 y7 x8
 else
 some (Step.done x8)

noncomputable def changeforgeref1_suffixes.l1 (a_ : (List ByteArray)) (b_ : (List ByteArray)) (x2 : Int) (x3 : List (List Int)) : Option (Step (Int × (List (List Int))) (List (List Int))) :=
 if decide (x2 ≥ 0) then
(ckK .i64 ((a_.length : Int) + 1)).bind fun z3 =>
(mk? 8 z3 (0 : Int)).bind fun y2 =>
(at? x3 x2).bind fun y3 =>
 if decide (x2 = (b_.length : Int)) then
(some (x3.set x2.toNat y2)).bind fun y4 =>
 changeforgeref1_suffixes.j2 x2 y4
 else
(ckK .i64 ((a_.length : Int) - 1)).bind fun z4 =>
(some (x3.set x2.toNat y2)).bind fun y5 =>
(iter (fun s => changeforgeref1_suffixes.l2 a_ b_ x2 s.1 s.2) (z4, y5)).bind fun r2 =>
 changeforgeref1_suffixes.j3 x2 r2
 else
 some (Step.done x3)

noncomputable def changeforgeref1_suffixes (a_ : (List ByteArray)) (b_ : (List ByteArray)) : Option (List (List Int)) :=
(ckK .i64 ((b_.length : Int) + 1)).bind fun z1 =>
(mk? 24 z1 ([] : List Int)).bind fun y1 =>
(iter (fun s => changeforgeref1_suffixes.l1 a_ b_ s.1 s.2) ((b_.length : Int), y1)).bind fun r1 =>
 changeforgeref1_suffixes.j1 r1

noncomputable def changeforgeref1_Align.j1 (x1 : List Step_changeforgeref1) : Option (List Step_changeforgeref1) :=
 some x1

noncomputable def changeforgeref1_Align.l1 (a_ : (List ByteArray)) (b_ : (List ByteArray)) (y1 : (List (List Int))) (x2 : Int) (x3 : Int) (x4 : List Step_changeforgeref1) : Option (Step (Int × Int × (List Step_changeforgeref1)) (List Step_changeforgeref1)) :=
(if decide (x3 < (a_.length : Int)) then some true else some (decide (x2 < (b_.length : Int)))).bind fun x6 =>
 if x6 then
(if decide (x3 < (a_.length : Int)) then some (decide (x2 < (b_.length : Int))) else some false).bind fun x7 =>
(if x7 then (at? a_ x3).bind fun y2 =>
(at? b_ x2).bind fun y3 =>
 some (decide (y2 = y3)) else some false).bind fun x8 =>
 if x8 then
(at? a_ x3).bind fun y4 =>
(app? 24 x4 ([({ Kind := 0, Text := y4 } : Step_changeforgeref1)] : List Step_changeforgeref1)).bind fun y5 =>
(ckK .i64 (x3 + 1)).bind fun z1 =>
(ckK .i64 (x2 + 1)).bind fun z2 =>
 some (Step.next (z2, z1, y5))
 else
(if decide (x2 = (b_.length : Int)) then some true else (if decide (x3 < (a_.length : Int)) then (at? y1 x2).bind fun y6 =>
(ckK .i64 (x3 + 1)).bind fun z3 =>
(at? y6 z3).bind fun y7 =>
(ckK .i64 (x2 + 1)).bind fun z4 =>
(at? y1 z4).bind fun y8 =>
(at? y8 x3).bind fun y9 =>
 some (decide (y7 ≥ y9)) else some false).bind fun x10 =>
 some x10).bind fun x9 =>
 if x9 then
(at? a_ x3).bind fun y10 =>
(app? 24 x4 ([({ Kind := 1, Text := y10 } : Step_changeforgeref1)] : List Step_changeforgeref1)).bind fun y11 =>
(ckK .i64 (x3 + 1)).bind fun z5 =>
 some (Step.next (x2, z5, y11))
 else
(at? b_ x2).bind fun y12 =>
(app? 24 x4 ([({ Kind := 2, Text := y12 } : Step_changeforgeref1)] : List Step_changeforgeref1)).bind fun y13 =>
(ckK .i64 (x2 + 1)).bind fun z6 =>
 some (Step.next (z6, x3, y13))
 else
 some (Step.done x4)

noncomputable def changeforgeref1_Align (a_ : (List ByteArray)) (b_ : (List ByteArray)) : Option (List Step_changeforgeref1) :=
(changeforgeref1_suffixes a_ b_).bind fun y1 =>
(iter (fun s => changeforgeref1_Align.l1 a_ b_ y1 s.1 s.2.1 s.2.2) (0, 0, [])).bind fun r1 =>
 changeforgeref1_Align.j1 r1

noncomputable def changeforgeref1_Kept.j1 (x1 : List ByteArray) : Option (List ByteArray) :=
 some x1

noncomputable def changeforgeref1_Kept.j2 (x2 : Int) (x5 : List ByteArray) : Option (Step (Int × (List ByteArray)) (List ByteArray)) :=
(ckK .i64 (x2 + 1)).bind fun z1 =>
 some (Step.next (z1, x5))

noncomputable def changeforgeref1_Kept.l1 (y1 : (List Step_changeforgeref1)) (x2 : Int) (x3 : List ByteArray) : Option (Step (Int × (List ByteArray)) (List ByteArray)) :=
 if decide (x2 < (y1.length : Int)) then
(at? y1 x2).bind fun y2 =>
 if decide (y2.Kind = 0) then
(at? y1 x2).bind fun y3 =>
(app? 16 x3 ([y3.Text] : List ByteArray)).bind fun y4 =>
 changeforgeref1_Kept.j2 x2 y4
 else
 changeforgeref1_Kept.j2 x2 x3
 else
 some (Step.done x3)

noncomputable def changeforgeref1_Kept (a_ : (List ByteArray)) (b_ : (List ByteArray)) : Option (List ByteArray) :=
(changeforgeref1_Align a_ b_).bind fun y1 =>
(iter (fun s => changeforgeref1_Kept.l1 y1 s.1 s.2) (0, [])).bind fun r1 =>
 changeforgeref1_Kept.j1 r1

noncomputable def changeforgeref2_Percent (a_ : (List ByteArray)) (b_ : (List ByteArray)) : Option Int :=
(ckK .i64 ((a_.length : Int) + (b_.length : Int))).bind fun z1 =>
 if decide (z1 = 0) then
 some 100
 else
(changeforgeref1_Kept a_ b_).bind fun y1 =>
(ckK .i64 (200 * (y1.length : Int))).bind fun z2 =>
(ckK .i64 ((a_.length : Int) + (b_.length : Int))).bind fun z3 =>
(quo? .i64 z2 z3).bind fun z4 =>
 some z4

noncomputable def changeforgeref1_At (code : Int) (index : Int) : Option Fault :=
 some ({ Code := code, Index := index } : Fault)

noncomputable def changeforgeref1_LinesFault.j1 : Option Fault :=
 some ({ Code := 0, Index := 0 } : Fault)

noncomputable def changeforgeref1_LinesFault.j2 (x1 : Int) : Option (Step Int (Fault ⊕ Unit)) :=
(ckK .i64 (x1 + 1)).bind fun z1 =>
 some (Step.next z1)

noncomputable def changeforgeref1_LinesFault.j3 (x1 : Int) : Option (Step Int (Fault ⊕ Unit)) :=
 changeforgeref1_LinesFault.j2 x1

noncomputable def changeforgeref1_LinesFault.l2 (l_ : (List ByteArray)) (x1 : Int) (x3 : Int) : Option (Step Int (Fault ⊕ Unit)) :=
(at? l_ x1).bind fun y4 =>
 if decide (x3 < (y4.size : Int)) then
(at? l_ x1).bind fun y5 =>
(sAt? y5 x3).bind fun y6 =>
 if decide (y6 = 10) then
(changeforgeref1_At 5 x1).bind fun y7 =>
 some (Step.done (Sum.inl y7))
 else
(ckK .i64 (x3 + 1)).bind fun z2 =>
 some (Step.next z2)
 else
 some (Step.done (Sum.inr ()))

noncomputable def changeforgeref1_LinesFault.l1 (l_ : (List ByteArray)) (x1 : Int) : Option (Step Int (Fault ⊕ Unit)) :=
 if decide (x1 < (l_.length : Int)) then
(at? l_ x1).bind fun y2 =>
 if decide ((y2.size : Int) > 80) then
(changeforgeref1_At 2 x1).bind fun y3 =>
 some (Step.done (Sum.inl y3))
 else
(iter (fun s => changeforgeref1_LinesFault.l2 l_ x1 s) 0).bind fun r2 =>
(match r2 with
| .inl p => some (Step.done (Sum.inl p))
| .inr _ => changeforgeref1_LinesFault.j3 x1)
 else
 some (Step.done (Sum.inr ()))

noncomputable def changeforgeref1_LinesFault (l_ : (List ByteArray)) : Option Fault :=
 if decide ((l_.length : Int) > 120) then
(changeforgeref1_At 2 (-1)).bind fun y1 =>
 some y1
 else
(iter (fun s => changeforgeref1_LinesFault.l1 l_ s) 0).bind fun r1 =>
(match r1 with
| .inl p => some p
| .inr _ => changeforgeref1_LinesFault.j1)

noncomputable def changeforgeref1_LinesCode (l_ : (List ByteArray)) : Option Int :=
(changeforgeref1_LinesFault l_).bind fun y1 =>
 some y1.Code

noncomputable def changeforgeref2_pathByte (c_ : Int) : Option Bool :=
(if decide (c_ ≥ 97) then some (decide (c_ ≤ 122)) else some false).bind fun x1 =>
(if x1 then some true else (if decide (c_ ≥ 65) then some (decide (c_ ≤ 90)) else some false).bind fun x3 =>
 some x3).bind fun x2 =>
(if x2 then some true else (if decide (c_ ≥ 48) then some (decide (c_ ≤ 57)) else some false).bind fun x5 =>
 some x5).bind fun x4 =>
(if x4 then some true else some (decide (c_ = 46))).bind fun x6 =>
(if x6 then some true else some (decide (c_ = 95))).bind fun x7 =>
(if x7 then some true else some (decide (c_ = 45))).bind fun x8 =>
 some x8

noncomputable def changeforgeref2_PathValid.j1 : Option Bool :=
 some true

noncomputable def changeforgeref2_PathValid.j2 (x1 : Int) (x4 : Int) : Option (Step (Int × Int) (Bool ⊕ Unit)) :=
(ckK .i64 (x1 - 1)).bind fun z2 =>
 some (Step.next (z2, x4))

noncomputable def changeforgeref2_PathValid.l1 (s_ : ByteArray) (x1 : Int) (x2 : Int) : Option (Step (Int × Int) (Bool ⊕ Unit)) :=
 if decide (x1 ≥ (-1)) then
(if decide (x1 ≥ 0) then (sAt? s_ x1).bind fun y1 =>
 some (!decide (y1 = 47)) else some false).bind fun x5 =>
 if x5 then
(sAt? s_ x1).bind fun y2 =>
(changeforgeref2_pathByte y2).bind fun y3 =>
 if !y3 then
 some (Step.done (Sum.inl false))
 else
 changeforgeref2_PathValid.j2 x1 x2
 else
(ckK .i64 (x1 + 1)).bind fun z3 =>
(scut? s_ z3 x2).bind fun y4 =>
(if decide (y4 = (⟨#[]⟩ : ByteArray)) then some true else some (decide (y4 = (⟨#[46]⟩ : ByteArray)))).bind fun x6 =>
(if x6 then some true else some (decide (y4 = (⟨#[46, 46]⟩ : ByteArray)))).bind fun x7 =>
 if x7 then
 some (Step.done (Sum.inl false))
 else
 changeforgeref2_PathValid.j2 x1 x1
 else
 some (Step.done (Sum.inr ()))

noncomputable def changeforgeref2_PathValid (s_ : ByteArray) : Option Bool :=
 if decide ((s_.size : Int) > 60) then
 some false
 else
(ckK .i64 ((s_.size : Int) - 1)).bind fun z1 =>
(iter (fun s => changeforgeref2_PathValid.l1 s_ s.1 s.2) (z1, (s_.size : Int))).bind fun r1 =>
(match r1 with
| .inl p => some p
| .inr _ => changeforgeref2_PathValid.j1)

noncomputable def changeforgeref2_Related.body (rec_ : ByteArray → ByteArray → Option Bool) (a_ : ByteArray) (b_ : ByteArray) : Option Bool :=
 if decide ((a_.size : Int) > (b_.size : Int)) then
(rec_ b_ a_).bind fun y1 =>
 some y1
 else
(scut? b_ 0 (a_.size : Int)).bind fun y2 =>
(if decide (y2 = a_) then (if decide ((a_.size : Int) = (b_.size : Int)) then some true else (sAt? b_ (a_.size : Int)).bind fun y3 =>
 some (decide (y3 = 47))).bind fun x2 =>
 some x2 else some false).bind fun x1 =>
 some x1

noncomputable def changeforgeref2_Related.m : Nat → ByteArray → ByteArray → Option Bool
| 0 => fun _ _ => Option.none
| k + 1 => changeforgeref2_Related.body (changeforgeref2_Related.m k)

noncomputable def changeforgeref2_Related (a_ : ByteArray) (b_ : ByteArray) : Option Bool := changeforgeref2_Related.m (2) a_ b_

noncomputable def changeforgeref2_TreeFault.j1 : Option Fault :=
 some ({ Code := 0, Index := 0 } : Fault)

noncomputable def changeforgeref2_TreeFault.j2 (x1 : Int) : Option (Step Int (Fault ⊕ Unit)) :=
(ckK .i64 (x1 + 1)).bind fun z1 =>
 some (Step.next z1)

noncomputable def changeforgeref2_TreeFault.j3 (x1 : Int) (y2 : File) : Option (Step Int (Fault ⊕ Unit)) :=
(changeforgeref1_LinesCode y2.Lines).bind fun y7 =>
 if !decide (y7 = 0) then
(changeforgeref1_At y7 x1).bind fun y8 =>
 some (Step.done (Sum.inl y8))
 else
 changeforgeref2_TreeFault.j2 x1

noncomputable def changeforgeref2_TreeFault.l2 (t_ : FileTree) (x1 : Int) (y2 : File) (x4 : Int) : Option (Step Int (Fault ⊕ Unit)) :=
 if decide (x4 < x1) then
(at? t_.Files x4).bind fun y9 =>
(changeforgeref2_Related y9.Path y2.Path).bind fun y10 =>
 if y10 then
(changeforgeref1_At 7 x1).bind fun y11 =>
 some (Step.done (Sum.inl y11))
 else
(ckK .i64 (x4 + 1)).bind fun z3 =>
 some (Step.next z3)
 else
 some (Step.done (Sum.inr ()))

noncomputable def changeforgeref2_TreeFault.l1 (t_ : FileTree) (x1 : Int) : Option (Step Int (Fault ⊕ Unit)) :=
 if decide (x1 < (t_.Files.length : Int)) then
(at? t_.Files x1).bind fun y2 =>
(changeforgeref2_PathValid y2.Path).bind fun y3 =>
 if !y3 then
(changeforgeref1_At 12 x1).bind fun y4 =>
 some (Step.done (Sum.inl y4))
 else
(if decide (x1 > 0) then (ckK .i64 (x1 - 1)).bind fun z2 =>
(at? t_.Files z2).bind fun y5 =>
 some (sLt y2.Path y5.Path || decide (y2.Path = y5.Path)) else some false).bind fun x3 =>
 if x3 then
(changeforgeref1_At 5 x1).bind fun y6 =>
 some (Step.done (Sum.inl y6))
 else
(iter (fun s => changeforgeref2_TreeFault.l2 t_ x1 y2 s) 0).bind fun r2 =>
(match r2 with
| .inl p => some (Step.done (Sum.inl p))
| .inr _ => changeforgeref2_TreeFault.j3 x1 y2)
 else
 some (Step.done (Sum.inr ()))

noncomputable def changeforgeref2_TreeFault (t_ : FileTree) : Option Fault :=
 if decide ((t_.Files.length : Int) > 24) then
(changeforgeref1_At 2 (-1)).bind fun y1 =>
 some y1
 else
(iter (fun s => changeforgeref2_TreeFault.l1 t_ s) 0).bind fun r1 =>
(match r1 with
| .inl p => some p
| .inr _ => changeforgeref2_TreeFault.j1)

noncomputable def changeforgeref2_TwoTrees.j1 (x1 : Int) (x2 : Int) : Option Fault :=
 some ({ Code := x1, Index := x2 } : Fault)

noncomputable def changeforgeref2_TwoTrees (a_ : FileTree) (b_ : FileTree) : Option Fault :=
(changeforgeref2_TreeFault a_).bind fun y1 =>
(if decide (y1.Code = 0) then (changeforgeref2_TreeFault b_).bind fun y2 =>
 some (!decide (y2.Code = 0)) else some false).bind fun x3 =>
 if x3 then
(changeforgeref2_TreeFault b_).bind fun y3 =>
(changeforgeref1_At y3.Code (-2)).bind fun y4 =>
 changeforgeref2_TwoTrees.j1 y4.Code y4.Index
 else
 changeforgeref2_TwoTrees.j1 y1.Code y1.Index

noncomputable def changeforgeref2_FileAt.j1 : Option Int :=
 some (-1)

noncomputable def changeforgeref2_FileAt.l1 (t_ : FileTree) (path : ByteArray) (x1 : Int) : Option (Step Int (Int ⊕ Unit)) :=
 if decide (x1 < (t_.Files.length : Int)) then
(at? t_.Files x1).bind fun y1 =>
 if decide (y1.Path = path) then
 some (Step.done (Sum.inl x1))
 else
(ckK .i64 (x1 + 1)).bind fun z1 =>
 some (Step.next z1)
 else
 some (Step.done (Sum.inr ()))

noncomputable def changeforgeref2_FileAt (t_ : FileTree) (path : ByteArray) : Option Int :=
(iter (fun s => changeforgeref2_FileAt.l1 t_ path s) 0).bind fun r1 =>
(match r1 with
| .inl p => some p
| .inr _ => changeforgeref2_FileAt.j1)

noncomputable def changeforgeref2_Renames.j3 (x4 : List Arr2_ByteArray) : Option ((List Arr2_ByteArray) × Fault) :=
 some (x4, ({ Code := 0, Index := 0 } : Fault))

noncomputable def changeforgeref2_Renames.j4 (x5 : Int) (x8 : List Arr2_ByteArray) : Option (Step (Int × (List Arr2_ByteArray)) (List Arr2_ByteArray)) :=
(ckK .i64 (x5 + 1)).bind fun z1 =>
 some (Step.next (z1, x8))

noncomputable def changeforgeref2_Renames.l1 (old_ : FileTree) (new_ : FileTree) (x3 : List Int) (x5 : Int) (x6 : List Arr2_ByteArray) : Option (Step (Int × (List Arr2_ByteArray)) (List Arr2_ByteArray)) :=
 if decide (x5 < (x3.length : Int)) then
(at? x3 x5).bind fun y5 =>
 if decide (y5 ≥ 0) then
(at? old_.Files x5).bind fun y6 =>
(at? x3 x5).bind fun y7 =>
(at? new_.Files y7).bind fun y8 =>
(app? 32 x6 ([({ e0 := y6.Path, e1 := y8.Path } : Arr2_ByteArray)] : List Arr2_ByteArray)).bind fun y9 =>
 changeforgeref2_Renames.j4 x5 y9
 else
 changeforgeref2_Renames.j4 x5 x6
 else
 some (Step.done x6)

noncomputable def changeforgeref2_Renames.j2 (old_ : FileTree) (new_ : FileTree) (x3 : List Int) : Option ((List Arr2_ByteArray) × Fault) :=
(iter (fun s => changeforgeref2_Renames.l1 old_ new_ x3 s.1 s.2) (0, [])).bind fun r1 =>
 changeforgeref2_Renames.j3 r1

noncomputable def changeforgeref2_Renames.j5 (x13 : Bool) (x14 : List Bool) (x15 : List Int) : Option (Step (Bool × (List Bool) × (List Int)) (List Int)) :=
 some (Step.next (x13, x14, x15))

noncomputable def changeforgeref2_Renames.j6 (x10 : List Bool) (x11 : List Int) (x16 : Int) (x17 : Int) (x18 : Bool) : Option (Step (Bool × (List Bool) × (List Int)) (List Int)) :=
 if x18 then
(at? x11 x17).bind fun y10 =>
(some (x11.set x17.toNat x16)).bind fun y11 =>
(at? x10 x16).bind fun y12 =>
(some (x10.set x16.toNat true)).bind fun y13 =>
 changeforgeref2_Renames.j5 x18 y13 y11
 else
 changeforgeref2_Renames.j5 x18 x10 x11

noncomputable def changeforgeref2_Renames.j7 (x19 : Int) (x25 : Int) (x26 : Int) (x27 : Int) (x28 : Bool) : Option (Step (Int × Int × Int × Int × Bool) (Int × Int × Bool)) :=
(ckK .i64 (x19 + 1)).bind fun z3 =>
 some (Step.next (z3, x25, x26, x27, x28))

noncomputable def changeforgeref2_Renames.j8 (x19 : Int) (x29 : Int) (x30 : Int) (x31 : Int) (x32 : Bool) : Option (Step (Int × Int × Int × Int × Bool) (Int × Int × Bool)) :=
 changeforgeref2_Renames.j7 x19 x29 x30 x31 x32

noncomputable def changeforgeref2_Renames.j9 (x33 : Int) (x39 : Int) (x40 : Int) (x41 : Int) (x42 : Bool) : Option (Step (Int × Int × Int × Int × Bool) (Int × Int × Int × Bool)) :=
(ckK .i64 (x33 + 1)).bind fun z4 =>
 some (Step.next (z4, x39, x40, x41, x42))

noncomputable def changeforgeref2_Renames.l4 (old_ : FileTree) (new_ : FileTree) (x10 : List Bool) (x11 : List Int) (x19 : Int) (x33 : Int) (x34 : Int) (x35 : Int) (x36 : Int) (x37 : Bool) : Option (Step (Int × Int × Int × Int × Bool) (Int × Int × Int × Bool)) :=
 if decide (x33 < (new_.Files.length : Int)) then
(at? x11 x19).bind fun y14 =>
(if decide (y14 ≥ 0) then some true else (at? x10 x33).bind fun y15 =>
 some y15).bind fun x43 =>
(if x43 then some true else (at? old_.Files x19).bind fun y16 =>
(changeforgeref2_FileAt new_ y16.Path).bind fun y17 =>
 some (decide (y17 ≥ 0))).bind fun x44 =>
(if x44 then some true else (at? new_.Files x33).bind fun y18 =>
(changeforgeref2_FileAt old_ y18.Path).bind fun y19 =>
 some (decide (y19 ≥ 0))).bind fun x45 =>
 if x45 then
 changeforgeref2_Renames.j9 x33 x34 x35 x36 x37
 else
(at? old_.Files x19).bind fun y20 =>
(at? new_.Files x33).bind fun y21 =>
(changeforgeref2_Percent y20.Lines y21.Lines).bind fun y22 =>
 if decide (y22 > x34) then
 changeforgeref2_Renames.j9 x33 y22 x33 x19 true
 else
 changeforgeref2_Renames.j9 x33 x34 x35 x36 x37
 else
 some (Step.done (x34, x35, x36, x37))

noncomputable def changeforgeref2_Renames.l3 (old_ : FileTree) (new_ : FileTree) (x10 : List Bool) (x11 : List Int) (x19 : Int) (x20 : Int) (x21 : Int) (x22 : Int) (x23 : Bool) : Option (Step (Int × Int × Int × Int × Bool) (Int × Int × Bool)) :=
 if decide (x19 < (old_.Files.length : Int)) then
(iter (fun s => changeforgeref2_Renames.l4 old_ new_ x10 x11 x19 s.1 s.2.1 s.2.2.1 s.2.2.2.1 s.2.2.2.2) (0, x20, x21, x22, x23)).bind fun r4 =>
 changeforgeref2_Renames.j8 x19 r4.1 r4.2.1 r4.2.2.1 r4.2.2.2
 else
 some (Step.done (x21, x22, x23))

noncomputable def changeforgeref2_Renames.l2 (old_ : FileTree) (new_ : FileTree) (percent : Int) (x9 : Bool) (x10 : List Bool) (x11 : List Int) : Option (Step (Bool × (List Bool) × (List Int)) (List Int)) :=
 if x9 then
(ckK .i64 (percent - 1)).bind fun z2 =>
(iter (fun s => changeforgeref2_Renames.l3 old_ new_ x10 x11 s.1 s.2.1 s.2.2.1 s.2.2.2.1 s.2.2.2.2) (0, z2, 0, 0, false)).bind fun r3 =>
 changeforgeref2_Renames.j6 x10 x11 r3.1 r3.2.1 r3.2.2
 else
 some (Step.done x11)

noncomputable def changeforgeref2_Renames.j1 (old_ : FileTree) (new_ : FileTree) (percent : Int) (y4 : List Bool) (x2 : List Int) : Option ((List Arr2_ByteArray) × Fault) :=
(iter (fun s => changeforgeref2_Renames.l2 old_ new_ percent s.1 s.2.1 s.2.2) (true, y4, x2)).bind fun r2 =>
 changeforgeref2_Renames.j2 old_ new_ r2

noncomputable def changeforgeref2_Renames.l5 (x46 : Int) (x47 : List Int) : Option (Step (Int × (List Int)) (List Int)) :=
 if decide (x46 < (x47.length : Int)) then
(at? x47 x46).bind fun y23 =>
(some (x47.set x46.toNat (-1))).bind fun y24 =>
(ckK .i64 (x46 + 1)).bind fun z5 =>
 some (Step.next (z5, y24))
 else
 some (Step.done x47)

noncomputable def changeforgeref2_Renames (old_ : FileTree) (new_ : FileTree) (percent : Int) : Option ((List Arr2_ByteArray) × Fault) :=
(changeforgeref2_TwoTrees old_ new_).bind fun y1 =>
 if !decide (y1.Code = 0) then
 some ([], y1)
 else
(if decide (percent < 0) then some true else some (decide (percent > 100))).bind fun x1 =>
 if x1 then
(changeforgeref1_At 3 (-3)).bind fun y2 =>
 some ([], y2)
 else
(mk? 8 (old_.Files.length : Int) (0 : Int)).bind fun y3 =>
(mk? 1 (new_.Files.length : Int) false).bind fun y4 =>
(iter (fun s => changeforgeref2_Renames.l5 s.1 s.2) (0, y3)).bind fun r5 =>
 changeforgeref2_Renames.j1 old_ new_ percent y4 r5

noncomputable def changeforgeequal_StringPairs.j1 : Option Bool :=
 some true

noncomputable def changeforgeequal_StringPairs.l1 (a_ : (List Arr2_ByteArray)) (b_ : (List Arr2_ByteArray)) (x1 : Int) : Option (Step Int (Bool ⊕ Unit)) :=
 if decide (x1 < (a_.length : Int)) then
(at? a_ x1).bind fun y1 =>
(at? b_ x1).bind fun y2 =>
 if !(decide (y1.e0 = y2.e0) && decide (y1.e1 = y2.e1)) then
 some (Step.done (Sum.inl false))
 else
(ckK .i64 (x1 + 1)).bind fun z1 =>
 some (Step.next z1)
 else
 some (Step.done (Sum.inr ()))

noncomputable def changeforgeequal_StringPairs (a_ : (List Arr2_ByteArray)) (b_ : (List Arr2_ByteArray)) : Option Bool :=
 if !decide ((a_.length : Int) = (b_.length : Int)) then
 some false
 else
(iter (fun s => changeforgeequal_StringPairs.l1 a_ b_ s) 0).bind fun r1 =>
(match r1 with
| .inl p => some p
| .inr _ => changeforgeequal_StringPairs.j1)

noncomputable def changeforgeref1_TwoFault.j1 (x1 : Int) (x2 : Int) : Option Fault :=
 some ({ Code := x1, Index := x2 } : Fault)

noncomputable def changeforgeref1_TwoFault (a_ : (List ByteArray)) (b_ : (List ByteArray)) : Option Fault :=
(changeforgeref1_LinesFault a_).bind fun y1 =>
(if decide (y1.Code = 0) then (changeforgeref1_LinesCode b_).bind fun y2 =>
 some (!decide (y2 = 0)) else some false).bind fun x3 =>
 if x3 then
(changeforgeref1_LinesCode b_).bind fun y3 =>
(changeforgeref1_At y3 (-2)).bind fun y4 =>
 changeforgeref1_TwoFault.j1 y4.Code y4.Index
 else
 changeforgeref1_TwoFault.j1 y1.Code y1.Index

noncomputable def changeforgeequal_Ints.j1 : Option Bool :=
 some true

noncomputable def changeforgeequal_Ints.l1 (a_ : (List Int)) (b_ : (List Int)) (x1 : Int) : Option (Step Int (Bool ⊕ Unit)) :=
 if decide (x1 < (a_.length : Int)) then
(at? a_ x1).bind fun y1 =>
(at? b_ x1).bind fun y2 =>
 if !decide (y1 = y2) then
 some (Step.done (Sum.inl false))
 else
(ckK .i64 (x1 + 1)).bind fun z1 =>
 some (Step.next z1)
 else
 some (Step.done (Sum.inr ()))

noncomputable def changeforgeequal_Ints (a_ : (List Int)) (b_ : (List Int)) : Option Bool :=
 if !decide ((a_.length : Int) = (b_.length : Int)) then
 some false
 else
(iter (fun s => changeforgeequal_Ints.l1 a_ b_ s) 0).bind fun r1 =>
(match r1 with
| .inl p => some p
| .inr _ => changeforgeequal_Ints.j1)

noncomputable def changeforgeref1_times.j1 (x1 : Int) : Option Int :=
 some x1

noncomputable def changeforgeref1_times.j2 (x3 : Int) (x4 : Int) (x6 : Int) : Option (Step (Int × Int × Int) Int) :=
(ckK .i64 (x3 + x3)).bind fun z1 =>
(rem? z1 2305843009213693951).bind fun z2 =>
(quo? .i64 x4 2).bind fun z3 =>
 some (Step.next (x6, z2, z3))

noncomputable def changeforgeref1_times.l1 (x2 : Int) (x3 : Int) (x4 : Int) : Option (Step (Int × Int × Int) Int) :=
 if decide (x4 > 0) then
(rem? x4 2).bind fun z4 =>
 if decide (z4 = 1) then
(ckK .i64 (x2 + x3)).bind fun z5 =>
(rem? z5 2305843009213693951).bind fun z6 =>
 changeforgeref1_times.j2 x3 x4 z6
 else
 changeforgeref1_times.j2 x3 x4 x2
 else
 some (Step.done x2)

noncomputable def changeforgeref1_times (a_ : Int) (b_ : Int) : Option Int :=
(iter (fun s => changeforgeref1_times.l1 s.1 s.2.1 s.2.2) (0, a_, b_)).bind fun r1 =>
 changeforgeref1_times.j1 r1

noncomputable def changeforgeref1_DigestPair (a_ : Int) (b_ : Int) : Option Int :=
(changeforgeref1_times a_ 1000003).bind fun y1 =>
(changeforgeref1_times b_ 31).bind fun y2 =>
(ckK .i64 (y1 + y2)).bind fun z1 =>
(ckK .i64 (z1 + 7)).bind fun z2 =>
(rem? z2 2305843009213693951).bind fun z3 =>
 some z3

noncomputable def changeforgeref1_DigestOf.j1 (x1 : Int) : Option Int :=
 some x1

noncomputable def changeforgeref1_DigestOf.l1 (data : (List UInt8)) (x2 : Int) (x3 : Int) : Option (Step (Int × Int) Int) :=
 if decide (x2 < (data.length : Int)) then
(at? data x2).bind fun y1 =>
(ckK .i64 (y1.toNat : Int)).bind fun z1 =>
(changeforgeref1_times x3 257).bind fun y2 =>
(ckK .i64 (y2 + z1)).bind fun z2 =>
(ckK .i64 (z2 + 1)).bind fun z3 =>
(rem? z3 2305843009213693951).bind fun z4 =>
(ckK .i64 (x2 + 1)).bind fun z5 =>
 some (Step.next (z5, z4))
 else
 some (Step.done x3)

noncomputable def changeforgeref1_DigestOf (data : (List UInt8)) : Option Int :=
(iter (fun s => changeforgeref1_DigestOf.l1 data s.1 s.2) (0, 1)).bind fun r1 =>
 changeforgeref1_DigestOf.j1 r1

noncomputable def changeforgeref2_Sketched.j1 (x1 : List Int) : Option (List Int) :=
 some x1

noncomputable def changeforgeref2_Sketched.j2 (x2 : Int) (x6 : List Int) : Option (Step (Int × (List Int)) (List Int)) :=
(ckK .i64 (x2 + 1)).bind fun z1 =>
 some (Step.next (z1, x6))

noncomputable def changeforgeref2_Sketched.j3 (x2 : Int) (x3 : List Int) (x7 : Int) : Option (Step (Int × (List Int)) (List Int)) :=
(app? 8 x3 ([x7] : List Int)).bind fun y4 =>
 changeforgeref2_Sketched.j2 x2 y4

noncomputable def changeforgeref2_Sketched.j4 (x8 : Int) (x11 : Int) : Option (Step (Int × Int) Int) :=
(ckK .i64 (x8 + 1)).bind fun z2 =>
 some (Step.next (z2, x11))

noncomputable def changeforgeref2_Sketched.l2 (l_ : (List ByteArray)) (x2 : Int) (x8 : Int) (x9 : Int) : Option (Step (Int × Int) Int) :=
 if decide (x8 < (l_.length : Int)) then
(at? l_ x8).bind fun y5 =>
(changeforgeref1_DigestOf y5.data.toList).bind fun y6 =>
(changeforgeref1_DigestPair x2 y6).bind fun y7 =>
 if decide (y7 < x9) then
 changeforgeref2_Sketched.j4 x8 y7
 else
 changeforgeref2_Sketched.j4 x8 x9
 else
 some (Step.done x9)

noncomputable def changeforgeref2_Sketched.l1 (l_ : (List ByteArray)) (x2 : Int) (x3 : List Int) : Option (Step (Int × (List Int)) (List Int)) :=
(if decide (x2 ≤ 8) then some (decide ((l_.length : Int) > 0)) else some false).bind fun x5 =>
 if x5 then
(at? l_ 0).bind fun y1 =>
(changeforgeref1_DigestOf y1.data.toList).bind fun y2 =>
(changeforgeref1_DigestPair x2 y2).bind fun y3 =>
(iter (fun s => changeforgeref2_Sketched.l2 l_ x2 s.1 s.2) (1, y3)).bind fun r2 =>
 changeforgeref2_Sketched.j3 x2 x3 r2
 else
 some (Step.done x3)

noncomputable def changeforgeref2_Sketched (l_ : (List ByteArray)) : Option (List Int) :=
(iter (fun s => changeforgeref2_Sketched.l1 l_ s.1 s.2) (1, [])).bind fun r1 =>
 changeforgeref2_Sketched.j1 r1

end Go.Dc
