/- The functions as pure models. -/
import Derived.Test.YtjmigclbilnajaaDoorDcTy
namespace Go.Dc
open Go
set_option linter.unusedVariables false
noncomputable def stringslite_IndexByte (s_ : ByteArray) (c_ : Int) : Option Int :=
 some (idxB s_ c_)

noncomputable def bytealg_Cutover (n_ : Int) : Option Int :=
(ckK .i64 (n_ + 16)).bind fun z1 =>
(quo? .i64 z1 8).bind fun z2 =>
 some z2

noncomputable def bytealg_hashStr.j2 (x1 : Int) (x2 : Int) : Option (Int × Int) :=
 some (x1, x2)

noncomputable def bytealg_hashStr.j3 (x3 : Int) (x4 : Int) (x7 : Int) : Option (Step (Int × Int × Int) Int) :=
(ckK .u32 (x4 * x4)).bind fun z1 =>
(shr? .i64 x3 1).bind fun z2 =>
 some (Step.next (z2, z1, x7))

noncomputable def bytealg_hashStr.l1 (x3 : Int) (x4 : Int) (x5 : Int) : Option (Step (Int × Int × Int) Int) :=
 if decide (x3 > 0) then
 if !decide (andI .i64 x3 1 = 0) then
(ckK .u32 (x5 * x4)).bind fun z3 =>
 bytealg_hashStr.j3 x3 x4 z3
 else
 bytealg_hashStr.j3 x3 x4 x5
 else
 some (Step.done x5)

noncomputable def bytealg_hashStr.j1 (sep : ByteArray) (x1 : Int) : Option (Int × Int) :=
(iter (fun s => bytealg_hashStr.l1 s.1 s.2.1 s.2.2) ((sep.size : Int), 16777619, 1)).bind fun r1 =>
 bytealg_hashStr.j2 x1 r1

noncomputable def bytealg_hashStr.l2 (sep : ByteArray) (x8 : Int) (x9 : Int) : Option (Step (Int × Int) Int) :=
 if decide (x8 < (sep.size : Int)) then
(ckK .u32 (x9 * 16777619)).bind fun z4 =>
(sAt? sep x8).bind fun y1 =>
(ckK .u32 y1).bind fun z5 =>
(ckK .u32 (z4 + z5)).bind fun z6 =>
(ckK .i64 (x8 + 1)).bind fun z7 =>
 some (Step.next (z7, z6))
 else
 some (Step.done x9)

noncomputable def bytealg_hashStr (sep : ByteArray) : Option (Int × Int) :=
(iter (fun s => bytealg_hashStr.l2 sep s.1 s.2) (0, 0)).bind fun r2 =>
 bytealg_hashStr.j1 sep r2

noncomputable def bytealg_IndexRabinKarp.j2 : Option Int :=
 some (-1)

noncomputable def bytealg_IndexRabinKarp.l1 (s_ : ByteArray) (sep : ByteArray) (y1 : Int × Int) (x3 : Int) (x4 : Int) : Option (Step (Int × Int) (Int ⊕ Unit)) :=
 if decide (x3 < (s_.size : Int)) then
(ckK .u32 (x4 * 16777619)).bind fun z1 =>
(sAt? s_ x3).bind fun y3 =>
(ckK .u32 y3).bind fun z2 =>
(ckK .u32 (z1 + z2)).bind fun z3 =>
(ckK .i64 (x3 - (sep.size : Int))).bind fun z4 =>
(sAt? s_ z4).bind fun y4 =>
(ckK .u32 y4).bind fun z5 =>
(ckK .u32 (y1.2 * z5)).bind fun z6 =>
(ckK .u32 (z3 - z6)).bind fun z7 =>
(ckK .i64 (x3 + 1)).bind fun z8 =>
(if decide (z7 = y1.1) then (ckK .i64 (z8 - (sep.size : Int))).bind fun z9 =>
(scut? s_ z9 z8).bind fun y5 =>
 some (decide (y5 = sep)) else some false).bind fun x6 =>
 if x6 then
(ckK .i64 (z8 - (sep.size : Int))).bind fun z10 =>
 some (Step.done (Sum.inl z10))
 else
 some (Step.next (z8, z7))
 else
 some (Step.done (Sum.inr ()))

noncomputable def bytealg_IndexRabinKarp.j1 (s_ : ByteArray) (sep : ByteArray) (y1 : Int × Int) (x1 : Int) : Option Int :=
(if decide (x1 = y1.1) then (scut? s_ 0 (sep.size : Int)).bind fun y2 =>
 some (decide (y2 = sep)) else some false).bind fun x2 =>
 if x2 then
 some 0
 else
(iter (fun s => bytealg_IndexRabinKarp.l1 s_ sep y1 s.1 s.2) ((sep.size : Int), x1)).bind fun r1 =>
(match r1 with
| .inl p => some p
| .inr _ => bytealg_IndexRabinKarp.j2)

noncomputable def bytealg_IndexRabinKarp.l2 (s_ : ByteArray) (sep : ByteArray) (x7 : Int) (x8 : Int) : Option (Step (Int × Int) Int) :=
 if decide (x7 < (sep.size : Int)) then
(ckK .u32 (x8 * 16777619)).bind fun z11 =>
(sAt? s_ x7).bind fun y6 =>
(ckK .u32 y6).bind fun z12 =>
(ckK .u32 (z11 + z12)).bind fun z13 =>
(ckK .i64 (x7 + 1)).bind fun z14 =>
 some (Step.next (z14, z13))
 else
 some (Step.done x8)

noncomputable def bytealg_IndexRabinKarp (s_ : ByteArray) (sep : ByteArray) : Option Int :=
(bytealg_hashStr sep).bind fun y1 =>
(iter (fun s => bytealg_IndexRabinKarp.l2 s_ sep s.1 s.2) (0, 0)).bind fun r2 =>
 bytealg_IndexRabinKarp.j1 s_ sep y1 r2

noncomputable def stringslite_Index (s_ : ByteArray) : Option Int :=
 if decide ((⟨#[47]⟩ : ByteArray) = s_) then
 some 0
 else
(sAt? (⟨#[47]⟩ : ByteArray) 0).bind fun y1 =>
(stringslite_IndexByte s_ y1).bind fun y2 =>
 some y2

noncomputable def strings_Index (s_ : ByteArray) : Option Int :=
(stringslite_Index s_).bind fun y1 =>
 some y1

noncomputable def treepatch_Letter (c_ : Int) : Option Bool :=
(if decide (c_ ≥ 97) then some (decide (c_ ≤ 122)) else some false).bind fun x1 =>
(if x1 then some true else (if decide (c_ ≥ 65) then some (decide (c_ ≤ 90)) else some false).bind fun x3 =>
 some x3).bind fun x2 =>
(if x2 then some true else (if decide (c_ ≥ 48) then some (decide (c_ ≤ 57)) else some false).bind fun x5 =>
 some x5).bind fun x4 =>
(if x4 then some true else some (decide (c_ = 46))).bind fun x6 =>
(if x6 then some true else some (decide (c_ = 95))).bind fun x7 =>
(if x7 then some true else some (decide (c_ = 45))).bind fun x8 =>
 some x8

noncomputable def treepatch_ValidPath.j2 : Option Bool :=
 some false

noncomputable def treepatch_ValidPath.j3 : Option Bool :=
 some true

noncomputable def treepatch_ValidPath.j4 : Option Bool :=
 treepatch_ValidPath.j3

noncomputable def treepatch_ValidPath.l1 (x1 : ByteArray) (x4 : Int) : Option (Step Int (Unit ⊕ Unit)) :=
 if decide (x4 < (x1.size : Int)) then
(sAt? x1 x4).bind fun y1 =>
(treepatch_Letter y1).bind fun y2 =>
 if !y2 then
 some (Step.done (Sum.inl ()))
 else
(ckK .i64 (x4 + 1)).bind fun z1 =>
 some (Step.next z1)
 else
 some (Step.done (Sum.inr ()))

noncomputable def treepatch_ValidPath.j1 (x1 : ByteArray) : Option Bool :=
(if decide (x1 = (⟨#[]⟩ : ByteArray)) then some true else some (decide (x1 = (⟨#[46]⟩ : ByteArray)))).bind fun x2 =>
(if x2 then some true else some (decide (x1 = (⟨#[46, 46]⟩ : ByteArray)))).bind fun x3 =>
 if x3 then
 treepatch_ValidPath.j2
 else
(iter (fun s => treepatch_ValidPath.l1 x1 s) 0).bind fun r1 =>
(match r1 with
| .inl _ => treepatch_ValidPath.j2
| .inr _ => treepatch_ValidPath.j4)

noncomputable def treepatch_ValidPath.j5 : Option (Step ByteArray (Bool ⊕ ByteArray)) :=
 some (Step.done (Sum.inl false))

noncomputable def treepatch_ValidPath.j6 (x6 : ByteArray) (y3 : Int) : Option (Step ByteArray (Bool ⊕ ByteArray)) :=
(ckK .i64 (y3 + 1)).bind fun z3 =>
(scut? x6 z3 (x6.size : Int)).bind fun y5 =>
 some (Step.next y5)

noncomputable def treepatch_ValidPath.j7 (x6 : ByteArray) (y3 : Int) : Option (Step ByteArray (Bool ⊕ ByteArray)) :=
 treepatch_ValidPath.j6 x6 y3

noncomputable def treepatch_ValidPath.l3 (y4 : ByteArray) (x10 : Int) : Option (Step Int (Unit ⊕ Unit)) :=
 if decide (x10 < (y4.size : Int)) then
(sAt? y4 x10).bind fun y6 =>
(treepatch_Letter y6).bind fun y7 =>
 if !y7 then
 some (Step.done (Sum.inl ()))
 else
(ckK .i64 (x10 + 1)).bind fun z4 =>
 some (Step.next z4)
 else
 some (Step.done (Sum.inr ()))

noncomputable def treepatch_ValidPath.l2 (x6 : ByteArray) : Option (Step ByteArray (Bool ⊕ ByteArray)) :=
(strings_Index x6).bind fun y3 =>
 if decide (y3 < 0) then
 some (Step.done (Sum.inr x6))
 else
(ckK .i64 (y3 + 0)).bind fun z2 =>
(scut? x6 0 z2).bind fun y4 =>
(if decide (y4 = (⟨#[]⟩ : ByteArray)) then some true else some (decide (y4 = (⟨#[46]⟩ : ByteArray)))).bind fun x8 =>
(if x8 then some true else some (decide (y4 = (⟨#[46, 46]⟩ : ByteArray)))).bind fun x9 =>
 if x9 then
 treepatch_ValidPath.j5
 else
(iter (fun s => treepatch_ValidPath.l3 y4 s) 0).bind fun r3 =>
(match r3 with
| .inl _ => treepatch_ValidPath.j5
| .inr _ => treepatch_ValidPath.j7 x6 y3)

noncomputable def treepatch_ValidPath (path : ByteArray) : Option Bool :=
 if decide ((path.size : Int) > 60) then
 some false
 else
(iter (fun s => treepatch_ValidPath.l2 s) path).bind fun r2 =>
(match r2 with
| .inl p => some p
| .inr p => treepatch_ValidPath.j1 p)

noncomputable def textpatch_End (h_ : Hunk) : Option Int :=
(ckK .i64 (h_.At + (h_.Old.length : Int))).bind fun z1 =>
 some z1

noncomputable def strings_IndexByte (s_ : ByteArray) (c_ : Int) : Option Int :=
(stringslite_IndexByte s_ c_).bind fun y1 =>
 some y1

noncomputable def lines_Validate.j1 : Option Fault :=
 some ({ Code := 0, Index := 0 } : Fault)

noncomputable def lines_Validate.l1 (lines : (List ByteArray)) (x1 : Int) : Option (Step Int (Fault ⊕ Unit)) :=
 if decide (x1 < (lines.length : Int)) then
(at? lines x1).bind fun y1 =>
 if decide ((y1.size : Int) > 80) then
 some (Step.done (Sum.inl ({ Code := 2, Index := x1 } : Fault)))
 else
(strings_IndexByte y1 10).bind fun y2 =>
 if decide (y2 ≥ 0) then
 some (Step.done (Sum.inl ({ Code := 5, Index := x1 } : Fault)))
 else
(ckK .i64 (x1 + 1)).bind fun z1 =>
 some (Step.next z1)
 else
 some (Step.done (Sum.inr ()))

noncomputable def lines_Validate (lines : (List ByteArray)) : Option Fault :=
 if decide ((lines.length : Int) > 120) then
 some ({ Code := 2, Index := (-1) } : Fault)
 else
(iter (fun s => lines_Validate.l1 lines s) 0).bind fun r1 =>
(match r1 with
| .inl p => some p
| .inr _ => lines_Validate.j1)

noncomputable def textpatch_hunk.j1 (h_ : Hunk) (end_ : Int) : Option Int :=
(ckK .i64 ((h_.Old.length : Int) + (h_.New.length : Int))).bind fun z1 =>
(if decide (z1 = 0) then some true else some (decide (h_.At ≤ end_))).bind fun x2 =>
 if x2 then
 some 5
 else
(textpatch_End h_).bind fun y1 =>
 if decide (y1 > 120) then
 some 3
 else
 some 0

noncomputable def textpatch_hunk.l1 (h_ : Hunk) (x3 : Int) : Option (Step Int (Int ⊕ Unit)) :=
 if decide (x3 < 2) then
(at? ([h_.Old, h_.New] : List (List ByteArray)) x3).bind fun y2 =>
(lines_Validate y2).bind fun y3 =>
 if !(decide (y3.Code = 0) && decide (y3.Index = 0)) then
 some (Step.done (Sum.inl y3.Code))
 else
(ckK .i64 (x3 + 1)).bind fun z2 =>
 some (Step.next z2)
 else
 some (Step.done (Sum.inr ()))

noncomputable def textpatch_hunk (h_ : Hunk) (end_ : Int) : Option Int :=
(if decide (h_.At < 0) then some true else some (decide (h_.At > 120))).bind fun x1 =>
 if x1 then
 some 3
 else
(iter (fun s => textpatch_hunk.l1 h_ s) 0).bind fun r1 =>
(match r1 with
| .inl p => some p
| .inr _ => textpatch_hunk.j1 h_ end_)

noncomputable def textpatch_Validate.j1 : Option Fault :=
 some ({ Code := 0, Index := 0 } : Fault)

noncomputable def textpatch_Validate.l1 (p_ : Patch) (x1 : Int) (x2 : Int) : Option (Step (Int × Int) (Fault ⊕ Unit)) :=
 if decide (x1 < (p_.Hunks.length : Int)) then
(at? p_.Hunks x1).bind fun y1 =>
(textpatch_hunk y1 x2).bind fun y2 =>
 if !decide (y2 = 0) then
 some (Step.done (Sum.inl ({ Code := y2, Index := x1 } : Fault)))
 else
(textpatch_End y1).bind fun y3 =>
(ckK .i64 (x1 + 1)).bind fun z1 =>
 some (Step.next (z1, y3))
 else
 some (Step.done (Sum.inr ()))

noncomputable def textpatch_Validate (p_ : Patch) : Option Fault :=
 if decide ((p_.Hunks.length : Int) > 130) then
 some ({ Code := 2, Index := (-1) } : Fault)
 else
(iter (fun s => textpatch_Validate.l1 p_ s.1 s.2) (0, (-1))).bind fun r1 =>
(match r1 with
| .inl p => some p
| .inr _ => textpatch_Validate.j1)

noncomputable def stringslite_HasPrefix (s_ : ByteArray) (prefix_ : ByteArray) : Option Bool :=
(if decide ((s_.size : Int) ≥ (prefix_.size : Int)) then (scut? s_ 0 (prefix_.size : Int)).bind fun y1 =>
 some (decide (y1 = prefix_)) else some false).bind fun x1 =>
 some x1

noncomputable def strings_HasPrefix (s_ : ByteArray) (prefix_ : ByteArray) : Option Bool :=
(stringslite_HasPrefix s_ prefix_).bind fun y1 =>
 some y1

noncomputable def treepatch_Related (a_ : ByteArray) (b_ : ByteArray) : Option Bool :=
(if decide (a_ = b_) then some true else (cat? b_ (⟨#[47]⟩ : ByteArray)).bind fun z1 =>
(strings_HasPrefix a_ z1).bind fun y1 =>
 some y1).bind fun x1 =>
(if x1 then some true else (cat? a_ (⟨#[47]⟩ : ByteArray)).bind fun z2 =>
(strings_HasPrefix b_ z2).bind fun y2 =>
 some y2).bind fun x2 =>
 some x2

noncomputable def treepatch_check (c_ : TreeChange) : Option Int :=
(if decide (c_.Kind < 1) then some true else some (decide (c_.Kind > 4))).bind fun x1 =>
 if x1 then
 some 4
 else
(treepatch_ValidPath c_.Path).bind fun y1 =>
(if !y1 then some true else (if decide (c_.Kind = 3) then (treepatch_ValidPath c_.To).bind fun y2 =>
 some !y2 else some false).bind fun x3 =>
 some x3).bind fun x2 =>
 if x2 then
 some 12
 else
(if !(decide (c_.Kind = 3)) then some (!decide (c_.To = (⟨#[]⟩ : ByteArray))) else some false).bind fun x4 =>
(if x4 then some true else (if decide (c_.Kind = 3) then (treepatch_Related c_.Path c_.To).bind fun y3 =>
 some y3 else some false).bind fun x6 =>
 some x6).bind fun x5 =>
 if x5 then
 some 5
 else
(if decide ((c_.Lines.length : Int) > 0) then (if decide (c_.Kind = 4) then some true else some (decide (c_.Kind = 3))).bind fun x8 =>
 some x8 else some false).bind fun x7 =>
 if x7 then
 some 5
 else
 if !decide (decide (c_.Kind = 4) = decide ((c_.Patch.Hunks.length : Int) > 0)) then
 some 5
 else
(lines_Validate c_.Lines).bind fun y4 =>
 if !(decide (y4.Code = 0) && decide (y4.Index = 0)) then
 some y4.Code
 else
(textpatch_Validate c_.Patch).bind fun y5 =>
 some y5.Code

noncomputable def treepatch_ValidatePatch.j1 : Option Fault :=
 some ({ Code := 0, Index := 0 } : Fault)

noncomputable def treepatch_ValidatePatch.l1 (p_ : TreePatch) (x1 : Int) : Option (Step Int (Fault ⊕ Unit)) :=
 if decide (x1 < (p_.Changes.length : Int)) then
(at? p_.Changes x1).bind fun y1 =>
(treepatch_check y1).bind fun y2 =>
 if !decide (y2 = 0) then
 some (Step.done (Sum.inl ({ Code := y2, Index := x1 } : Fault)))
 else
(ckK .i64 (x1 + 1)).bind fun z1 =>
 some (Step.next z1)
 else
 some (Step.done (Sum.inr ()))

noncomputable def treepatch_ValidatePatch (p_ : TreePatch) : Option Fault :=
 if decide ((p_.Changes.length : Int) > 30) then
 some ({ Code := 2, Index := (-1) } : Fault)
 else
(iter (fun s => treepatch_ValidatePatch.l1 p_ s) 0).bind fun r1 =>
(match r1 with
| .inl p => some p
| .inr _ => treepatch_ValidatePatch.j1)

noncomputable def treepatch_SecondPatch (p_ : TreePatch) (index : Int) : Option Fault :=
(treepatch_ValidatePatch p_).bind fun y1 =>
 if !(decide (y1.Code = 0) && decide (y1.Index = 0)) then
 some ({ Code := y1.Code, Index := index } : Fault)
 else
 some ({ Code := 0, Index := 0 } : Fault)

noncomputable def slices_Clone (s_ : (List ByteArray)) : Option (List ByteArray) :=
 nilIf s_ (
 some []) (
(app? 16 ([] : List ByteArray) s_).bind fun y1 =>
 some y1)

noncomputable def textpatch_Copy.j1 (x1 : List Hunk) : Option Patch :=
 some ({ Hunks := x1 } : Patch)

noncomputable def textpatch_Copy.l1 (p_ : Patch) (x2 : Int) (x3 : List Hunk) : Option (Step (Int × (List Hunk)) (List Hunk)) :=
 if decide (x2 < (p_.Hunks.length : Int)) then
(at? p_.Hunks x2).bind fun y1 =>
(slices_Clone y1.Old).bind fun y2 =>
(slices_Clone y1.New).bind fun y3 =>
(app? 56 x3 ([({ At := y1.At, Old := y2, New := y3 } : Hunk)] : List Hunk)).bind fun y4 =>
(ckK .i64 (x2 + 1)).bind fun z1 =>
 some (Step.next (z1, y4))
 else
 some (Step.done x3)

noncomputable def textpatch_Copy (p_ : Patch) : Option Patch :=
(iter (fun s => textpatch_Copy.l1 p_ s.1 s.2) (0, [])).bind fun r1 =>
 textpatch_Copy.j1 r1

noncomputable def treepatch_CopyChange (c_ : TreeChange) : Option TreeChange :=
(slices_Clone c_.Lines).bind fun y1 =>
(textpatch_Copy c_.Patch).bind fun y2 =>
 some ({ Kind := c_.Kind, Path := c_.Path, To := c_.To, Lines := y1, Patch := y2 } : TreeChange)

noncomputable def treecommute_paths (c_ : TreeChange) : Option (List ByteArray) :=
 if decide (c_.Kind = 3) then
 some ([c_.Path, c_.To] : List ByteArray)
 else
 some ([c_.Path] : List ByteArray)

noncomputable def treecommute_touches.j1 : Option Bool :=
 some false

noncomputable def treecommute_touches.j2 (x1 : Int) (x3 : Int) : Option (Step Int (Bool ⊕ Unit)) :=
 if decide (x3 ≥ 0) then
 some (Step.done (Sum.inl true))
 else
(ckK .i64 (x1 + 1)).bind fun z1 =>
 some (Step.next z1)

noncomputable def treecommute_touches.j3 (x1 : Int) : Option (Step Int (Bool ⊕ Unit)) :=
 treecommute_touches.j2 x1 (-1)

noncomputable def treecommute_touches.l2 (path : ByteArray) (y2 : (List ByteArray)) (x4 : Int) : Option (Step Int (Int ⊕ Unit)) :=
 if decide (x4 < (y2.length : Int)) then
(at? y2 x4).bind fun y3 =>
(treepatch_Related y3 path).bind fun y4 =>
 if y4 then
 some (Step.done (Sum.inl x4))
 else
(ckK .i64 (x4 + 1)).bind fun z2 =>
 some (Step.next z2)
 else
 some (Step.done (Sum.inr ()))

noncomputable def treecommute_touches.l1 (path : ByteArray) (changes : (List TreeChange)) (x1 : Int) : Option (Step Int (Bool ⊕ Unit)) :=
 if decide (x1 < (changes.length : Int)) then
(at? changes x1).bind fun y1 =>
(treecommute_paths y1).bind fun y2 =>
(iter (fun s => treecommute_touches.l2 path y2 s) 0).bind fun r2 =>
(match r2 with
| .inl p => treecommute_touches.j2 x1 p
| .inr _ => treecommute_touches.j3 x1)
 else
 some (Step.done (Sum.inr ()))

noncomputable def treecommute_touches (path : ByteArray) (changes : (List TreeChange)) : Option Bool :=
(iter (fun s => treecommute_touches.l1 path changes s) 0).bind fun r1 =>
(match r1 with
| .inl p => some p
| .inr _ => treecommute_touches.j1)

noncomputable def treecommute_independent.j1 (x1 : Int) : Option Bool :=
 some (!(decide (x1 ≥ 0)))

noncomputable def treecommute_independent.j2 : Option Bool :=
 treecommute_independent.j1 (-1)

noncomputable def treecommute_independent.l1 (b_ : TreeChange) (y1 : (List ByteArray)) (x2 : Int) : Option (Step Int (Int ⊕ Unit)) :=
 if decide (x2 < (y1.length : Int)) then
(at? y1 x2).bind fun y2 =>
(treecommute_touches y2 ([b_] : List TreeChange)).bind fun y3 =>
 if y3 then
 some (Step.done (Sum.inl x2))
 else
(ckK .i64 (x2 + 1)).bind fun z1 =>
 some (Step.next z1)
 else
 some (Step.done (Sum.inr ()))

noncomputable def treecommute_independent (a_ : TreeChange) (b_ : TreeChange) : Option Bool :=
(treecommute_paths a_).bind fun y1 =>
(iter (fun s => treecommute_independent.l1 b_ y1 s) 0).bind fun r1 =>
(match r1 with
| .inl p => treecommute_independent.j1 p
| .inr _ => treecommute_independent.j2)

noncomputable def textpatch_Second (p_ : Patch) (index : Int) : Option Fault :=
(textpatch_Validate p_).bind fun y1 =>
 if !(decide (y1.Code = 0) && decide (y1.Index = 0)) then
 some ({ Code := y1.Code, Index := index } : Fault)
 else
 some ({ Code := 0, Index := 0 } : Fault)

noncomputable def commute_both (p_ : Patch) (q_ : Patch) : Option Fault :=
(textpatch_Validate p_).bind fun y1 =>
 if !(decide (y1.Code = 0) && decide (y1.Index = 0)) then
 some y1
 else
(textpatch_Second q_ (-2)).bind fun y2 =>
 some y2

noncomputable def textpatch_Growth (h_ : Hunk) : Option Int :=
(ckK .i64 ((h_.New.length : Int) - (h_.Old.length : Int))).bind fun z1 =>
 some z1

noncomputable def commute_newRanges.j1 (x1 : List Range_commute) : Option (List Range_commute) :=
 some x1

noncomputable def commute_newRanges.l1 (p_ : Patch) (x2 : Int) (x3 : Int) (x4 : List Range_commute) : Option (Step (Int × Int × (List Range_commute)) (List Range_commute)) :=
 if decide (x2 < (p_.Hunks.length : Int)) then
(at? p_.Hunks x2).bind fun y1 =>
(ckK .i64 (y1.At + x3)).bind fun z1 =>
(ckK .i64 (z1 + (y1.New.length : Int))).bind fun z2 =>
(textpatch_Growth y1).bind fun y2 =>
(app? 24 x4 ([({ Low := z1, High := z2, Growth := y2 } : Range_commute)] : List Range_commute)).bind fun y3 =>
(textpatch_Growth y1).bind fun y4 =>
(ckK .i64 (x3 + y4)).bind fun z3 =>
(ckK .i64 (x2 + 1)).bind fun z4 =>
 some (Step.next (z4, z3, y3))
 else
 some (Step.done x4)

noncomputable def commute_newRanges (p_ : Patch) : Option (List Range_commute) :=
(iter (fun s => commute_newRanges.l1 p_ s.1 s.2.1 s.2.2) (0, 0, [])).bind fun r1 =>
 commute_newRanges.j1 r1

noncomputable def commute_Touch (a_ : Range_commute) (b_ : Range_commute) : Option Bool :=
(if decide (a_.High ≥ b_.Low) then some (decide (b_.High ≥ a_.Low)) else some false).bind fun x1 =>
 some x1

noncomputable def commute_meet.j1 : Option Bool :=
 some false

noncomputable def commute_meet.j2 (x1 : Int) : Option (Step Int (Bool ⊕ Unit)) :=
(ckK .i64 (x1 + 1)).bind fun z1 =>
 some (Step.next z1)

noncomputable def commute_meet.j3 (x1 : Int) : Option (Step Int (Bool ⊕ Unit)) :=
 commute_meet.j2 x1

noncomputable def commute_meet.l2 (b_ : (List Range_commute)) (y1 : Range_commute) (x3 : Int) : Option (Step Int (Bool ⊕ Unit)) :=
 if decide (x3 < (b_.length : Int)) then
(at? b_ x3).bind fun y2 =>
(commute_Touch y1 y2).bind fun y3 =>
 if y3 then
 some (Step.done (Sum.inl true))
 else
(ckK .i64 (x3 + 1)).bind fun z2 =>
 some (Step.next z2)
 else
 some (Step.done (Sum.inr ()))

noncomputable def commute_meet.l1 (a_ : (List Range_commute)) (b_ : (List Range_commute)) (x1 : Int) : Option (Step Int (Bool ⊕ Unit)) :=
 if decide (x1 < (a_.length : Int)) then
(at? a_ x1).bind fun y1 =>
(iter (fun s => commute_meet.l2 b_ y1 s) 0).bind fun r2 =>
(match r2 with
| .inl p => some (Step.done (Sum.inl p))
| .inr _ => commute_meet.j3 x1)
 else
 some (Step.done (Sum.inr ()))

noncomputable def commute_meet (a_ : (List Range_commute)) (b_ : (List Range_commute)) : Option Bool :=
(iter (fun s => commute_meet.l1 a_ b_ s) 0).bind fun r1 =>
(match r1 with
| .inl p => some p
| .inr _ => commute_meet.j1)

noncomputable def commute_OldRanges.j1 (x1 : List Range_commute) : Option (List Range_commute) :=
 some x1

noncomputable def commute_OldRanges.l1 (p_ : Patch) (x2 : Int) (x3 : List Range_commute) : Option (Step (Int × (List Range_commute)) (List Range_commute)) :=
 if decide (x2 < (p_.Hunks.length : Int)) then
(at? p_.Hunks x2).bind fun y1 =>
(textpatch_End y1).bind fun y2 =>
(textpatch_Growth y1).bind fun y3 =>
(app? 24 x3 ([({ Low := y1.At, High := y2, Growth := y3 } : Range_commute)] : List Range_commute)).bind fun y4 =>
(ckK .i64 (x2 + 1)).bind fun z1 =>
 some (Step.next (z1, y4))
 else
 some (Step.done x3)

noncomputable def commute_OldRanges (p_ : Patch) : Option (List Range_commute) :=
(iter (fun s => commute_OldRanges.l1 p_ s.1 s.2) (0, [])).bind fun r1 =>
 commute_OldRanges.j1 r1

noncomputable def textpatch_Made (p_ : Patch) : Option (Patch × Fault) :=
(textpatch_Validate p_).bind fun y1 =>
 if !(decide (y1.Code = 0) && decide (y1.Index = 0)) then
 some (({ Hunks := [] } : Patch), ({ Code := 10, Index := (-1) } : Fault))
 else
 some (p_, ({ Code := 0, Index := 0 } : Fault))

noncomputable def commute_shift.j1 (x1 : List Hunk) : Option Patch :=
 some ({ Hunks := x1 } : Patch)

noncomputable def commute_shift.j2 (x2 : Int) (x5 : List Hunk) : Option (Step (Int × (List Hunk)) (List Hunk)) :=
(ckK .i64 (x2 + 1)).bind fun z1 =>
 some (Step.next (z1, x5))

noncomputable def commute_shift.j3 (x2 : Int) (x6 : List Hunk) : Option (Step (Int × (List Hunk)) (List Hunk)) :=
 commute_shift.j2 x2 x6

noncomputable def commute_shift.j4 (x7 : Int) (x10 : List Hunk) : Option (Step (Int × (List Hunk)) (List Hunk)) :=
(ckK .i64 (x7 + 1)).bind fun z2 =>
 some (Step.next (z2, x10))

noncomputable def commute_shift.l2 (l_ : (List Range_commute)) (sign : Int) (x2 : Int) (y2 : Hunk) (x7 : Int) (x8 : List Hunk) : Option (Step (Int × (List Hunk)) (List Hunk)) :=
 if decide (x7 < (l_.length : Int)) then
(at? l_ x7).bind fun y3 =>
 if decide (y3.High < y2.At) then
(at? x8 x2).bind fun y4 =>
(ckK .i64 (sign * y3.Growth)).bind fun z3 =>
(ckK .i64 (y4.At + z3)).bind fun z4 =>
(at? x8 x2).bind fun y5 =>
(some (x8.set x2.toNat ({ At := z4, Old := y5.Old, New := y5.New } : Hunk))).bind fun y6 =>
 commute_shift.j4 x7 y6
 else
 commute_shift.j4 x7 x8
 else
 some (Step.done x8)

noncomputable def commute_shift.l1 (p_ : Patch) (l_ : (List Range_commute)) (sign : Int) (x2 : Int) (x3 : List Hunk) : Option (Step (Int × (List Hunk)) (List Hunk)) :=
 if decide (x2 < (p_.Hunks.length : Int)) then
(at? p_.Hunks x2).bind fun y2 =>
(iter (fun s => commute_shift.l2 l_ sign x2 y2 s.1 s.2) (0, x3)).bind fun r2 =>
 commute_shift.j3 x2 r2
 else
 some (Step.done x3)

noncomputable def commute_shift (p_ : Patch) (l_ : (List Range_commute)) (sign : Int) : Option Patch :=
(textpatch_Copy p_).bind fun y1 =>
(iter (fun s => commute_shift.l1 p_ l_ sign s.1 s.2) (0, y1.Hunks)).bind fun r1 =>
 commute_shift.j1 r1

noncomputable def commute_Commute.j1 (y6 : Patch × Fault) (y9 : Patch × Fault) : Option (Patch × Patch × Bool × Fault) :=
 if !(decide (y9.2.Code = 0) && decide (y9.2.Index = 0)) then
 some (({ Hunks := [] } : Patch), ({ Hunks := [] } : Patch), false, y9.2)
 else
 some (y6.1, y9.1, true, ({ Code := 0, Index := 0 } : Fault))

noncomputable def commute_Commute (p_ : Patch) (q_ : Patch) : Option (Patch × Patch × Bool × Fault) :=
(commute_both p_ q_).bind fun y1 =>
 if !(decide (y1.Code = 0) && decide (y1.Index = 0)) then
 some (({ Hunks := [] } : Patch), ({ Hunks := [] } : Patch), false, y1)
 else
(commute_newRanges p_).bind fun y2 =>
(commute_OldRanges q_).bind fun y3 =>
(commute_meet y2 y3).bind fun y4 =>
 if y4 then
 some (({ Hunks := [] } : Patch), ({ Hunks := [] } : Patch), false, ({ Code := 0, Index := 0 } : Fault))
 else
(commute_shift q_ y2 (-1)).bind fun y5 =>
(textpatch_Made y5).bind fun y6 =>
 if !(decide (y6.2.Code = 0) && decide (y6.2.Index = 0)) then
 some (({ Hunks := [] } : Patch), ({ Hunks := [] } : Patch), false, y6.2)
 else
(commute_OldRanges y6.1).bind fun y7 =>
(commute_shift p_ y7 1).bind fun y8 =>
(textpatch_Made y8).bind fun y9 =>
 commute_Commute.j1 y6 y9

noncomputable def treecommute_edit (path : ByteArray) (p_ : Patch) : Option TreeChange :=
 some ({ Kind := 4, Path := path, To := ByteArray.empty, Lines := [], Patch := p_ } : TreeChange)

noncomputable def treecommute_Commute.j1 (a_ : TreeChange) (b_ : TreeChange) : Option (TreeChange × TreeChange × Bool × Fault) :=
(treepatch_CopyChange a_).bind fun y1 =>
(treepatch_CopyChange b_).bind fun y2 =>
(treecommute_independent y1 y2).bind fun y3 =>
 if y3 then
 some (y2, y1, true, ({ Code := 0, Index := 0 } : Fault))
 else
(if decide (y1.Kind = 4) then some (decide (y2.Kind = 4)) else some false).bind fun x1 =>
(if x1 then some (decide (y1.Path = y2.Path)) else some false).bind fun x2 =>
 if x2 then
(commute_Commute y1.Patch y2.Patch).bind fun y4 =>
 if !(decide (y4.2.2.2.Code = 0) && decide (y4.2.2.2.Index = 0)) then
 some (({ Kind := 0, Path := ByteArray.empty, To := ByteArray.empty, Lines := [], Patch := ({ Hunks := [] } : Patch) } : TreeChange), ({ Kind := 0, Path := ByteArray.empty, To := ByteArray.empty, Lines := [], Patch := ({ Hunks := [] } : Patch) } : TreeChange), false, ({ Code := y4.2.2.2.Code, Index := (-1) } : Fault))
 else
 if !y4.2.2.1 then
 some (({ Kind := 0, Path := ByteArray.empty, To := ByteArray.empty, Lines := [], Patch := ({ Hunks := [] } : Patch) } : TreeChange), ({ Kind := 0, Path := ByteArray.empty, To := ByteArray.empty, Lines := [], Patch := ({ Hunks := [] } : Patch) } : TreeChange), false, ({ Code := 0, Index := 0 } : Fault))
 else
(treecommute_edit y2.Path y4.1).bind fun y5 =>
(treecommute_edit y1.Path y4.2.1).bind fun y6 =>
 some (y5, y6, true, ({ Code := 0, Index := 0 } : Fault))
 else
(if decide (y1.Kind = 3) then some (decide (y2.Kind = 4)) else some false).bind fun x3 =>
(if x3 then some (decide (y2.Path = y1.To)) else some false).bind fun x4 =>
 if x4 then
(treecommute_edit y1.Path y2.Patch).bind fun y7 =>
 some (y7, y1, true, ({ Code := 0, Index := 0 } : Fault))
 else
(if decide (y1.Kind = 4) then some (decide (y2.Kind = 3)) else some false).bind fun x5 =>
(if x5 then some (decide (y2.Path = y1.Path)) else some false).bind fun x6 =>
 if x6 then
(treecommute_edit y2.To y1.Patch).bind fun y8 =>
 some (y2, y8, true, ({ Code := 0, Index := 0 } : Fault))
 else
 some (({ Kind := 0, Path := ByteArray.empty, To := ByteArray.empty, Lines := [], Patch := ({ Hunks := [] } : Patch) } : TreeChange), ({ Kind := 0, Path := ByteArray.empty, To := ByteArray.empty, Lines := [], Patch := ({ Hunks := [] } : Patch) } : TreeChange), false, ({ Code := 0, Index := 0 } : Fault))

noncomputable def treecommute_Commute.l1 (a_ : TreeChange) (b_ : TreeChange) (x7 : Int) : Option (Step Int ((TreeChange × TreeChange × Bool × Fault) ⊕ Unit)) :=
 if decide (x7 < (([a_, b_] : List TreeChange).length : Int)) then
(at? ([a_, b_] : List TreeChange) x7).bind fun y9 =>
(treepatch_SecondPatch ({ Changes := ([y9] : List TreeChange) } : TreePatch) x7).bind fun y10 =>
 if !(decide (y10.Code = 0) && decide (y10.Index = 0)) then
 some (Step.done (Sum.inl (({ Kind := 0, Path := ByteArray.empty, To := ByteArray.empty, Lines := [], Patch := ({ Hunks := [] } : Patch) } : TreeChange), ({ Kind := 0, Path := ByteArray.empty, To := ByteArray.empty, Lines := [], Patch := ({ Hunks := [] } : Patch) } : TreeChange), false, y10)))
 else
(ckK .i64 (x7 + 1)).bind fun z1 =>
 some (Step.next z1)
 else
 some (Step.done (Sum.inr ()))

noncomputable def treecommute_Commute (a_ : TreeChange) (b_ : TreeChange) : Option (TreeChange × TreeChange × Bool × Fault) :=
(iter (fun s => treecommute_Commute.l1 a_ b_ s) 0).bind fun r1 =>
(match r1 with
| .inl p => some p
| .inr _ => treecommute_Commute.j1 a_ b_)

noncomputable def changeforgeref2_pathByte (c_ : Int) : Option Bool :=
(if decide (c_ ≥ 97) then some (decide (c_ ≤ 122)) else some false).bind fun x1 =>
(if x1 then some true else (if decide (c_ ≥ 65) then some (decide (c_ ≤ 90)) else some false).bind fun x3 =>
 some x3).bind fun x2 =>
(if x2 then some true else (if decide (c_ ≥ 48) then some (decide (c_ ≤ 57)) else some false).bind fun x5 =>
 some x5).bind fun x4 =>
(if x4 then some true else some (decide (c_ = 46))).bind fun x6 =>
(if x6 then some true else some (decide (c_ = 95))).bind fun x7 =>
(if x7 then some true else some (decide (c_ = 45))).bind fun x8 =>
 some x8

noncomputable def changeforgeref2_PathValid.j1 : Option Bool :=
 some true

noncomputable def changeforgeref2_PathValid.j2 (x1 : Int) (x4 : Int) : Option (Step (Int × Int) (Bool ⊕ Unit)) :=
(ckK .i64 (x1 - 1)).bind fun z2 =>
 some (Step.next (z2, x4))

noncomputable def changeforgeref2_PathValid.l1 (s_ : ByteArray) (x1 : Int) (x2 : Int) : Option (Step (Int × Int) (Bool ⊕ Unit)) :=
 if decide (x1 ≥ (-1)) then
(if decide (x1 ≥ 0) then (sAt? s_ x1).bind fun y1 =>
 some (!decide (y1 = 47)) else some false).bind fun x5 =>
 if x5 then
(sAt? s_ x1).bind fun y2 =>
(changeforgeref2_pathByte y2).bind fun y3 =>
 if !y3 then
 some (Step.done (Sum.inl false))
 else
 changeforgeref2_PathValid.j2 x1 x2
 else
(ckK .i64 (x1 + 1)).bind fun z3 =>
(scut? s_ z3 x2).bind fun y4 =>
(if decide (y4 = (⟨#[]⟩ : ByteArray)) then some true else some (decide (y4 = (⟨#[46]⟩ : ByteArray)))).bind fun x6 =>
(if x6 then some true else some (decide (y4 = (⟨#[46, 46]⟩ : ByteArray)))).bind fun x7 =>
 if x7 then
 some (Step.done (Sum.inl false))
 else
 changeforgeref2_PathValid.j2 x1 x1
 else
 some (Step.done (Sum.inr ()))

noncomputable def changeforgeref2_PathValid (s_ : ByteArray) : Option Bool :=
 if decide ((s_.size : Int) > 60) then
 some false
 else
(ckK .i64 ((s_.size : Int) - 1)).bind fun z1 =>
(iter (fun s => changeforgeref2_PathValid.l1 s_ s.1 s.2) (z1, (s_.size : Int))).bind fun r1 =>
(match r1 with
| .inl p => some p
| .inr _ => changeforgeref2_PathValid.j1)

noncomputable def changeforgeref2_Related.body (rec_ : ByteArray → ByteArray → Option Bool) (a_ : ByteArray) (b_ : ByteArray) : Option Bool :=
 if decide ((a_.size : Int) > (b_.size : Int)) then
(rec_ b_ a_).bind fun y1 =>
 some y1
 else
(scut? b_ 0 (a_.size : Int)).bind fun y2 =>
(if decide (y2 = a_) then (if decide ((a_.size : Int) = (b_.size : Int)) then some true else (sAt? b_ (a_.size : Int)).bind fun y3 =>
 some (decide (y3 = 47))).bind fun x2 =>
 some x2 else some false).bind fun x1 =>
 some x1

noncomputable def changeforgeref2_Related.m : Nat → ByteArray → ByteArray → Option Bool
| 0 => fun _ _ => Option.none
| k + 1 => changeforgeref2_Related.body (changeforgeref2_Related.m k)

noncomputable def changeforgeref2_Related (a_ : ByteArray) (b_ : ByteArray) : Option Bool := changeforgeref2_Related.m (2) a_ b_

noncomputable def changeforgeref1_At (code : Int) (index : Int) : Option Fault :=
 some ({ Code := code, Index := index } : Fault)

noncomputable def changeforgeref1_LinesFault.j1 : Option Fault :=
 some ({ Code := 0, Index := 0 } : Fault)

noncomputable def changeforgeref1_LinesFault.j2 (x1 : Int) : Option (Step Int (Fault ⊕ Unit)) :=
(ckK .i64 (x1 + 1)).bind fun z1 =>
 some (Step.next z1)

noncomputable def changeforgeref1_LinesFault.j3 (x1 : Int) : Option (Step Int (Fault ⊕ Unit)) :=
 changeforgeref1_LinesFault.j2 x1

noncomputable def changeforgeref1_LinesFault.l2 (l_ : (List ByteArray)) (x1 : Int) (x3 : Int) : Option (Step Int (Fault ⊕ Unit)) :=
(at? l_ x1).bind fun y4 =>
 if decide (x3 < (y4.size : Int)) then
(at? l_ x1).bind fun y5 =>
(sAt? y5 x3).bind fun y6 =>
 if decide (y6 = 10) then
(changeforgeref1_At 5 x1).bind fun y7 =>
 some (Step.done (Sum.inl y7))
 else
(ckK .i64 (x3 + 1)).bind fun z2 =>
 some (Step.next z2)
 else
 some (Step.done (Sum.inr ()))

noncomputable def changeforgeref1_LinesFault.l1 (l_ : (List ByteArray)) (x1 : Int) : Option (Step Int (Fault ⊕ Unit)) :=
 if decide (x1 < (l_.length : Int)) then
(at? l_ x1).bind fun y2 =>
 if decide ((y2.size : Int) > 80) then
(changeforgeref1_At 2 x1).bind fun y3 =>
 some (Step.done (Sum.inl y3))
 else
(iter (fun s => changeforgeref1_LinesFault.l2 l_ x1 s) 0).bind fun r2 =>
(match r2 with
| .inl p => some (Step.done (Sum.inl p))
| .inr _ => changeforgeref1_LinesFault.j3 x1)
 else
 some (Step.done (Sum.inr ()))

noncomputable def changeforgeref1_LinesFault (l_ : (List ByteArray)) : Option Fault :=
 if decide ((l_.length : Int) > 120) then
(changeforgeref1_At 2 (-1)).bind fun y1 =>
 some y1
 else
(iter (fun s => changeforgeref1_LinesFault.l1 l_ s) 0).bind fun r1 =>
(match r1 with
| .inl p => some p
| .inr _ => changeforgeref1_LinesFault.j1)

noncomputable def changeforgeref1_LinesCode (l_ : (List ByteArray)) : Option Int :=
(changeforgeref1_LinesFault l_).bind fun y1 =>
 some y1.Code

noncomputable def changeforgeref1_End (h_ : Hunk) : Option Int :=
(ckK .i64 (h_.At + (h_.Old.length : Int))).bind fun z1 =>
 some z1

noncomputable def changeforgeref1_PatchFault.j1 : Option Fault :=
 some ({ Code := 0, Index := 0 } : Fault)

noncomputable def changeforgeref1_PatchFault.l1 (p_ : Patch) (x1 : Int) : Option (Step Int (Fault ⊕ Unit)) :=
 if decide (x1 < (p_.Hunks.length : Int)) then
(at? p_.Hunks x1).bind fun y2 =>
(if decide (y2.At < 0) then some true else some (decide (y2.At > 120))).bind fun x3 =>
 if x3 then
(changeforgeref1_At 3 x1).bind fun y3 =>
 some (Step.done (Sum.inl y3))
 else
(changeforgeref1_LinesCode y2.Old).bind fun y4 =>
 if !decide (y4 = 0) then
(changeforgeref1_At y4 x1).bind fun y5 =>
 some (Step.done (Sum.inl y5))
 else
(changeforgeref1_LinesCode y2.New).bind fun y6 =>
 if !decide (y6 = 0) then
(changeforgeref1_At y6 x1).bind fun y7 =>
 some (Step.done (Sum.inl y7))
 else
(ckK .i64 ((y2.Old.length : Int) + (y2.New.length : Int))).bind fun z1 =>
(if decide (z1 = 0) then some true else (if decide (x1 > 0) then (ckK .i64 (x1 - 1)).bind fun z2 =>
(at? p_.Hunks z2).bind fun y8 =>
(changeforgeref1_End y8).bind fun y9 =>
 some (decide (y2.At ≤ y9)) else some false).bind fun x5 =>
 some x5).bind fun x4 =>
 if x4 then
(changeforgeref1_At 5 x1).bind fun y10 =>
 some (Step.done (Sum.inl y10))
 else
(changeforgeref1_End y2).bind fun y11 =>
 if decide (y11 > 120) then
(changeforgeref1_At 3 x1).bind fun y12 =>
 some (Step.done (Sum.inl y12))
 else
(ckK .i64 (x1 + 1)).bind fun z3 =>
 some (Step.next z3)
 else
 some (Step.done (Sum.inr ()))

noncomputable def changeforgeref1_PatchFault (p_ : Patch) : Option Fault :=
 if decide ((p_.Hunks.length : Int) > 130) then
(changeforgeref1_At 2 (-1)).bind fun y1 =>
 some y1
 else
(iter (fun s => changeforgeref1_PatchFault.l1 p_ s) 0).bind fun r1 =>
(match r1 with
| .inl p => some p
| .inr _ => changeforgeref1_PatchFault.j1)

noncomputable def changeforgeref2_ChangeCode (c_ : TreeChange) : Option Int :=
(if !(decide (c_.Kind = 1)) then some (!(decide (c_.Kind = 2))) else some false).bind fun x1 =>
(if x1 then some (!(decide (c_.Kind = 3))) else some false).bind fun x2 =>
(if x2 then some (!(decide (c_.Kind = 4))) else some false).bind fun x3 =>
 if x3 then
 some 4
 else
(changeforgeref2_PathValid c_.Path).bind fun y1 =>
(if !y1 then some true else (if decide (c_.Kind = 3) then (changeforgeref2_PathValid c_.To).bind fun y2 =>
 some !y2 else some false).bind fun x5 =>
 some x5).bind fun x4 =>
 if x4 then
 some 12
 else
(if !(decide (c_.Kind = 3)) then some (!decide (c_.To = (⟨#[]⟩ : ByteArray))) else some false).bind fun x6 =>
(if x6 then some true else (if decide (c_.Kind = 3) then (changeforgeref2_Related c_.Path c_.To).bind fun y3 =>
 some y3 else some false).bind fun x8 =>
 some x8).bind fun x7 =>
(if x7 then some true else (if !(decide (c_.Kind = 1)) then some (!(decide (c_.Kind = 2))) else some false).bind fun x10 =>
(if x10 then some (decide ((c_.Lines.length : Int) > 0)) else some false).bind fun x11 =>
 some x11).bind fun x9 =>
(if x9 then some true else (if decide (c_.Kind = 4) then some (decide ((c_.Patch.Hunks.length : Int) = 0)) else some false).bind fun x13 =>
 some x13).bind fun x12 =>
(if x12 then some true else (if !(decide (c_.Kind = 4)) then some (decide ((c_.Patch.Hunks.length : Int) > 0)) else some false).bind fun x15 =>
 some x15).bind fun x14 =>
 if x14 then
 some 5
 else
(changeforgeref1_LinesCode c_.Lines).bind fun y4 =>
 if !decide (y4 = 0) then
 some y4
 else
(changeforgeref1_PatchFault c_.Patch).bind fun y5 =>
 some y5.Code

noncomputable def changeforgeref2_Touches (c_ : TreeChange) (path : ByteArray) : Option Bool :=
(changeforgeref2_Related c_.Path path).bind fun y1 =>
(if y1 then some true else (if decide (c_.Kind = 3) then (changeforgeref2_Related c_.To path).bind fun y2 =>
 some y2 else some false).bind fun x2 =>
 some x2).bind fun x1 =>
 some x1

noncomputable def changeforgeref1_Pair.j1 (x1 : Int) (x2 : Int) : Option Fault :=
 some ({ Code := x1, Index := x2 } : Fault)

noncomputable def changeforgeref1_Pair (p_ : Patch) (q_ : Patch) : Option Fault :=
(changeforgeref1_PatchFault p_).bind fun y1 =>
(if decide (y1.Code = 0) then (changeforgeref1_PatchFault q_).bind fun y2 =>
 some (!decide (y2.Code = 0)) else some false).bind fun x3 =>
 if x3 then
(changeforgeref1_PatchFault q_).bind fun y3 =>
(changeforgeref1_At y3.Code (-2)).bind fun y4 =>
 changeforgeref1_Pair.j1 y4.Code y4.Index
 else
 changeforgeref1_Pair.j1 y1.Code y1.Index

noncomputable def changeforgeref1_Growth (h_ : Hunk) : Option Int :=
(ckK .i64 ((h_.New.length : Int) - (h_.Old.length : Int))).bind fun z1 =>
 some z1

noncomputable def changeforgeref1_news.j1 (p_ : Patch) (i_ : Int) (x1 : Int) : Option (Int × Int) :=
(at? p_.Hunks i_).bind fun y2 =>
(ckK .i64 (x1 + (y2.New.length : Int))).bind fun z1 =>
 some (x1, z1)

noncomputable def changeforgeref1_news.l1 (p_ : Patch) (i_ : Int) (x2 : Int) (x3 : Int) : Option (Step (Int × Int) Int) :=
 if decide (x2 < i_) then
(at? p_.Hunks x2).bind fun y3 =>
(changeforgeref1_Growth y3).bind fun y4 =>
(ckK .i64 (x3 + y4)).bind fun z2 =>
(ckK .i64 (x2 + 1)).bind fun z3 =>
 some (Step.next (z3, z2))
 else
 some (Step.done x3)

noncomputable def changeforgeref1_news (p_ : Patch) (i_ : Int) : Option (Int × Int) :=
(at? p_.Hunks i_).bind fun y1 =>
(iter (fun s => changeforgeref1_news.l1 p_ i_ s.1 s.2) (0, y1.At)).bind fun r1 =>
 changeforgeref1_news.j1 p_ i_ r1

noncomputable def changeforgeref1_moved (h_ : Hunk) (n_ : Int) : Option Hunk :=
(ckK .i64 (h_.At + n_)).bind fun z1 =>
 some ({ At := z1, Old := h_.Old, New := h_.New } : Hunk)

noncomputable def changeforgeref1_Commute.j2 (x1 : List Hunk) (x2 : List Hunk) : Option (Patch × Patch × Bool × Fault) :=
(changeforgeref1_PatchFault ({ Hunks := x1 } : Patch)).bind fun y2 =>
(if !decide (y2.Code = 0) then some true else (changeforgeref1_PatchFault ({ Hunks := x2 } : Patch)).bind fun y3 =>
 some (!decide (y3.Code = 0))).bind fun x3 =>
 if x3 then
(changeforgeref1_At 10 (-1)).bind fun y4 =>
 some (({ Hunks := [] } : Patch), ({ Hunks := [] } : Patch), false, y4)
 else
 some (({ Hunks := x1 } : Patch), ({ Hunks := x2 } : Patch), true, ({ Code := 0, Index := 0 } : Fault))

noncomputable def changeforgeref1_Commute.j3 (x4 : Int) (x7 : List Hunk) : Option (Step (Int × (List Hunk)) (List Hunk)) :=
(ckK .i64 (x4 + 1)).bind fun z1 =>
 some (Step.next (z1, x7))

noncomputable def changeforgeref1_Commute.j4 (p_ : Patch) (x4 : Int) (x5 : List Hunk) (x8 : Int) : Option (Step (Int × (List Hunk)) (List Hunk)) :=
(at? p_.Hunks x4).bind fun y5 =>
(changeforgeref1_moved y5 x8).bind fun y6 =>
(app? 56 x5 ([y6] : List Hunk)).bind fun y7 =>
 changeforgeref1_Commute.j3 x4 y7

noncomputable def changeforgeref1_Commute.j5 (x9 : Int) (x12 : Int) : Option (Step (Int × Int) Int) :=
(ckK .i64 (x9 + 1)).bind fun z2 =>
 some (Step.next (z2, x12))

noncomputable def changeforgeref1_Commute.l2 (p_ : Patch) (x1 : List Hunk) (x4 : Int) (x9 : Int) (x10 : Int) : Option (Step (Int × Int) Int) :=
 if decide (x9 < (x1.length : Int)) then
(at? x1 x9).bind fun y8 =>
(changeforgeref1_End y8).bind fun y9 =>
(at? p_.Hunks x4).bind fun y10 =>
 if decide (y9 < y10.At) then
(at? x1 x9).bind fun y11 =>
(changeforgeref1_Growth y11).bind fun y12 =>
(ckK .i64 (x10 + y12)).bind fun z3 =>
 changeforgeref1_Commute.j5 x9 z3
 else
 changeforgeref1_Commute.j5 x9 x10
 else
 some (Step.done x10)

noncomputable def changeforgeref1_Commute.l1 (p_ : Patch) (x1 : List Hunk) (x4 : Int) (x5 : List Hunk) : Option (Step (Int × (List Hunk)) (List Hunk)) :=
 if decide (x4 < (p_.Hunks.length : Int)) then
(iter (fun s => changeforgeref1_Commute.l2 p_ x1 x4 s.1 s.2) (0, 0)).bind fun r2 =>
 changeforgeref1_Commute.j4 p_ x4 x5 r2
 else
 some (Step.done x5)

noncomputable def changeforgeref1_Commute.j1 (p_ : Patch) (x1 : List Hunk) : Option (Patch × Patch × Bool × Fault) :=
(iter (fun s => changeforgeref1_Commute.l1 p_ x1 s.1 s.2) (0, [])).bind fun r1 =>
 changeforgeref1_Commute.j2 x1 r1

noncomputable def changeforgeref1_Commute.j6 (x13 : Int) (x16 : List Hunk) : Option (Step (Int × (List Hunk)) ((Patch × Patch × Bool × Fault) ⊕ (List Hunk))) :=
(ckK .i64 (x13 + 1)).bind fun z4 =>
 some (Step.next (z4, x16))

noncomputable def changeforgeref1_Commute.j7 (q_ : Patch) (x13 : Int) (x14 : List Hunk) (x17 : Int) : Option (Step (Int × (List Hunk)) ((Patch × Patch × Bool × Fault) ⊕ (List Hunk))) :=
(at? q_.Hunks x13).bind fun y13 =>
(changeforgeref1_moved y13 x17).bind fun y14 =>
(app? 56 x14 ([y14] : List Hunk)).bind fun y15 =>
 changeforgeref1_Commute.j6 x13 y15

noncomputable def changeforgeref1_Commute.j8 (x18 : Int) (x21 : Int) : Option (Step (Int × Int) ((Patch × Patch × Bool × Fault) ⊕ Int)) :=
(ckK .i64 (x18 + 1)).bind fun z5 =>
 some (Step.next (z5, x21))

noncomputable def changeforgeref1_Commute.l4 (p_ : Patch) (q_ : Patch) (x13 : Int) (x18 : Int) (x19 : Int) : Option (Step (Int × Int) ((Patch × Patch × Bool × Fault) ⊕ Int)) :=
 if decide (x18 < (p_.Hunks.length : Int)) then
(changeforgeref1_news p_ x18).bind fun y16 =>
(at? q_.Hunks x13).bind fun y17 =>
(if decide (y16.2 ≥ y17.At) then (at? q_.Hunks x13).bind fun y18 =>
(changeforgeref1_End y18).bind fun y19 =>
 some (decide (y19 ≥ y16.1)) else some false).bind fun x22 =>
 if x22 then
 some (Step.done (Sum.inl (({ Hunks := [] } : Patch), ({ Hunks := [] } : Patch), false, ({ Code := 0, Index := 0 } : Fault))))
 else
(at? q_.Hunks x13).bind fun y20 =>
 if decide (y16.2 < y20.At) then
(at? p_.Hunks x18).bind fun y21 =>
(changeforgeref1_Growth y21).bind fun y22 =>
(ckK .i64 (x19 - y22)).bind fun z6 =>
 changeforgeref1_Commute.j8 x18 z6
 else
 changeforgeref1_Commute.j8 x18 x19
 else
 some (Step.done (Sum.inr x19))

noncomputable def changeforgeref1_Commute.l3 (p_ : Patch) (q_ : Patch) (x13 : Int) (x14 : List Hunk) : Option (Step (Int × (List Hunk)) ((Patch × Patch × Bool × Fault) ⊕ (List Hunk))) :=
 if decide (x13 < (q_.Hunks.length : Int)) then
(iter (fun s => changeforgeref1_Commute.l4 p_ q_ x13 s.1 s.2) (0, 0)).bind fun r4 =>
(match r4 with
| .inl p => some (Step.done (Sum.inl p))
| .inr p => changeforgeref1_Commute.j7 q_ x13 x14 p)
 else
 some (Step.done (Sum.inr x14))

noncomputable def changeforgeref1_Commute (p_ : Patch) (q_ : Patch) : Option (Patch × Patch × Bool × Fault) :=
(changeforgeref1_Pair p_ q_).bind fun y1 =>
 if !decide (y1.Code = 0) then
 some (({ Hunks := [] } : Patch), ({ Hunks := [] } : Patch), false, y1)
 else
(iter (fun s => changeforgeref1_Commute.l3 p_ q_ s.1 s.2) (0, [])).bind fun r3 =>
(match r3 with
| .inl p => some p
| .inr p => changeforgeref1_Commute.j1 p_ p)

noncomputable def changeforgeref2_CommuteChanges (a_ : TreeChange) (b_ : TreeChange) : Option (TreeChange × TreeChange × Bool × Fault) :=
(changeforgeref2_ChangeCode a_).bind fun y1 =>
 if !decide (y1 = 0) then
(changeforgeref1_At y1 0).bind fun y2 =>
 some (({ Kind := 0, Path := ByteArray.empty, To := ByteArray.empty, Lines := [], Patch := ({ Hunks := [] } : Patch) } : TreeChange), ({ Kind := 0, Path := ByteArray.empty, To := ByteArray.empty, Lines := [], Patch := ({ Hunks := [] } : Patch) } : TreeChange), false, y2)
 else
(changeforgeref2_ChangeCode b_).bind fun y3 =>
 if !decide (y3 = 0) then
(changeforgeref1_At y3 1).bind fun y4 =>
 some (({ Kind := 0, Path := ByteArray.empty, To := ByteArray.empty, Lines := [], Patch := ({ Hunks := [] } : Patch) } : TreeChange), ({ Kind := 0, Path := ByteArray.empty, To := ByteArray.empty, Lines := [], Patch := ({ Hunks := [] } : Patch) } : TreeChange), false, y4)
 else
(changeforgeref2_Touches a_ b_.Path).bind fun y5 =>
(if !y5 then (if !decide (b_.Kind = 3) then some true else (changeforgeref2_Touches a_ b_.To).bind fun y6 =>
 some !y6).bind fun x2 =>
 some x2 else some false).bind fun x1 =>
 if x1 then
 some (b_, a_, true, ({ Code := 0, Index := 0 } : Fault))
 else
(if decide (a_.Kind = 4) then some (decide (b_.Kind = 4)) else some false).bind fun x3 =>
(if x3 then some (decide (a_.Path = b_.Path)) else some false).bind fun x4 =>
 if x4 then
(changeforgeref1_Commute a_.Patch b_.Patch).bind fun y7 =>
 if !decide (y7.2.2.2.Code = 0) then
(changeforgeref1_At y7.2.2.2.Code (-1)).bind fun y8 =>
 some (({ Kind := 0, Path := ByteArray.empty, To := ByteArray.empty, Lines := [], Patch := ({ Hunks := [] } : Patch) } : TreeChange), ({ Kind := 0, Path := ByteArray.empty, To := ByteArray.empty, Lines := [], Patch := ({ Hunks := [] } : Patch) } : TreeChange), false, y8)
 else
 if !y7.2.2.1 then
 some (({ Kind := 0, Path := ByteArray.empty, To := ByteArray.empty, Lines := [], Patch := ({ Hunks := [] } : Patch) } : TreeChange), ({ Kind := 0, Path := ByteArray.empty, To := ByteArray.empty, Lines := [], Patch := ({ Hunks := [] } : Patch) } : TreeChange), false, ({ Code := 0, Index := 0 } : Fault))
 else
 some (({ Kind := 4, Path := a_.Path, To := ByteArray.empty, Lines := [], Patch := y7.1 } : TreeChange), ({ Kind := 4, Path := a_.Path, To := ByteArray.empty, Lines := [], Patch := y7.2.1 } : TreeChange), true, ({ Code := 0, Index := 0 } : Fault))
 else
(if decide (a_.Kind = 3) then some (decide (b_.Kind = 4)) else some false).bind fun x5 =>
(if x5 then some (decide (a_.To = b_.Path)) else some false).bind fun x6 =>
 if x6 then
 some (({ Kind := 4, Path := a_.Path, To := ByteArray.empty, Lines := [], Patch := b_.Patch } : TreeChange), a_, true, ({ Code := 0, Index := 0 } : Fault))
 else
(if decide (a_.Kind = 4) then some (decide (b_.Kind = 3)) else some false).bind fun x7 =>
(if x7 then some (decide (a_.Path = b_.Path)) else some false).bind fun x8 =>
 if x8 then
 some (b_, ({ Kind := 4, Path := b_.To, To := ByteArray.empty, Lines := [], Patch := a_.Patch } : TreeChange), true, ({ Code := 0, Index := 0 } : Fault))
 else
 some (({ Kind := 0, Path := ByteArray.empty, To := ByteArray.empty, Lines := [], Patch := ({ Hunks := [] } : Patch) } : TreeChange), ({ Kind := 0, Path := ByteArray.empty, To := ByteArray.empty, Lines := [], Patch := ({ Hunks := [] } : Patch) } : TreeChange), false, ({ Code := 0, Index := 0 } : Fault))

noncomputable def changeforgeequal_Strings.j1 : Option Bool :=
 some true

noncomputable def changeforgeequal_Strings.l1 (a_ : (List ByteArray)) (b_ : (List ByteArray)) (x1 : Int) : Option (Step Int (Bool ⊕ Unit)) :=
 if decide (x1 < (a_.length : Int)) then
(at? a_ x1).bind fun y1 =>
(at? b_ x1).bind fun y2 =>
 if !decide (y1 = y2) then
 some (Step.done (Sum.inl false))
 else
(ckK .i64 (x1 + 1)).bind fun z1 =>
 some (Step.next z1)
 else
 some (Step.done (Sum.inr ()))

noncomputable def changeforgeequal_Strings (a_ : (List ByteArray)) (b_ : (List ByteArray)) : Option Bool :=
 if !decide ((a_.length : Int) = (b_.length : Int)) then
 some false
 else
(iter (fun s => changeforgeequal_Strings.l1 a_ b_ s) 0).bind fun r1 =>
(match r1 with
| .inl p => some p
| .inr _ => changeforgeequal_Strings.j1)

noncomputable def changeforgeequal_Patch.j1 : Option Bool :=
 some true

noncomputable def changeforgeequal_Patch.l1 (a_ : Patch) (b_ : Patch) (x1 : Int) : Option (Step Int (Bool ⊕ Unit)) :=
 if decide (x1 < (a_.Hunks.length : Int)) then
(at? a_.Hunks x1).bind fun y1 =>
(at? b_.Hunks x1).bind fun y2 =>
(if !decide (y1.At = y2.At) then some true else (at? a_.Hunks x1).bind fun y3 =>
(at? b_.Hunks x1).bind fun y4 =>
(changeforgeequal_Strings y3.Old y4.Old).bind fun y5 =>
 some !y5).bind fun x3 =>
(if x3 then some true else (at? a_.Hunks x1).bind fun y6 =>
(at? b_.Hunks x1).bind fun y7 =>
(changeforgeequal_Strings y6.New y7.New).bind fun y8 =>
 some !y8).bind fun x4 =>
 if x4 then
 some (Step.done (Sum.inl false))
 else
(ckK .i64 (x1 + 1)).bind fun z1 =>
 some (Step.next z1)
 else
 some (Step.done (Sum.inr ()))

noncomputable def changeforgeequal_Patch (a_ : Patch) (b_ : Patch) : Option Bool :=
 if !decide ((a_.Hunks.length : Int) = (b_.Hunks.length : Int)) then
 some false
 else
(iter (fun s => changeforgeequal_Patch.l1 a_ b_ s) 0).bind fun r1 =>
(match r1 with
| .inl p => some p
| .inr _ => changeforgeequal_Patch.j1)

noncomputable def changeforgeequal_Change (a_ : TreeChange) (b_ : TreeChange) : Option Bool :=
(if decide (a_.Kind = b_.Kind) then some (decide (a_.Path = b_.Path)) else some false).bind fun x1 =>
(if x1 then some (decide (a_.To = b_.To)) else some false).bind fun x2 =>
(if x2 then (changeforgeequal_Strings a_.Lines b_.Lines).bind fun y1 =>
 some y1 else some false).bind fun x3 =>
(if x3 then (changeforgeequal_Patch a_.Patch b_.Patch).bind fun y2 =>
 some y2 else some false).bind fun x4 =>
 some x4

noncomputable def changeforgelaw2_followed : Option Bool :=
(treecommute_Commute ({ Kind := 3, Path := (⟨#[98]⟩ : ByteArray), To := (⟨#[97]⟩ : ByteArray), Lines := [], Patch := ({ Hunks := [] } : Patch) } : TreeChange) ({ Kind := 4, Path := (⟨#[97]⟩ : ByteArray), To := ByteArray.empty, Lines := [], Patch := ({ Hunks := ([({ At := 0, Old := [], New := ([(⟨#[120]⟩ : ByteArray)] : List ByteArray) } : Hunk)] : List Hunk) } : Patch) } : TreeChange)).bind fun y1 =>
(if decide (y1.2.2.2.Code = 0) then some y1.2.2.1 else some false).bind fun x1 =>
(if x1 then (changeforgeequal_Change y1.1 ({ Kind := 4, Path := (⟨#[98]⟩ : ByteArray), To := ByteArray.empty, Lines := [], Patch := ({ Hunks := ([({ At := 0, Old := [], New := ([(⟨#[120]⟩ : ByteArray)] : List ByteArray) } : Hunk)] : List Hunk) } : Patch) } : TreeChange)).bind fun y2 =>
 some y2 else some false).bind fun x2 =>
(if x2 then (changeforgeequal_Change y1.2.1 ({ Kind := 3, Path := (⟨#[98]⟩ : ByteArray), To := (⟨#[97]⟩ : ByteArray), Lines := [], Patch := ({ Hunks := [] } : Patch) } : TreeChange)).bind fun y3 =>
 some y3 else some false).bind fun x3 =>
 some x3

noncomputable def changeforgelaw2_TreecommuteMatchesSpec (a_ : TreeChange) (b_ : TreeChange) : Option Bool :=
(treecommute_Commute a_ b_).bind fun y1 =>
(changeforgeref2_CommuteChanges a_ b_).bind fun y2 =>
(changeforgeequal_Change y1.1 y2.1).bind fun y3 =>
(if y3 then (changeforgeequal_Change y1.2.1 y2.2.1).bind fun y4 =>
 some y4 else some false).bind fun x1 =>
(if x1 then some (decide (y1.2.2.1 = y2.2.2.1)) else some false).bind fun x2 =>
(if x2 then some (decide (y1.2.2.2.Code = y2.2.2.2.Code) && decide (y1.2.2.2.Index = y2.2.2.2.Index)) else some false).bind fun x3 =>
(if x3 then (changeforgelaw2_followed).bind fun y5 =>
 some y5 else some false).bind fun x4 =>
 some x4

noncomputable def changeforgelaw2_TreecommuteTwice (a_ : TreeChange) (b_ : TreeChange) : Option Bool :=
(treecommute_Commute a_ b_).bind fun y1 =>
(if !decide (y1.2.2.2.Code = 0) then some true else some !y1.2.2.1).bind fun x1 =>
 if x1 then
(changeforgelaw2_followed).bind fun y2 =>
 some y2
 else
(treecommute_Commute y1.1 y1.2.1).bind fun y3 =>
(if decide (y3.2.2.2.Code = 0) then some y3.2.2.1 else some false).bind fun x2 =>
(if x2 then (changeforgeequal_Change y3.1 a_).bind fun y4 =>
 some y4 else some false).bind fun x3 =>
(if x3 then (changeforgeequal_Change y3.2.1 b_).bind fun y5 =>
 some y5 else some false).bind fun x4 =>
(if x4 then (changeforgelaw2_followed).bind fun y6 =>
 some y6 else some false).bind fun x5 =>
 some x5

noncomputable def lines_Second (b_ : (List ByteArray)) (index : Int) : Option Fault :=
(lines_Validate b_).bind fun y1 =>
 if !(decide (y1.Code = 0) && decide (y1.Index = 0)) then
 some ({ Code := y1.Code, Index := index } : Fault)
 else
 some ({ Code := 0, Index := 0 } : Fault)

noncomputable def slices_Equal.j1 : Option Bool :=
 some true

noncomputable def slices_Equal.l1 (s1_ : (List ByteArray)) (s2_ : (List ByteArray)) (x1 : Int) : Option (Step Int (Bool ⊕ Unit)) :=
 if decide (x1 < (s1_.length : Int)) then
(at? s1_ x1).bind fun y1 =>
(at? s2_ x1).bind fun y2 =>
 if !decide (y1 = y2) then
 some (Step.done (Sum.inl false))
 else
(ckK .i64 (x1 + 1)).bind fun z1 =>
 some (Step.next z1)
 else
 some (Step.done (Sum.inr ()))

noncomputable def slices_Equal (s1_ : (List ByteArray)) (s2_ : (List ByteArray)) : Option Bool :=
 if !decide ((s1_.length : Int) = (s2_.length : Int)) then
 some false
 else
(iter (fun s => slices_Equal.l1 s1_ s2_ s) 0).bind fun r1 =>
(match r1 with
| .inl p => some p
| .inr _ => slices_Equal.j1)

noncomputable def lines_Occurs (text : (List ByteArray)) (part : (List ByteArray)) (at_ : Int) : Option Bool :=
(if decide (at_ ≥ 0) then some (decide (at_ ≤ (text.length : Int))) else some false).bind fun x1 =>
(if x1 then (ckK .i64 ((text.length : Int) - at_)).bind fun z1 =>
 some (decide ((part.length : Int) ≤ z1)) else some false).bind fun x2 =>
(if x2 then (ckK .i64 (at_ + (part.length : Int))).bind fun z2 =>
(cut? text at_ z2).bind fun y1 =>
(slices_Equal y1 part).bind fun y2 =>
 some y2 else some false).bind fun x3 =>
 some x3

noncomputable def textpatch_Raw.j1 (text : (List ByteArray)) (high : Int) (x1 : List ByteArray) (x2 : Int) : Option (List ByteArray) :=
(cut? text x2 high).bind fun y1 =>
(app? 16 x1 y1).bind fun y2 =>
 some y2

noncomputable def textpatch_Raw.l1 (hunks : (List Hunk)) (text : (List ByteArray)) (x3 : Int) (x4 : List ByteArray) (x5 : Int) : Option (Step (Int × (List ByteArray) × Int) ((List ByteArray) × Int)) :=
 if decide (x3 < (hunks.length : Int)) then
(at? hunks x3).bind fun y3 =>
(cut? text x5 y3.At).bind fun y4 =>
(app? 16 x4 y4).bind fun y5 =>
(app? 16 y5 y3.New).bind fun y6 =>
(textpatch_End y3).bind fun y7 =>
(ckK .i64 (x3 + 1)).bind fun z1 =>
 some (Step.next (z1, y6, y7))
 else
 some (Step.done (x4, x5))

noncomputable def textpatch_Raw (hunks : (List Hunk)) (text : (List ByteArray)) (low : Int) (high : Int) : Option (List ByteArray) :=
(iter (fun s => textpatch_Raw.l1 hunks text s.1 s.2.1 s.2.2) (0, [], low)).bind fun r1 =>
 textpatch_Raw.j1 text high r1.1 r1.2

noncomputable def textpatch_Apply.j1 (p_ : Patch) (text : (List ByteArray)) : Option ((List ByteArray) × Fault) :=
(textpatch_Raw p_.Hunks text 0 (text.length : Int)).bind fun y3 =>
 if decide ((y3.length : Int) > 120) then
 some ([], ({ Code := 10, Index := (-1) } : Fault))
 else
 some (y3, ({ Code := 0, Index := 0 } : Fault))

noncomputable def textpatch_Apply.l1 (p_ : Patch) (text : (List ByteArray)) (x1 : Int) : Option (Step Int (((List ByteArray) × Fault) ⊕ Unit)) :=
 if decide (x1 < (p_.Hunks.length : Int)) then
(at? p_.Hunks x1).bind fun y4 =>
(lines_Occurs text y4.Old y4.At).bind fun y5 =>
 if !y5 then
 some (Step.done (Sum.inl ([], ({ Code := 19, Index := x1 } : Fault))))
 else
(ckK .i64 (x1 + 1)).bind fun z1 =>
 some (Step.next z1)
 else
 some (Step.done (Sum.inr ()))

noncomputable def textpatch_Apply (p_ : Patch) (text : (List ByteArray)) : Option ((List ByteArray) × Fault) :=
(textpatch_Validate p_).bind fun y1 =>
 if !(decide (y1.Code = 0) && decide (y1.Index = 0)) then
 some ([], y1)
 else
(lines_Second text (-2)).bind fun y2 =>
 if !(decide (y2.Code = 0) && decide (y2.Index = 0)) then
 some ([], y2)
 else
(iter (fun s => textpatch_Apply.l1 p_ text s) 0).bind fun r1 =>
(match r1 with
| .inl p => some p
| .inr _ => textpatch_Apply.j1 p_ text)

noncomputable def lines_Both (a_ : (List ByteArray)) (b_ : (List ByteArray)) : Option Fault :=
(lines_Validate a_).bind fun y1 =>
 if !(decide (y1.Code = 0) && decide (y1.Index = 0)) then
 some y1
 else
(lines_Second b_ (-2)).bind fun y2 =>
 some y2

noncomputable def diff_Align_s1 (i_ : Int) (j : Int) (u2 : (List Int)) (u3 : Int) : Option Int :=
(ckK .i64 (i_ * u3)).bind fun z1 =>
(ckK .i64 (z1 + j)).bind fun z2 =>
(at? u2 z2).bind fun y1 =>
 some y1

noncomputable def diff_Align.j2 (x2 : List Int) : Option (List Int) :=
 some x2

noncomputable def diff_Align.l1 (a_ : (List ByteArray)) (b_ : (List ByteArray)) (z1 : Int) (x1 : List Int) (x3 : Int) (x4 : Int) (x5 : List Int) : Option (Step (Int × Int × (List Int)) (List Int)) :=
(if decide (x4 < (a_.length : Int)) then some true else some (decide (x3 < (b_.length : Int)))).bind fun x7 =>
 if x7 then
(if decide (x4 < (a_.length : Int)) then some (decide (x3 < (b_.length : Int))) else some false).bind fun x8 =>
(if x8 then (at? a_ x4).bind fun y2 =>
(at? b_ x3).bind fun y3 =>
 some (decide (y2 = y3)) else some false).bind fun x9 =>
 if x9 then
(app? 8 x5 ([0] : List Int)).bind fun y4 =>
(ckK .i64 (x4 + 1)).bind fun z4 =>
(ckK .i64 (x3 + 1)).bind fun z5 =>
 some (Step.next (z5, z4, y4))
 else
(if decide (x3 = (b_.length : Int)) then some true else (if decide (x4 < (a_.length : Int)) then (ckK .i64 (x4 + 1)).bind fun z6 =>
(diff_Align_s1 z6 x3 x1 z1).bind fun y5 =>
(ckK .i64 (x3 + 1)).bind fun z7 =>
(diff_Align_s1 x4 z7 x1 z1).bind fun y6 =>
 some (decide (y5 ≥ y6)) else some false).bind fun x11 =>
 some x11).bind fun x10 =>
 if x10 then
(app? 8 x5 ([1] : List Int)).bind fun y7 =>
(ckK .i64 (x4 + 1)).bind fun z8 =>
 some (Step.next (x3, z8, y7))
 else
(app? 8 x5 ([2] : List Int)).bind fun y8 =>
(ckK .i64 (x3 + 1)).bind fun z9 =>
 some (Step.next (z9, x4, y8))
 else
 some (Step.done x5)

noncomputable def diff_Align.j1 (a_ : (List ByteArray)) (b_ : (List ByteArray)) (z1 : Int) (x1 : List Int) : Option (List Int) :=
(iter (fun s => diff_Align.l1 a_ b_ z1 x1 s.1 s.2.1 s.2.2) (0, 0, [])).bind fun r1 =>
 diff_Align.j2 r1

noncomputable def diff_Align.j3 (x12 : Int) (x15 : List Int) : Option (Step (Int × (List Int)) (List Int)) :=
(ckK .i64 (x12 - 1)).bind fun z11 =>
 some (Step.next (z11, x15))

noncomputable def diff_Align.j4 (x12 : Int) (x16 : List Int) : Option (Step (Int × (List Int)) (List Int)) :=
 diff_Align.j3 x12 x16

noncomputable def diff_Align.j5 (z1 : Int) (x12 : Int) (x17 : Int) (x18 : List Int) (x20 : Int) : Option (Step (Int × (List Int)) (List Int)) :=
(ckK .i64 (x12 * z1)).bind fun z15 =>
(ckK .i64 (z15 + x17)).bind fun z16 =>
(at? x18 z16).bind fun y11 =>
(some (x18.set z16.toNat x20)).bind fun y12 =>
(ckK .i64 (x17 - 1)).bind fun z17 =>
 some (Step.next (z17, y12))

noncomputable def diff_Align.l3 (a_ : (List ByteArray)) (b_ : (List ByteArray)) (z1 : Int) (x12 : Int) (x17 : Int) (x18 : List Int) : Option (Step (Int × (List Int)) (List Int)) :=
 if decide (x17 ≥ 0) then
(ckK .i64 (x12 + 1)).bind fun z13 =>
(diff_Align_s1 z13 x17 x18 z1).bind fun y9 =>
(ckK .i64 (x17 + 1)).bind fun z14 =>
(diff_Align_s1 x12 z14 x18 z1).bind fun y10 =>
(at? a_ x12).bind fun y13 =>
(at? b_ x17).bind fun y14 =>
 if decide (y13 = y14) then
(ckK .i64 (x12 + 1)).bind fun z18 =>
(ckK .i64 (x17 + 1)).bind fun z19 =>
(diff_Align_s1 z18 z19 x18 z1).bind fun y15 =>
(ckK .i64 (y15 + 1)).bind fun z20 =>
 diff_Align.j5 z1 x12 x17 x18 z20
 else
 diff_Align.j5 z1 x12 x17 x18 (max y9 y10)
 else
 some (Step.done x18)

noncomputable def diff_Align.l2 (a_ : (List ByteArray)) (b_ : (List ByteArray)) (z1 : Int) (x12 : Int) (x13 : List Int) : Option (Step (Int × (List Int)) (List Int)) :=
 if decide (x12 ≥ 0) then
(ckK .i64 ((b_.length : Int) - 1)).bind fun z12 =>
(iter (fun s => diff_Align.l3 a_ b_ z1 x12 s.1 s.2) (z12, x13)).bind fun r3 =>
 diff_Align.j4 x12 r3
 else
 some (Step.done x13)

noncomputable def diff_Align (a_ : (List ByteArray)) (b_ : (List ByteArray)) : Option (List Int) :=
(ckK .i64 ((b_.length : Int) + 1)).bind fun z1 =>
(ckK .i64 ((a_.length : Int) + 1)).bind fun z2 =>
(ckK .i64 (z2 * z1)).bind fun z3 =>
(mk? 8 z3 (0 : Int)).bind fun y1 =>
(ckK .i64 ((a_.length : Int) - 1)).bind fun z10 =>
(iter (fun s => diff_Align.l2 a_ b_ z1 s.1 s.2) (z10, y1)).bind fun r2 =>
 diff_Align.j1 a_ b_ z1 r2

noncomputable def diff_Distance.j1 (x1 : Int) : Option (Int × Fault) :=
 some (x1, ({ Code := 0, Index := 0 } : Fault))

noncomputable def diff_Distance.j2 (x2 : Int) (x5 : Int) : Option (Step (Int × Int) Int) :=
(ckK .i64 (x2 + 1)).bind fun z1 =>
 some (Step.next (z1, x5))

noncomputable def diff_Distance.l1 (y2 : (List Int)) (x2 : Int) (x3 : Int) : Option (Step (Int × Int) Int) :=
 if decide (x2 < (y2.length : Int)) then
(at? y2 x2).bind fun y3 =>
 if !decide (y3 = 0) then
(ckK .i64 (x3 + 1)).bind fun z2 =>
 diff_Distance.j2 x2 z2
 else
 diff_Distance.j2 x2 x3
 else
 some (Step.done x3)

noncomputable def diff_Distance (a_ : (List ByteArray)) (b_ : (List ByteArray)) : Option (Int × Fault) :=
(lines_Both a_ b_).bind fun y1 =>
 if !(decide (y1.Code = 0) && decide (y1.Index = 0)) then
 some (0, y1)
 else
(diff_Align a_ b_).bind fun y2 =>
(iter (fun s => diff_Distance.l1 y2 s.1 s.2) (0, 0)).bind fun r1 =>
 diff_Distance.j1 r1

noncomputable def changeforgelaw2_TreecommuteDistance (path : ByteArray) (base : (List ByteArray)) (p_ : Patch) (q_ : Patch) : Option Bool :=
(treecommute_Commute ({ Kind := 4, Path := path, To := ByteArray.empty, Lines := [], Patch := p_ } : TreeChange) ({ Kind := 4, Path := path, To := ByteArray.empty, Lines := [], Patch := q_ } : TreeChange)).bind fun y1 =>
(if !decide (y1.2.2.2.Code = 0) then some true else some !y1.2.2.1).bind fun x1 =>
 if x1 then
(changeforgelaw2_followed).bind fun y2 =>
 some y2
 else
(textpatch_Apply p_ base).bind fun y3 =>
(textpatch_Apply q_ y3.1).bind fun y4 =>
(textpatch_Apply y1.1.Patch base).bind fun y5 =>
(textpatch_Apply y1.2.1.Patch y5.1).bind fun y6 =>
(if !decide (y3.2.Code = 0) then some true else some (!decide (y4.2.Code = 0))).bind fun x2 =>
(if x2 then some true else some (!decide (y5.2.Code = 0))).bind fun x3 =>
(if x3 then some true else some (!decide (y6.2.Code = 0))).bind fun x4 =>
 if x4 then
(if !decide (y3.2.Code = 0) then some true else some (!decide (y4.2.Code = 0))).bind fun x5 =>
(if x5 then some true else some (decide (y5.2.Code = 10))).bind fun x6 =>
(if x6 then some true else some (decide (y6.2.Code = 10))).bind fun x7 =>
(if x7 then (changeforgelaw2_followed).bind fun y7 =>
 some y7 else some false).bind fun x8 =>
 some x8
 else
(diff_Distance y4.1 y6.1).bind fun y8 =>
(if decide (y8.2.Code = 0) then some (decide (y8.1 = 0)) else some false).bind fun x9 =>
(if x9 then (changeforgelaw2_followed).bind fun y9 =>
 some y9 else some false).bind fun x10 =>
 some x10

noncomputable def treepatch_Clash.j1 : Option Bool :=
 some false

noncomputable def treepatch_Clash.l1 (files : (List File)) (path : ByteArray) (except : Int) (x1 : Int) : Option (Step Int (Bool ⊕ Unit)) :=
 if decide (x1 < (files.length : Int)) then
(at? files x1).bind fun y1 =>
(if !decide (x1 = except) then (treepatch_Related y1.Path path).bind fun y2 =>
 some y2 else some false).bind fun x3 =>
 if x3 then
 some (Step.done (Sum.inl true))
 else
(ckK .i64 (x1 + 1)).bind fun z1 =>
 some (Step.next z1)
 else
 some (Step.done (Sum.inr ()))

noncomputable def treepatch_Clash (files : (List File)) (path : ByteArray) (except : Int) : Option Bool :=
(iter (fun s => treepatch_Clash.l1 files path except s) 0).bind fun r1 =>
(match r1 with
| .inl p => some p
| .inr _ => treepatch_Clash.j1)

noncomputable def treepatch_Validate.j1 : Option Fault :=
 some ({ Code := 0, Index := 0 } : Fault)

noncomputable def treepatch_Validate.l1 (t_ : FileTree) (x1 : Int) : Option (Step Int (Fault ⊕ Unit)) :=
 if decide (x1 < (t_.Files.length : Int)) then
(at? t_.Files x1).bind fun y1 =>
(treepatch_ValidPath y1.Path).bind fun y2 =>
 if !y2 then
 some (Step.done (Sum.inl ({ Code := 12, Index := x1 } : Fault)))
 else
(if decide (x1 > 0) then (ckK .i64 (x1 - 1)).bind fun z1 =>
(at? t_.Files z1).bind fun y3 =>
 some (sLt y1.Path y3.Path || decide (y1.Path = y3.Path)) else some false).bind fun x3 =>
 if x3 then
 some (Step.done (Sum.inl ({ Code := 5, Index := x1 } : Fault)))
 else
(cut? t_.Files 0 x1).bind fun y4 =>
(treepatch_Clash y4 y1.Path (-1)).bind fun y5 =>
 if y5 then
 some (Step.done (Sum.inl ({ Code := 7, Index := x1 } : Fault)))
 else
(lines_Second y1.Lines x1).bind fun y6 =>
 if !(decide (y6.Code = 0) && decide (y6.Index = 0)) then
 some (Step.done (Sum.inl y6))
 else
(ckK .i64 (x1 + 1)).bind fun z2 =>
 some (Step.next z2)
 else
 some (Step.done (Sum.inr ()))

noncomputable def treepatch_Validate (t_ : FileTree) : Option Fault :=
 if decide ((t_.Files.length : Int) > 24) then
 some ({ Code := 2, Index := (-1) } : Fault)
 else
(iter (fun s => treepatch_Validate.l1 t_ s) 0).bind fun r1 =>
(match r1 with
| .inl p => some p
| .inr _ => treepatch_Validate.j1)

noncomputable def treepatch_Second (t_ : FileTree) (index : Int) : Option Fault :=
(treepatch_Validate t_).bind fun y1 =>
 if !(decide (y1.Code = 0) && decide (y1.Index = 0)) then
 some ({ Code := y1.Code, Index := index } : Fault)
 else
 some ({ Code := 0, Index := 0 } : Fault)

noncomputable def treepatch_CopyTree.j1 (x1 : List File) : Option FileTree :=
 some ({ Files := x1 } : FileTree)

noncomputable def treepatch_CopyTree.l1 (t_ : FileTree) (x2 : Int) (x3 : List File) : Option (Step (Int × (List File)) (List File)) :=
 if decide (x2 < (t_.Files.length : Int)) then
(at? t_.Files x2).bind fun y1 =>
(slices_Clone y1.Lines).bind fun y2 =>
(app? 40 x3 ([({ Path := y1.Path, Lines := y2 } : File)] : List File)).bind fun y3 =>
(ckK .i64 (x2 + 1)).bind fun z1 =>
 some (Step.next (z1, y3))
 else
 some (Step.done x3)

noncomputable def treepatch_CopyTree (t_ : FileTree) : Option FileTree :=
(iter (fun s => treepatch_CopyTree.l1 t_ s.1 s.2) (0, [])).bind fun r1 =>
 treepatch_CopyTree.j1 r1

noncomputable def bytealg_CompareString (a_ : ByteArray) (b_ : ByteArray) : Option Int :=
 some (cmpB a_ b_)

noncomputable def strings_Compare (a_ : ByteArray) (b_ : ByteArray) : Option Int :=
(bytealg_CompareString a_ b_).bind fun y1 =>
 some y1

noncomputable def treepatch_Find_s1 (f : File) (path : ByteArray) : Option Int :=
(strings_Compare f.Path path).bind fun y1 =>
 some y1

noncomputable def treepatch_Find.j1 (files : (List File)) (path : ByteArray) (x1 : Int) : Option (Int × Bool) :=
(if decide (x1 < (files.length : Int)) then (at? files x1).bind fun y1 =>
(treepatch_Find_s1 y1 path).bind fun y2 =>
 some (decide (y2 = 0)) else some false).bind fun x2 =>
 some (x1, x2)

noncomputable def treepatch_Find.l1 (files : (List File)) (path : ByteArray) (x3 : Int) (x4 : Int) : Option (Step (Int × Int) Int) :=
 if decide (x4 < x3) then
(ckK .i64 (x4 + x3)).bind fun z1 =>
(ckK .u64 z1).bind fun z2 =>
(shr? .u64 z2 1).bind fun z3 =>
(ckK .i64 z3).bind fun z4 =>
(at? files z4).bind fun y3 =>
(treepatch_Find_s1 y3 path).bind fun y4 =>
 if decide (y4 < 0) then
(ckK .i64 (z4 + 1)).bind fun z5 =>
 some (Step.next (x3, z5))
 else
 some (Step.next (z4, x4))
 else
 some (Step.done x4)

noncomputable def treepatch_Find (files : (List File)) (path : ByteArray) : Option (Int × Bool) :=
(iter (fun s => treepatch_Find.l1 files path s.1 s.2) ((files.length : Int), 0)).bind fun r1 =>
 treepatch_Find.j1 files path r1

noncomputable def treepatch_Put.j1 (l_ : (List ByteArray)) (y1 : Int × Bool) (x1 : List File) : Option FileTree :=
(slices_Clone l_).bind fun y2 =>
(at? x1 y1.1).bind fun y3 =>
(some (x1.set y1.1.toNat ({ Path := y3.Path, Lines := y2 } : File))).bind fun y4 =>
 some ({ Files := y4 } : FileTree)

noncomputable def treepatch_Put (t_ : FileTree) (path : ByteArray) (l_ : (List ByteArray)) : Option FileTree :=
(treepatch_Find t_.Files path).bind fun y1 =>
 if !y1.2 then
(ins? 40 t_.Files y1.1 ([({ Path := path, Lines := [] } : File)] : List File)).bind fun y5 =>
 treepatch_Put.j1 l_ y1 y5
 else
 treepatch_Put.j1 l_ y1 t_.Files

noncomputable def treepatch_make1.j1 (x1 : List File) : Option (Int × FileTree) :=
 some (0, ({ Files := x1 } : FileTree))

noncomputable def treepatch_make1 (c_ : TreeChange) (t_ : FileTree) : Option (Int × FileTree) :=
(treepatch_Find t_.Files c_.Path).bind fun y1 =>
 if decide (c_.Kind = 1) then
(treepatch_Clash t_.Files c_.Path (-1)).bind fun y2 =>
 if y2 then
 some (7, t_)
 else
 if decide ((t_.Files.length : Int) ≥ 24) then
 some (14, t_)
 else
(treepatch_Put t_ c_.Path c_.Lines).bind fun y3 =>
 some (0, y3)
 else
 if !y1.2 then
 some (6, t_)
 else
(at? t_.Files y1.1).bind fun y4 =>
 if decide (c_.Kind = 2) then
(slices_Equal y4.Lines c_.Lines).bind fun y5 =>
 if !y5 then
 some (19, t_)
 else
(ckK .i64 (y1.1 + 1)).bind fun z1 =>
(del? t_.Files y1.1 z1).bind fun y6 =>
 treepatch_make1.j1 y6
 else
 if decide (c_.Kind = 3) then
(treepatch_Clash t_.Files c_.To y1.1).bind fun y7 =>
 if y7 then
 some (7, t_)
 else
(ckK .i64 (y1.1 + 1)).bind fun z2 =>
(del? t_.Files y1.1 z2).bind fun y8 =>
(treepatch_Put ({ Files := y8 } : FileTree) c_.To y4.Lines).bind fun y9 =>
 treepatch_make1.j1 y9.Files
 else
(textpatch_Apply c_.Patch y4.Lines).bind fun y10 =>
 if !(decide (y10.2.Code = 0) && decide (y10.2.Index = 0)) then
 some (y10.2.Code, t_)
 else
(at? t_.Files y1.1).bind fun y11 =>
(some (t_.Files.set y1.1.toNat ({ Path := y11.Path, Lines := y10.1 } : File))).bind fun y12 =>
 treepatch_make1.j1 y12

noncomputable def treepatch_Apply.j1 (x1 : List File) : Option (FileTree × Fault) :=
 some (({ Files := x1 } : FileTree), ({ Code := 0, Index := 0 } : Fault))

noncomputable def treepatch_Apply.l1 (p_ : TreePatch) (x2 : Int) (x3 : List File) : Option (Step (Int × (List File)) ((FileTree × Fault) ⊕ (List File))) :=
 if decide (x2 < (p_.Changes.length : Int)) then
(at? p_.Changes x2).bind fun y4 =>
(treepatch_make1 y4 ({ Files := x3 } : FileTree)).bind fun y5 =>
 if !decide (y5.1 = 0) then
 some (Step.done (Sum.inl (({ Files := [] } : FileTree), ({ Code := y5.1, Index := x2 } : Fault))))
 else
(ckK .i64 (x2 + 1)).bind fun z1 =>
 some (Step.next (z1, y5.2.Files))
 else
 some (Step.done (Sum.inr x3))

noncomputable def treepatch_Apply (p_ : TreePatch) (t_ : FileTree) : Option (FileTree × Fault) :=
(treepatch_ValidatePatch p_).bind fun y1 =>
 if !(decide (y1.Code = 0) && decide (y1.Index = 0)) then
 some (({ Files := [] } : FileTree), y1)
 else
(treepatch_Second t_ (-2)).bind fun y2 =>
 if !(decide (y2.Code = 0) && decide (y2.Index = 0)) then
 some (({ Files := [] } : FileTree), y2)
 else
(treepatch_CopyTree t_).bind fun y3 =>
(iter (fun s => treepatch_Apply.l1 p_ s.1 s.2) (0, y3.Files)).bind fun r1 =>
(match r1 with
| .inl p => some p
| .inr p => treepatch_Apply.j1 p)

noncomputable def changeforgeref2_TreeFault.j1 : Option Fault :=
 some ({ Code := 0, Index := 0 } : Fault)

noncomputable def changeforgeref2_TreeFault.j2 (x1 : Int) : Option (Step Int (Fault ⊕ Unit)) :=
(ckK .i64 (x1 + 1)).bind fun z1 =>
 some (Step.next z1)

noncomputable def changeforgeref2_TreeFault.j3 (x1 : Int) (y2 : File) : Option (Step Int (Fault ⊕ Unit)) :=
(changeforgeref1_LinesCode y2.Lines).bind fun y7 =>
 if !decide (y7 = 0) then
(changeforgeref1_At y7 x1).bind fun y8 =>
 some (Step.done (Sum.inl y8))
 else
 changeforgeref2_TreeFault.j2 x1

noncomputable def changeforgeref2_TreeFault.l2 (t_ : FileTree) (x1 : Int) (y2 : File) (x4 : Int) : Option (Step Int (Fault ⊕ Unit)) :=
 if decide (x4 < x1) then
(at? t_.Files x4).bind fun y9 =>
(changeforgeref2_Related y9.Path y2.Path).bind fun y10 =>
 if y10 then
(changeforgeref1_At 7 x1).bind fun y11 =>
 some (Step.done (Sum.inl y11))
 else
(ckK .i64 (x4 + 1)).bind fun z3 =>
 some (Step.next z3)
 else
 some (Step.done (Sum.inr ()))

noncomputable def changeforgeref2_TreeFault.l1 (t_ : FileTree) (x1 : Int) : Option (Step Int (Fault ⊕ Unit)) :=
 if decide (x1 < (t_.Files.length : Int)) then
(at? t_.Files x1).bind fun y2 =>
(changeforgeref2_PathValid y2.Path).bind fun y3 =>
 if !y3 then
(changeforgeref1_At 12 x1).bind fun y4 =>
 some (Step.done (Sum.inl y4))
 else
(if decide (x1 > 0) then (ckK .i64 (x1 - 1)).bind fun z2 =>
(at? t_.Files z2).bind fun y5 =>
 some (sLt y2.Path y5.Path || decide (y2.Path = y5.Path)) else some false).bind fun x3 =>
 if x3 then
(changeforgeref1_At 5 x1).bind fun y6 =>
 some (Step.done (Sum.inl y6))
 else
(iter (fun s => changeforgeref2_TreeFault.l2 t_ x1 y2 s) 0).bind fun r2 =>
(match r2 with
| .inl p => some (Step.done (Sum.inl p))
| .inr _ => changeforgeref2_TreeFault.j3 x1 y2)
 else
 some (Step.done (Sum.inr ()))

noncomputable def changeforgeref2_TreeFault (t_ : FileTree) : Option Fault :=
 if decide ((t_.Files.length : Int) > 24) then
(changeforgeref1_At 2 (-1)).bind fun y1 =>
 some y1
 else
(iter (fun s => changeforgeref2_TreeFault.l1 t_ s) 0).bind fun r1 =>
(match r1 with
| .inl p => some p
| .inr _ => changeforgeref2_TreeFault.j1)

noncomputable def changeforgeref2_TreePatchFault.j1 : Option Fault :=
 some ({ Code := 0, Index := 0 } : Fault)

noncomputable def changeforgeref2_TreePatchFault.l1 (p_ : TreePatch) (x1 : Int) : Option (Step Int (Fault ⊕ Unit)) :=
 if decide (x1 < (p_.Changes.length : Int)) then
(at? p_.Changes x1).bind fun y2 =>
(changeforgeref2_ChangeCode y2).bind fun y3 =>
 if !decide (y3 = 0) then
(changeforgeref1_At y3 x1).bind fun y4 =>
 some (Step.done (Sum.inl y4))
 else
(ckK .i64 (x1 + 1)).bind fun z1 =>
 some (Step.next z1)
 else
 some (Step.done (Sum.inr ()))

noncomputable def changeforgeref2_TreePatchFault (p_ : TreePatch) : Option Fault :=
 if decide ((p_.Changes.length : Int) > 30) then
(changeforgeref1_At 2 (-1)).bind fun y1 =>
 some y1
 else
(iter (fun s => changeforgeref2_TreePatchFault.l1 p_ s) 0).bind fun r1 =>
(match r1 with
| .inl p => some p
| .inr _ => changeforgeref2_TreePatchFault.j1)

noncomputable def changeforgeref2_Ordered.j1 (x1 : List File) : Option FileTree :=
 some ({ Files := x1 } : FileTree)

noncomputable def changeforgeref2_Ordered.j2 (x2 : Int) (x5 : List File) : Option (Step (Int × (List File)) (List File)) :=
(ckK .i64 (x2 + 1)).bind fun z1 =>
 some (Step.next (z1, x5))

noncomputable def changeforgeref2_Ordered.j3 (l_ : (List File)) (x2 : Int) (x6 : Int) (x7 : List File) : Option (Step (Int × (List File)) (List File)) :=
(at? l_ x2).bind fun y3 =>
(at? x7 x6).bind fun y4 =>
(some (x7.set x6.toNat y3)).bind fun y5 =>
 changeforgeref2_Ordered.j2 x2 y5

noncomputable def changeforgeref2_Ordered.l2 (l_ : (List File)) (x2 : Int) (x8 : Int) (x9 : List File) : Option (Step (Int × (List File)) (Int × (List File))) :=
(if decide (x8 > 0) then (at? l_ x2).bind fun y6 =>
(ckK .i64 (x8 - 1)).bind fun z2 =>
(at? x9 z2).bind fun y7 =>
 some (sLt y6.Path y7.Path) else some false).bind fun x11 =>
 if x11 then
(ckK .i64 (x8 - 1)).bind fun z3 =>
(at? x9 z3).bind fun y8 =>
(at? x9 x8).bind fun y9 =>
(some (x9.set x8.toNat y8)).bind fun y10 =>
(ckK .i64 (x8 - 1)).bind fun z4 =>
 some (Step.next (z4, y10))
 else
 some (Step.done (x8, x9))

noncomputable def changeforgeref2_Ordered.l1 (l_ : (List File)) (x2 : Int) (x3 : List File) : Option (Step (Int × (List File)) (List File)) :=
 if decide (x2 < (l_.length : Int)) then
(at? l_ x2).bind fun y1 =>
(app? 40 x3 ([y1] : List File)).bind fun y2 =>
(iter (fun s => changeforgeref2_Ordered.l2 l_ x2 s.1 s.2) ((x3.length : Int), y2)).bind fun r2 =>
 changeforgeref2_Ordered.j3 l_ x2 r2.1 r2.2
 else
 some (Step.done x3)

noncomputable def changeforgeref2_Ordered (l_ : (List File)) : Option FileTree :=
(iter (fun s => changeforgeref2_Ordered.l1 l_ s.1 s.2) (0, [])).bind fun r1 =>
 changeforgeref2_Ordered.j1 r1

noncomputable def changeforgeref2_with.j2 (y1 : List File) (x1 : List File) : Option (FileTree × Int) :=
(app? 40 y1 x1).bind fun y2 =>
(changeforgeref2_Ordered y2).bind fun y3 =>
 some (y3, 0)

noncomputable def changeforgeref2_with.j1 (t_ : FileTree) (x_ : File) : Option (FileTree × Int) :=
 if decide ((t_.Files.length : Int) ≥ 24) then
 some (t_, 14)
 else
(app? 40 ([] : List File) t_.Files).bind fun y1 =>
 changeforgeref2_with.j2 y1 ([x_] : List File)

noncomputable def changeforgeref2_with.l1 (t_ : FileTree) (x_ : File) (x3 : Int) : Option (Step Int ((FileTree × Int) ⊕ Unit)) :=
 if decide (x3 < (t_.Files.length : Int)) then
(at? t_.Files x3).bind fun y4 =>
(changeforgeref2_Related y4.Path x_.Path).bind fun y5 =>
 if y5 then
 some (Step.done (Sum.inl (t_, 7)))
 else
(ckK .i64 (x3 + 1)).bind fun z1 =>
 some (Step.next z1)
 else
 some (Step.done (Sum.inr ()))

noncomputable def changeforgeref2_with (t_ : FileTree) (x_ : File) : Option (FileTree × Int) :=
(iter (fun s => changeforgeref2_with.l1 t_ x_ s) 0).bind fun r1 =>
(match r1 with
| .inl p => some p
| .inr _ => changeforgeref2_with.j1 t_ x_)

noncomputable def changeforgeref2_FileAt.j1 : Option Int :=
 some (-1)

noncomputable def changeforgeref2_FileAt.l1 (t_ : FileTree) (path : ByteArray) (x1 : Int) : Option (Step Int (Int ⊕ Unit)) :=
 if decide (x1 < (t_.Files.length : Int)) then
(at? t_.Files x1).bind fun y1 =>
 if decide (y1.Path = path) then
 some (Step.done (Sum.inl x1))
 else
(ckK .i64 (x1 + 1)).bind fun z1 =>
 some (Step.next z1)
 else
 some (Step.done (Sum.inr ()))

noncomputable def changeforgeref2_FileAt (t_ : FileTree) (path : ByteArray) : Option Int :=
(iter (fun s => changeforgeref2_FileAt.l1 t_ path s) 0).bind fun r1 =>
(match r1 with
| .inl p => some p
| .inr _ => changeforgeref2_FileAt.j1)

noncomputable def changeforgeref1_Equal.j1 : Option Bool :=
 some true

noncomputable def changeforgeref1_Equal.l1 (a_ : (List ByteArray)) (b_ : (List ByteArray)) (x1 : Int) : Option (Step Int (Bool ⊕ Unit)) :=
 if decide (x1 < (a_.length : Int)) then
(at? a_ x1).bind fun y1 =>
(at? b_ x1).bind fun y2 =>
 if !decide (y1 = y2) then
 some (Step.done (Sum.inl false))
 else
(ckK .i64 (x1 + 1)).bind fun z1 =>
 some (Step.next z1)
 else
 some (Step.done (Sum.inr ()))

noncomputable def changeforgeref1_Equal (a_ : (List ByteArray)) (b_ : (List ByteArray)) : Option Bool :=
 if !decide ((a_.length : Int) = (b_.length : Int)) then
 some false
 else
(iter (fun s => changeforgeref1_Equal.l1 a_ b_ s) 0).bind fun r1 =>
(match r1 with
| .inl p => some p
| .inr _ => changeforgeref1_Equal.j1)

noncomputable def changeforgeref2_without (t_ : FileTree) (i_ : Int) : Option FileTree :=
(cut? t_.Files 0 i_).bind fun y1 =>
(app? 40 ([] : List File) y1).bind fun y2 =>
(ckK .i64 (i_ + 1)).bind fun z1 =>
(cut? t_.Files z1 (t_.Files.length : Int)).bind fun y3 =>
(app? 40 y2 y3).bind fun y4 =>
 some ({ Files := y4 } : FileTree)

noncomputable def changeforgeref1_has (text : (List ByteArray)) (at_ : Int) (l_ : (List ByteArray)) : Option Bool :=
(if decide (at_ < 0) then some true else (ckK .i64 (at_ + (l_.length : Int))).bind fun z1 =>
 some (decide (z1 > (text.length : Int)))).bind fun x1 =>
 if x1 then
 some false
 else
(ckK .i64 (at_ + (l_.length : Int))).bind fun z2 =>
(cut? text at_ z2).bind fun y1 =>
(changeforgeref1_Equal y1 l_).bind fun y2 =>
 some y2

noncomputable def changeforgeref1_Apply.j2 (x1 : List ByteArray) : Option ((List ByteArray) × Fault) :=
 if decide ((x1.length : Int) > 120) then
(changeforgeref1_At 10 (-1)).bind fun y5 =>
 some ([], y5)
 else
 some (x1, ({ Code := 0, Index := 0 } : Fault))

noncomputable def changeforgeref1_Apply.l1 (p_ : Patch) (x2 : Int) (x3 : List ByteArray) : Option (Step (Int × (List ByteArray)) (List ByteArray)) :=
 if decide (x2 ≥ 0) then
(at? p_.Hunks x2).bind fun y6 =>
(changeforgeref1_End y6).bind fun y7 =>
(cut? x3 y7 (x3.length : Int)).bind fun y8 =>
(app? 16 ([] : List ByteArray) y8).bind fun y9 =>
(cut? x3 0 y6.At).bind fun y10 =>
(app? 16 y10 y6.New).bind fun y11 =>
(app? 16 y11 y9).bind fun y12 =>
(ckK .i64 (x2 - 1)).bind fun z2 =>
 some (Step.next (z2, y12))
 else
 some (Step.done x3)

noncomputable def changeforgeref1_Apply.j1 (p_ : Patch) (text : (List ByteArray)) : Option ((List ByteArray) × Fault) :=
(app? 16 ([] : List ByteArray) text).bind fun y4 =>
(ckK .i64 ((p_.Hunks.length : Int) - 1)).bind fun z1 =>
(iter (fun s => changeforgeref1_Apply.l1 p_ s.1 s.2) (z1, y4)).bind fun r1 =>
 changeforgeref1_Apply.j2 r1

noncomputable def changeforgeref1_Apply.l2 (p_ : Patch) (text : (List ByteArray)) (x5 : Int) : Option (Step Int (((List ByteArray) × Fault) ⊕ Unit)) :=
 if decide (x5 < (p_.Hunks.length : Int)) then
(at? p_.Hunks x5).bind fun y13 =>
(at? p_.Hunks x5).bind fun y14 =>
(changeforgeref1_has text y13.At y14.Old).bind fun y15 =>
 if !y15 then
(changeforgeref1_At 19 x5).bind fun y16 =>
 some (Step.done (Sum.inl ([], y16)))
 else
(ckK .i64 (x5 + 1)).bind fun z3 =>
 some (Step.next z3)
 else
 some (Step.done (Sum.inr ()))

noncomputable def changeforgeref1_Apply (p_ : Patch) (text : (List ByteArray)) : Option ((List ByteArray) × Fault) :=
(changeforgeref1_PatchFault p_).bind fun y1 =>
 if !decide (y1.Code = 0) then
 some ([], y1)
 else
(changeforgeref1_LinesCode text).bind fun y2 =>
 if !decide (y2 = 0) then
(changeforgeref1_At y2 (-2)).bind fun y3 =>
 some ([], y3)
 else
(iter (fun s => changeforgeref1_Apply.l2 p_ text s) 0).bind fun r2 =>
(match r2 with
| .inl p => some p
| .inr _ => changeforgeref1_Apply.j1 p_ text)

noncomputable def changeforgeref2_Change.j1 (t_ : FileTree) (c_ : TreeChange) (y2 : Int) (y10 : (List ByteArray) × Fault) : Option (FileTree × Int) :=
 if !decide (y10.2.Code = 0) then
 some (t_, y10.2.Code)
 else
(changeforgeref2_without t_ y2).bind fun y11 =>
(changeforgeref2_with y11 ({ Path := c_.Path, Lines := y10.1 } : File)).bind fun y12 =>
 some (y12.1, y12.2)

noncomputable def changeforgeref2_Change (t_ : FileTree) (c_ : TreeChange) : Option (FileTree × Int) :=
 if decide (c_.Kind = 1) then
(changeforgeref2_with t_ ({ Path := c_.Path, Lines := c_.Lines } : File)).bind fun y1 =>
 some (y1.1, y1.2)
 else
(changeforgeref2_FileAt t_ c_.Path).bind fun y2 =>
 if decide (y2 < 0) then
 some (t_, 6)
 else
 if decide (c_.Kind = 2) then
(at? t_.Files y2).bind fun y3 =>
(changeforgeref1_Equal y3.Lines c_.Lines).bind fun y4 =>
 if !y4 then
 some (t_, 19)
 else
(changeforgeref2_without t_ y2).bind fun y5 =>
 some (y5, 0)
 else
 if decide (c_.Kind = 3) then
(at? t_.Files y2).bind fun y6 =>
(changeforgeref2_without t_ y2).bind fun y7 =>
(changeforgeref2_with y7 ({ Path := c_.To, Lines := y6.Lines } : File)).bind fun y8 =>
 some (y8.1, y8.2)
 else
(at? t_.Files y2).bind fun y9 =>
(changeforgeref1_Apply c_.Patch y9.Lines).bind fun y10 =>
 changeforgeref2_Change.j1 t_ c_ y2 y10

noncomputable def changeforgeref2_ApplyTree.j1 (x1 : List File) : Option (FileTree × Fault) :=
 some (({ Files := x1 } : FileTree), ({ Code := 0, Index := 0 } : Fault))

noncomputable def changeforgeref2_ApplyTree.l1 (p_ : TreePatch) (x2 : Int) (x3 : List File) : Option (Step (Int × (List File)) ((FileTree × Fault) ⊕ (List File))) :=
 if decide (x2 < (p_.Changes.length : Int)) then
(at? p_.Changes x2).bind fun y4 =>
(changeforgeref2_Change ({ Files := x3 } : FileTree) y4).bind fun y5 =>
 if !decide (y5.2 = 0) then
(changeforgeref1_At y5.2 x2).bind fun y6 =>
 some (Step.done (Sum.inl (({ Files := [] } : FileTree), y6)))
 else
(ckK .i64 (x2 + 1)).bind fun z1 =>
 some (Step.next (z1, y5.1.Files))
 else
 some (Step.done (Sum.inr x3))

noncomputable def changeforgeref2_ApplyTree (p_ : TreePatch) (t_ : FileTree) : Option (FileTree × Fault) :=
(changeforgeref2_TreePatchFault p_).bind fun y1 =>
 if !decide (y1.Code = 0) then
 some (({ Files := [] } : FileTree), y1)
 else
(changeforgeref2_TreeFault t_).bind fun y2 =>
 if !decide (y2.Code = 0) then
(changeforgeref1_At y2.Code (-2)).bind fun y3 =>
 some (({ Files := [] } : FileTree), y3)
 else
(iter (fun s => changeforgeref2_ApplyTree.l1 p_ s.1 s.2) (0, t_.Files)).bind fun r1 =>
(match r1 with
| .inl p => some p
| .inr p => changeforgeref2_ApplyTree.j1 p)

noncomputable def changeforgeequal_Tree.j1 : Option Bool :=
 some true

noncomputable def changeforgeequal_Tree.l1 (a_ : FileTree) (b_ : FileTree) (x1 : Int) : Option (Step Int (Bool ⊕ Unit)) :=
 if decide (x1 < (a_.Files.length : Int)) then
(at? a_.Files x1).bind fun y1 =>
(at? b_.Files x1).bind fun y2 =>
(if !decide (y1.Path = y2.Path) then some true else (at? a_.Files x1).bind fun y3 =>
(at? b_.Files x1).bind fun y4 =>
(changeforgeequal_Strings y3.Lines y4.Lines).bind fun y5 =>
 some !y5).bind fun x3 =>
 if x3 then
 some (Step.done (Sum.inl false))
 else
(ckK .i64 (x1 + 1)).bind fun z1 =>
 some (Step.next z1)
 else
 some (Step.done (Sum.inr ()))

noncomputable def changeforgeequal_Tree (a_ : FileTree) (b_ : FileTree) : Option Bool :=
 if !decide ((a_.Files.length : Int) = (b_.Files.length : Int)) then
 some false
 else
(iter (fun s => changeforgeequal_Tree.l1 a_ b_ s) 0).bind fun r1 =>
(match r1 with
| .inl p => some p
| .inr _ => changeforgeequal_Tree.j1)

noncomputable def changeforgelaw2_change (c_ : TreeChange) : Option TreePatch :=
 some ({ Changes := ([c_] : List TreeChange) } : TreePatch)

noncomputable def changeforgelaw2_one (path : ByteArray) (l_ : (List ByteArray)) : Option FileTree :=
 some ({ Files := ([({ Path := path, Lines := l_ } : File)] : List File) } : FileTree)

noncomputable def changeforgelaw2_renamed.j1 (x1 : Bool) : Option Bool :=
 some x1

noncomputable def changeforgelaw2_renamed : Option Bool :=
(changeforgelaw2_change ({ Kind := 3, Path := (⟨#[97]⟩ : ByteArray), To := (⟨#[98]⟩ : ByteArray), Lines := [], Patch := ({ Hunks := [] } : Patch) } : TreeChange)).bind fun y1 =>
(changeforgelaw2_one (⟨#[97]⟩ : ByteArray) ([(⟨#[120]⟩ : ByteArray)] : List ByteArray)).bind fun y2 =>
(treepatch_Apply y1 y2).bind fun y3 =>
 if decide (y3.2.Code = 0) then
(changeforgelaw2_one (⟨#[98]⟩ : ByteArray) ([(⟨#[120]⟩ : ByteArray)] : List ByteArray)).bind fun y4 =>
(changeforgeequal_Tree y3.1 y4).bind fun y5 =>
 if y5 then
(treepatch_ValidPath (⟨#[97, 47, 98, 46, 103, 111]⟩ : ByteArray)).bind fun y6 =>
 if y6 then
(treepatch_ValidPath (⟨#[47, 97]⟩ : ByteArray)).bind fun y7 =>
 changeforgelaw2_renamed.j1 !y7
 else
 changeforgelaw2_renamed.j1 false
 else
 changeforgelaw2_renamed.j1 false
 else
 changeforgelaw2_renamed.j1 false

noncomputable def changeforgelaw2_TreepatchMatchesSpec (p_ : TreePatch) (t_ : FileTree) (path : ByteArray) : Option Bool :=
(treepatch_Apply p_ t_).bind fun y1 =>
(changeforgeref2_ApplyTree p_ t_).bind fun y2 =>
(treepatch_ValidPath path).bind fun y3 =>
(changeforgeref2_PathValid path).bind fun y4 =>
(if decide (y3 = y4) then (treepatch_Validate t_).bind fun y5 =>
(changeforgeref2_TreeFault t_).bind fun y6 =>
 some (decide (y5.Code = y6.Code) && decide (y5.Index = y6.Index)) else some false).bind fun x1 =>
(if x1 then (treepatch_ValidatePatch p_).bind fun y7 =>
(changeforgeref2_TreePatchFault p_).bind fun y8 =>
 some (decide (y7.Code = y8.Code) && decide (y7.Index = y8.Index)) else some false).bind fun x2 =>
(if x2 then (changeforgeequal_Tree y1.1 y2.1).bind fun y9 =>
 some y9 else some false).bind fun x3 =>
(if x3 then some (decide (y1.2.Code = y2.2.Code) && decide (y1.2.Index = y2.2.Index)) else some false).bind fun x4 =>
(if x4 then (changeforgelaw2_renamed).bind fun y10 =>
 some y10 else some false).bind fun x5 =>
 some x5

noncomputable def changeforgelaw2_TreepatchStaysValid (p_ : TreePatch) (t_ : FileTree) : Option Bool :=
(treepatch_Apply p_ t_).bind fun y1 =>
(if !decide (y1.2.Code = 0) then some true else (treepatch_Validate y1.1).bind fun y2 =>
 some (decide (y2.Code = 0))).bind fun x1 =>
(if x1 then (changeforgelaw2_renamed).bind fun y3 =>
 some y3 else some false).bind fun x2 =>
 some x2

noncomputable def changeforgelaw2_TreepatchSequence.j1 (y2 : FileTree × Fault) (y6 : FileTree × Fault) : Option Bool :=
(if decide (y6.2.Code = 0) then (changeforgeequal_Tree y6.1 y2.1).bind fun y7 =>
 some y7 else some false).bind fun x4 =>
(if x4 then (changeforgelaw2_renamed).bind fun y8 =>
 some y8 else some false).bind fun x5 =>
 some x5

noncomputable def changeforgelaw2_TreepatchSequence (p_ : TreePatch) (q_ : TreePatch) (t_ : FileTree) : Option Bool :=
(treepatch_Apply p_ t_).bind fun y1 =>
(treepatch_Apply q_ y1.1).bind fun y2 =>
(if !decide (y1.2.Code = 0) then some true else some (!decide (y2.2.Code = 0))).bind fun x1 =>
(if x1 then some true else (ckK .i64 ((p_.Changes.length : Int) + (q_.Changes.length : Int))).bind fun z1 =>
 some (decide (z1 > 30))).bind fun x2 =>
 if x2 then
(changeforgelaw2_renamed).bind fun y3 =>
 some y3
 else
(app? 88 ([] : List TreeChange) p_.Changes).bind fun y4 =>
(app? 88 y4 q_.Changes).bind fun y5 =>
(treepatch_Apply ({ Changes := y5 } : TreePatch) t_).bind fun y6 =>
 changeforgelaw2_TreepatchSequence.j1 y2 y6

noncomputable def textpatch_Invert.j1 (x1 : List Hunk) : Option (Patch × Fault) :=
(textpatch_Made ({ Hunks := x1 } : Patch)).bind fun y3 =>
 some (y3.1, y3.2)

noncomputable def textpatch_Invert.l1 (y2 : Patch) (x2 : Int) (x3 : Int) (x4 : List Hunk) : Option (Step (Int × Int × (List Hunk)) (List Hunk)) :=
 if decide (x2 < (y2.Hunks.length : Int)) then
(at? x4 x2).bind fun y4 =>
(textpatch_Growth y4).bind fun y5 =>
(ckK .i64 (y4.At + x3)).bind fun z1 =>
(some (x4.set x2.toNat ({ At := z1, Old := y4.Old, New := y4.New } : Hunk))).bind fun y6 =>
(some (y6.set x2.toNat ({ At := ({ At := z1, Old := y4.Old, New := y4.New } : Hunk).At, Old := y4.New, New := ({ At := z1, Old := y4.Old, New := y4.New } : Hunk).New } : Hunk))).bind fun y7 =>
(some (y7.set x2.toNat ({ At := ({ At := ({ At := z1, Old := y4.Old, New := y4.New } : Hunk).At, Old := y4.New, New := ({ At := z1, Old := y4.Old, New := y4.New } : Hunk).New } : Hunk).At, Old := ({ At := ({ At := z1, Old := y4.Old, New := y4.New } : Hunk).At, Old := y4.New, New := ({ At := z1, Old := y4.Old, New := y4.New } : Hunk).New } : Hunk).Old, New := y4.Old } : Hunk))).bind fun y8 =>
(ckK .i64 (x3 + y5)).bind fun z2 =>
(ckK .i64 (x2 + 1)).bind fun z3 =>
 some (Step.next (z3, z2, y8))
 else
 some (Step.done x4)

noncomputable def textpatch_Invert (p_ : Patch) : Option (Patch × Fault) :=
(textpatch_Validate p_).bind fun y1 =>
 if !(decide (y1.Code = 0) && decide (y1.Index = 0)) then
 some (({ Hunks := [] } : Patch), y1)
 else
(textpatch_Copy p_).bind fun y2 =>
(iter (fun s => textpatch_Invert.l1 y2 s.1 s.2.1 s.2.2) (0, 0, y2.Hunks)).bind fun r1 =>
 textpatch_Invert.j1 r1

noncomputable def treepatch_Invert.j1 (x1 : List TreeChange) : Option (TreePatch × Fault) :=
 some (({ Changes := x1 } : TreePatch), ({ Code := 0, Index := 0 } : Fault))

noncomputable def treepatch_Invert.j2 (x2 : Int) (x3 : List TreeChange) (y3 : TreeChange) (x5 : Int) (x6 : ByteArray) (x7 : ByteArray) (x8 : List Hunk) : Option (Step (Int × (List TreeChange)) ((TreePatch × Fault) ⊕ (List TreeChange))) :=
(app? 88 x3 ([({ Kind := x5, Path := x6, To := x7, Lines := y3.Lines, Patch := ({ Hunks := x8 } : Patch) } : TreeChange)] : List TreeChange)).bind fun y4 =>
(ckK .i64 (x2 - 1)).bind fun z2 =>
 some (Step.next (z2, y4))

noncomputable def treepatch_Invert.l1 (p_ : TreePatch) (x2 : Int) (x3 : List TreeChange) : Option (Step (Int × (List TreeChange)) ((TreePatch × Fault) ⊕ (List TreeChange))) :=
 if decide (x2 ≥ 0) then
(at? p_.Changes x2).bind fun y2 =>
(treepatch_CopyChange y2).bind fun y3 =>
 if decide (y2.Kind = 1) then
 treepatch_Invert.j2 x2 x3 y3 2 y3.Path y3.To y3.Patch.Hunks
 else
 if decide (y2.Kind = 2) then
 treepatch_Invert.j2 x2 x3 y3 1 y3.Path y3.To y3.Patch.Hunks
 else
 if decide (y2.Kind = 3) then
 treepatch_Invert.j2 x2 x3 y3 y3.Kind y2.To y2.Path y3.Patch.Hunks
 else
(textpatch_Invert y2.Patch).bind fun y5 =>
 if !(decide (y5.2.Code = 0) && decide (y5.2.Index = 0)) then
 some (Step.done (Sum.inl (({ Changes := [] } : TreePatch), ({ Code := y5.2.Code, Index := x2 } : Fault))))
 else
 treepatch_Invert.j2 x2 x3 y3 y3.Kind y3.Path y3.To y5.1.Hunks
 else
 some (Step.done (Sum.inr x3))

noncomputable def treepatch_Invert (p_ : TreePatch) : Option (TreePatch × Fault) :=
(treepatch_ValidatePatch p_).bind fun y1 =>
 if !(decide (y1.Code = 0) && decide (y1.Index = 0)) then
 some (({ Changes := [] } : TreePatch), y1)
 else
(ckK .i64 ((p_.Changes.length : Int) - 1)).bind fun z1 =>
(iter (fun s => treepatch_Invert.l1 p_ s.1 s.2) (z1, [])).bind fun r1 =>
(match r1 with
| .inl p => some p
| .inr p => treepatch_Invert.j1 p)

noncomputable def changeforgelaw2_TreepatchUndo (p_ : TreePatch) (t_ : FileTree) : Option Bool :=
(treepatch_Apply p_ t_).bind fun y1 =>
(treepatch_Invert p_).bind fun y2 =>
(if !decide (y1.2.Code = 0) then some true else some (!decide (y2.2.Code = 0))).bind fun x1 =>
 if x1 then
(changeforgelaw2_renamed).bind fun y3 =>
 some y3
 else
(treepatch_Apply y2.1 y1.1).bind fun y4 =>
(if decide (y4.2.Code = 0) then (changeforgeequal_Tree y4.1 t_).bind fun y5 =>
 some y5 else some false).bind fun x2 =>
(if x2 then (changeforgelaw2_renamed).bind fun y6 =>
 some y6 else some false).bind fun x3 =>
 some x3

noncomputable def diff_Collector__Keep (c_ : Collector_diff) (n_ : Int) : Option Collector_diff :=
 if decide (n_ > 0) then
(ckK .i64 (c_.at_ + n_)).bind fun z1 =>
 some ({ hunks := c_.hunks, at_ := z1, open_ := false } : Collector_diff)
 else
 some c_

noncomputable def diff_Collector__Delete.j1 (c_ : Collector_diff) (line : ByteArray) (x1 : List Hunk) (x2 : Bool) : Option Collector_diff :=
(ckK .i64 ((x1.length : Int) - 1)).bind fun z1 =>
(at? x1 z1).bind fun y1 =>
(app? 16 y1.Old ([line] : List ByteArray)).bind fun y2 =>
(ckK .i64 (c_.at_ + 1)).bind fun z2 =>
(some (x1.set z1.toNat ({ At := y1.At, Old := y2, New := y1.New } : Hunk))).bind fun y3 =>
 some ({ hunks := y3, at_ := z2, open_ := x2 } : Collector_diff)

noncomputable def diff_Collector__Delete (c_ : Collector_diff) (line : ByteArray) : Option Collector_diff :=
 if !c_.open_ then
(app? 56 c_.hunks ([({ At := c_.at_, Old := [], New := [] } : Hunk)] : List Hunk)).bind fun y4 =>
 diff_Collector__Delete.j1 c_ line y4 true
 else
 diff_Collector__Delete.j1 c_ line c_.hunks c_.open_

noncomputable def diff_Collector__Insert.j1 (c_ : Collector_diff) (line : ByteArray) (x1 : List Hunk) (x2 : Bool) : Option Collector_diff :=
(ckK .i64 ((x1.length : Int) - 1)).bind fun z1 =>
(at? x1 z1).bind fun y1 =>
(app? 16 y1.New ([line] : List ByteArray)).bind fun y2 =>
(some (x1.set z1.toNat ({ At := y1.At, Old := y1.Old, New := y2 } : Hunk))).bind fun y3 =>
 some ({ hunks := y3, at_ := c_.at_, open_ := x2 } : Collector_diff)

noncomputable def diff_Collector__Insert (c_ : Collector_diff) (line : ByteArray) : Option Collector_diff :=
 if !c_.open_ then
(app? 56 c_.hunks ([({ At := c_.at_, Old := [], New := [] } : Hunk)] : List Hunk)).bind fun y4 =>
 diff_Collector__Insert.j1 c_ line y4 true
 else
 diff_Collector__Insert.j1 c_ line c_.hunks c_.open_

noncomputable def diff_Script.j1 (x1 : List Hunk) (x2 : Int) (x3 : Bool) : Option (Patch × Fault) :=
 some (({ Hunks := x1 } : Patch), ({ Code := 0, Index := 0 } : Fault))

noncomputable def diff_Script.j2 (x4 : Int) (x11 : Int) (x12 : Int) (x13 : List Hunk) (x14 : Int) (x15 : Bool) : Option (Step (Int × Int × Int × (List Hunk) × Int × Bool) ((List Hunk) × Int × Bool)) :=
(ckK .i64 (x4 + 1)).bind fun z1 =>
 some (Step.next (z1, x11, x12, x13, x14, x15))

noncomputable def diff_Script.l1 (a_ : (List ByteArray)) (b_ : (List ByteArray)) (y2 : (List Int)) (x4 : Int) (x5 : Int) (x6 : Int) (x7 : List Hunk) (x8 : Int) (x9 : Bool) : Option (Step (Int × Int × Int × (List Hunk) × Int × Bool) ((List Hunk) × Int × Bool)) :=
 if decide (x4 < (y2.length : Int)) then
(at? y2 x4).bind fun y3 =>
 if decide (y3 = 0) then
(diff_Collector__Keep ({ hunks := x7, at_ := x8, open_ := x9 } : Collector_diff) 1).bind fun y4 =>
(ckK .i64 (x6 + 1)).bind fun z2 =>
(ckK .i64 (x5 + 1)).bind fun z3 =>
 diff_Script.j2 x4 z3 z2 y4.hunks y4.at_ y4.open_
 else
 if decide (y3 = 1) then
(at? a_ x6).bind fun y5 =>
(diff_Collector__Delete ({ hunks := x7, at_ := x8, open_ := x9 } : Collector_diff) y5).bind fun y6 =>
(ckK .i64 (x6 + 1)).bind fun z4 =>
 diff_Script.j2 x4 x5 z4 y6.hunks y6.at_ y6.open_
 else
(at? b_ x5).bind fun y7 =>
(diff_Collector__Insert ({ hunks := x7, at_ := x8, open_ := x9 } : Collector_diff) y7).bind fun y8 =>
(ckK .i64 (x5 + 1)).bind fun z5 =>
 diff_Script.j2 x4 z5 x6 y8.hunks y8.at_ y8.open_
 else
 some (Step.done (x7, x8, x9))

noncomputable def diff_Script (a_ : (List ByteArray)) (b_ : (List ByteArray)) : Option (Patch × Fault) :=
(lines_Both a_ b_).bind fun y1 =>
 if !(decide (y1.Code = 0) && decide (y1.Index = 0)) then
 some (({ Hunks := [] } : Patch), y1)
 else
(diff_Align a_ b_).bind fun y2 =>
(iter (fun s => diff_Script.l1 a_ b_ y2 s.1 s.2.1 s.2.2.1 s.2.2.2.1 s.2.2.2.2.1 s.2.2.2.2.2) (0, 0, 0, [], 0, false)).bind fun r1 =>
 diff_Script.j1 r1.1 r1.2.1 r1.2.2

noncomputable def api_TreeChange_.j2 (x2 : List TreeChange) : Option (List TreeChange) :=
 some x2

noncomputable def api_TreeChange_.l1 (slices : (List (List TreeChange))) (x3 : Int) (x4 : List TreeChange) : Option (Step (Int × (List TreeChange)) (List TreeChange)) :=
 if decide (x3 < (slices.length : Int)) then
(at? slices x3).bind fun y2 =>
(app? 88 x4 y2).bind fun y3 =>
(ckK .i64 (x3 + 1)).bind fun z1 =>
 some (Step.next (z1, y3))
 else
 some (Step.done x4)

noncomputable def api_TreeChange_.j1 (slices : (List (List TreeChange))) (x1 : Int) : Option (List TreeChange) :=
(grow0 TreeChange 88 x1).bind fun y1 =>
(iter (fun s => api_TreeChange_.l1 slices s.1 s.2) (0, y1)).bind fun r1 =>
 api_TreeChange_.j2 r1

noncomputable def api_TreeChange_.j3 (x6 : Int) (x9 : Int) : Option (Step (Int × Int) Int) :=
(ckK .i64 (x6 + 1)).bind fun z2 =>
 some (Step.next (z2, x9))

noncomputable def api_TreeChange_.l2 (slices : (List (List TreeChange))) (x6 : Int) (x7 : Int) : Option (Step (Int × Int) Int) :=
 if decide (x6 < (slices.length : Int)) then
(at? slices x6).bind fun y4 =>
(ckK .i64 (x7 + (y4.length : Int))).bind fun z3 =>
 if decide (z3 < 0) then
 Option.none
 else
 api_TreeChange_.j3 x6 z3
 else
 some (Step.done x7)

noncomputable def api_TreeChange_ (slices : (List (List TreeChange))) : Option (List TreeChange) :=
(iter (fun s => api_TreeChange_.l2 slices s.1 s.2) (0, 0)).bind fun r2 =>
 api_TreeChange_.j1 slices r2

noncomputable def treepatch_Diff.j2 (x1 : List TreeChange) (x2 : List TreeChange) (x3 : List TreeChange) : Option (TreePatch × Fault) :=
(api_TreeChange_ ([x2, x1, x3] : List (List TreeChange))).bind fun y3 =>
 if decide ((y3.length : Int) > 30) then
 some (({ Changes := [] } : TreePatch), ({ Code := 10, Index := (-1) } : Fault))
 else
 some (({ Changes := y3 } : TreePatch), ({ Code := 0, Index := 0 } : Fault))

noncomputable def treepatch_Diff.j3 (x4 : Int) (x7 : List TreeChange) : Option (Step (Int × (List TreeChange)) (List TreeChange)) :=
(ckK .i64 (x4 + 1)).bind fun z1 =>
 some (Step.next (z1, x7))

noncomputable def treepatch_Diff.l1 (old_ : FileTree) (newer : FileTree) (x4 : Int) (x5 : List TreeChange) : Option (Step (Int × (List TreeChange)) (List TreeChange)) :=
 if decide (x4 < (newer.Files.length : Int)) then
(at? newer.Files x4).bind fun y4 =>
(treepatch_Find old_.Files y4.Path).bind fun y5 =>
 if !y5.2 then
(slices_Clone y4.Lines).bind fun y6 =>
(app? 88 x5 ([({ Kind := 1, Path := y4.Path, To := ByteArray.empty, Lines := y6, Patch := ({ Hunks := [] } : Patch) } : TreeChange)] : List TreeChange)).bind fun y7 =>
 treepatch_Diff.j3 x4 y7
 else
 treepatch_Diff.j3 x4 x5
 else
 some (Step.done x5)

noncomputable def treepatch_Diff.j1 (old_ : FileTree) (newer : FileTree) (x1 : List TreeChange) (x2 : List TreeChange) : Option (TreePatch × Fault) :=
(iter (fun s => treepatch_Diff.l1 old_ newer s.1 s.2) (0, [])).bind fun r1 =>
 treepatch_Diff.j2 x1 x2 r1

noncomputable def treepatch_Diff.j4 (x8 : Int) (x12 : List TreeChange) (x13 : List TreeChange) : Option (Step (Int × (List TreeChange) × (List TreeChange)) ((List TreeChange) × (List TreeChange))) :=
(ckK .i64 (x8 + 1)).bind fun z2 =>
 some (Step.next (z2, x13, x12))

noncomputable def treepatch_Diff.j5 (x8 : Int) (x9 : List TreeChange) (x10 : List TreeChange) (y8 : File) (y13 : Patch × Fault) : Option (Step (Int × (List TreeChange) × (List TreeChange)) ((List TreeChange) × (List TreeChange))) :=
 if decide ((y13.1.Hunks.length : Int) > 0) then
(app? 88 x9 ([({ Kind := 4, Path := y8.Path, To := ByteArray.empty, Lines := [], Patch := y13.1 } : TreeChange)] : List TreeChange)).bind fun y14 =>
 treepatch_Diff.j4 x8 x10 y14
 else
 treepatch_Diff.j4 x8 x10 x9

noncomputable def treepatch_Diff.l2 (old_ : FileTree) (newer : FileTree) (x8 : Int) (x9 : List TreeChange) (x10 : List TreeChange) : Option (Step (Int × (List TreeChange) × (List TreeChange)) ((List TreeChange) × (List TreeChange))) :=
 if decide (x8 < (old_.Files.length : Int)) then
(at? old_.Files x8).bind fun y8 =>
(treepatch_Find newer.Files y8.Path).bind fun y9 =>
 if !y9.2 then
(slices_Clone y8.Lines).bind fun y10 =>
(app? 88 x10 ([({ Kind := 2, Path := y8.Path, To := ByteArray.empty, Lines := y10, Patch := ({ Hunks := [] } : Patch) } : TreeChange)] : List TreeChange)).bind fun y11 =>
 treepatch_Diff.j4 x8 y11 x9
 else
(at? newer.Files y9.1).bind fun y12 =>
(diff_Script y8.Lines y12.Lines).bind fun y13 =>
 treepatch_Diff.j5 x8 x9 x10 y8 y13
 else
 some (Step.done (x9, x10))

noncomputable def treepatch_Diff (old_ : FileTree) (newer : FileTree) : Option (TreePatch × Fault) :=
(treepatch_Validate old_).bind fun y1 =>
 if !(decide (y1.Code = 0) && decide (y1.Index = 0)) then
 some (({ Changes := [] } : TreePatch), y1)
 else
(treepatch_Second newer (-2)).bind fun y2 =>
 if !(decide (y2.Code = 0) && decide (y2.Index = 0)) then
 some (({ Changes := [] } : TreePatch), y2)
 else
(iter (fun s => treepatch_Diff.l2 old_ newer s.1 s.2.1 s.2.2) (0, [], [])).bind fun r2 =>
 treepatch_Diff.j1 old_ newer r2.1 r2.2

noncomputable def changeforgelaw2_TreepatchDiffApplies (a_ : FileTree) (b_ : FileTree) : Option Bool :=
(treepatch_Diff a_ b_).bind fun y1 =>
 if !decide (y1.2.Code = 0) then
(changeforgelaw2_renamed).bind fun y2 =>
 some y2
 else
(treepatch_Apply y1.1 a_).bind fun y3 =>
(if decide (y3.2.Code = 0) then (changeforgeequal_Tree y3.1 b_).bind fun y4 =>
 some y4 else some false).bind fun x1 =>
(if x1 then (changeforgelaw2_renamed).bind fun y5 =>
 some y5 else some false).bind fun x2 =>
 some x2

noncomputable def changeforgelaw2_TreecommuteSameEffect (a_ : TreeChange) (b_ : TreeChange) (t_ : FileTree) : Option Bool :=
(treecommute_Commute a_ b_).bind fun y1 =>
(if !decide (y1.2.2.2.Code = 0) then some true else some !y1.2.2.1).bind fun x1 =>
 if x1 then
(changeforgelaw2_followed).bind fun y2 =>
 some y2
 else
(treepatch_Apply ({ Changes := ([a_, b_] : List TreeChange) } : TreePatch) t_).bind fun y3 =>
(treepatch_Apply ({ Changes := ([y1.1, y1.2.1] : List TreeChange) } : TreePatch) t_).bind fun y4 =>
(if !decide (y3.2.Code = 0) then some true else some (decide (y4.2.Code = 14))).bind fun x2 =>
(if x2 then some true else some (decide (y4.2.Code = 10))).bind fun x3 =>
 if x3 then
(changeforgelaw2_followed).bind fun y5 =>
 some y5
 else
(if decide (y4.2.Code = 0) then (changeforgeequal_Tree y3.1 y4.1).bind fun y6 =>
 some y6 else some false).bind fun x4 =>
(if x4 then (changeforgelaw2_followed).bind fun y7 =>
 some y7 else some false).bind fun x5 =>
 some x5
end Go.Dc
