import Derived.Test.YtmhjcomgbfonfaaGreatDoorDcTy
import Derived.Test.YtmhjcomgbfonfaaGreatDoorDcR
import Derived.Test.YtmhjcomgbfonfaaGreatDoorDcRS
noncomputable section
namespace Go.Dc
open Go
set_option linter.unusedVariables false
def El (s_ : ByteArray) (c_ : Int) : Option Int :=
 some (idxB s_ c_)
def Ku (s_ : ByteArray) : Option Int :=
 if decide ((⟨#[47]⟩ : ByteArray) = s_) then
 some 0
 else
(sAt? (⟨#[47]⟩ : ByteArray) 0).bind fun y1 =>
(El s_ y1).bind fun y2 =>
 some y2
def Lm (s_ : ByteArray) : Option Int :=
(Ku s_).bind fun y1 =>
 some y1
def E8 (c_ : Int) : Option Bool :=
(if decide (c_ ≥ 97) then some (decide (c_ ≤ 122)) else some false).bind fun x1 =>
(if x1 then some true else (if decide (c_ ≥ 65) then some (decide (c_ ≤ 90)) else some false).bind fun x3 =>
 some x3).bind fun x2 =>
(if x2 then some true else (if decide (c_ ≥ 48) then some (decide (c_ ≤ 57)) else some false).bind fun x5 =>
 some x5).bind fun x4 =>
(if x4 then some true else some (decide (c_ = 46))).bind fun x6 =>
(if x6 then some true else some (decide (c_ = 95))).bind fun x7 =>
(if x7 then some true else some (decide (c_ = 45))).bind fun x8 =>
 some x8
def As.j2 : Option Bool :=
 some false
def As.j3 : Option Bool :=
 some true
def As.j4 : Option Bool :=
 As.j3
def As.l1 (x1 : ByteArray) (x4 : Int) : Option (Step Int (Unit ⊕ Unit)) :=
 if decide (x4 < (x1.size : Int)) then
(sAt? x1 x4).bind fun y1 =>
(E8 y1).bind fun y2 =>
 if !y2 then
 some (Step.done (Sum.inl ()))
 else
(ckK .i64 (x4 + 1)).bind fun z1 =>
 some (Step.next z1)
 else
 some (Step.done (Sum.inr ()))
def As.j1 (x1 : ByteArray) : Option Bool :=
(if decide (x1 = (⟨#[]⟩ : ByteArray)) then some true else some (decide (x1 = (⟨#[46]⟩ : ByteArray)))).bind fun x2 =>
(if x2 then some true else some (decide (x1 = (⟨#[46, 46]⟩ : ByteArray)))).bind fun x3 =>
 if x3 then
 As.j2
 else
(De (fun s => As.l1 x1 s) 0).bind fun r1 =>
(match r1 with
| .inl _ => As.j2
| .inr _ => As.j4)
def As.j5 : Option (Step ByteArray (Bool ⊕ ByteArray)) :=
 some (Step.done (Sum.inl false))
def As.j6 (x6 : ByteArray) (y3 : Int) : Option (Step ByteArray (Bool ⊕ ByteArray)) :=
(ckK .i64 (y3 + 1)).bind fun z3 =>
(scut? x6 z3 (x6.size : Int)).bind fun y5 =>
 some (Step.next y5)
def As.j7 (x6 : ByteArray) (y3 : Int) : Option (Step ByteArray (Bool ⊕ ByteArray)) :=
 As.j6 x6 y3
def As.l3 (y4 : ByteArray) (x10 : Int) : Option (Step Int (Unit ⊕ Unit)) :=
 if decide (x10 < (y4.size : Int)) then
(sAt? y4 x10).bind fun y6 =>
(E8 y6).bind fun y7 =>
 if !y7 then
 some (Step.done (Sum.inl ()))
 else
(ckK .i64 (x10 + 1)).bind fun z4 =>
 some (Step.next z4)
 else
 some (Step.done (Sum.inr ()))
def As.l2 (x6 : ByteArray) : Option (Step ByteArray (Bool ⊕ ByteArray)) :=
(Lm x6).bind fun y3 =>
 if decide (y3 < 0) then
 some (Step.done (Sum.inr x6))
 else
(ckK .i64 (y3 + 0)).bind fun z2 =>
(scut? x6 0 z2).bind fun y4 =>
(if decide (y4 = (⟨#[]⟩ : ByteArray)) then some true else some (decide (y4 = (⟨#[46]⟩ : ByteArray)))).bind fun x8 =>
(if x8 then some true else some (decide (y4 = (⟨#[46, 46]⟩ : ByteArray)))).bind fun x9 =>
 if x9 then
 As.j5
 else
(De (fun s => As.l3 y4 s) 0).bind fun r3 =>
(match r3 with
| .inl _ => As.j5
| .inr _ => As.j7 x6 y3)
def As (path : ByteArray) : Option Bool :=
 if decide ((path.size : Int) > 60) then
 some false
 else
(De (fun s => As.l2 s) path).bind fun r2 =>
(match r2 with
| .inl p => some p
| .inr p => As.j1 p)
def Hk (s_ : ByteArray) (c_ : Int) : Option Int :=
(El s_ c_).bind fun y1 =>
 some y1
def Cd.j1 : Option Fault :=
 some ({ Code := 0, Index := 0 } : Fault)
def Cd.l1 (lines : (List ByteArray)) (x1 : Int) : Option (Step Int (Fault ⊕ Unit)) :=
 if decide (x1 < (lines.length : Int)) then
(at? lines x1).bind fun y1 =>
 if decide ((y1.size : Int) > 80) then
 some (Step.done (Sum.inl ({ Code := 2, Index := x1 } : Fault)))
 else
(Hk y1 10).bind fun y2 =>
 if decide (y2 ≥ 0) then
 some (Step.done (Sum.inl ({ Code := 5, Index := x1 } : Fault)))
 else
(ckK .i64 (x1 + 1)).bind fun z1 =>
 some (Step.next z1)
 else
 some (Step.done (Sum.inr ()))
def Cd (lines : (List ByteArray)) : Option Fault :=
 if decide ((lines.length : Int) > 120) then
 some ({ Code := 2, Index := (-1) } : Fault)
 else
(De (fun s => Cd.l1 lines s) 0).bind fun r1 =>
(match r1 with
| .inl p => some p
| .inr _ => Cd.j1)
def Gb (h_ : Hunk) : Option Int :=
(ckK .i64 (h_.At + (h_.Old.length : Int))).bind fun z1 =>
 some z1
def Cw.j1 (h_ : Hunk) (end_ : Int) : Option Int :=
(ckK .i64 ((h_.Old.length : Int) + (h_.New.length : Int))).bind fun z1 =>
(if decide (z1 = 0) then some true else some (decide (h_.At ≤ end_))).bind fun x2 =>
 if x2 then
 some 5
 else
(Gb h_).bind fun y1 =>
 if decide (y1 > 120) then
 some 3
 else
 some 0
def Cw.l1 (h_ : Hunk) (x3 : Int) : Option (Step Int (Int ⊕ Unit)) :=
 if decide (x3 < 2) then
(at? ([h_.Old, h_.New] : List (List ByteArray)) x3).bind fun y2 =>
(Cd y2).bind fun y3 =>
 if !(decide (y3.Code = 0) && decide (y3.Index = 0)) then
 some (Step.done (Sum.inl y3.Code))
 else
(ckK .i64 (x3 + 1)).bind fun z2 =>
 some (Step.next z2)
 else
 some (Step.done (Sum.inr ()))
def Cw (h_ : Hunk) (end_ : Int) : Option Int :=
(if decide (h_.At < 0) then some true else some (decide (h_.At > 120))).bind fun x1 =>
 if x1 then
 some 3
 else
(De (fun s => Cw.l1 h_ s) 0).bind fun r1 =>
(match r1 with
| .inl p => some p
| .inr _ => Cw.j1 h_ end_)
def B7.j1 : Option Fault :=
 some ({ Code := 0, Index := 0 } : Fault)
def B7.l1 (p_ : Patch) (x1 : Int) (x2 : Int) : Option (Step (Int × Int) (Fault ⊕ Unit)) :=
 if decide (x1 < (p_.Hunks.length : Int)) then
(at? p_.Hunks x1).bind fun y1 =>
(Cw y1 x2).bind fun y2 =>
 if !decide (y2 = 0) then
 some (Step.done (Sum.inl ({ Code := y2, Index := x1 } : Fault)))
 else
(Gb y1).bind fun y3 =>
(ckK .i64 (x1 + 1)).bind fun z1 =>
 some (Step.next (z1, y3))
 else
 some (Step.done (Sum.inr ()))
def B7 (p_ : Patch) : Option Fault :=
 if decide ((p_.Hunks.length : Int) > 130) then
 some ({ Code := 2, Index := (-1) } : Fault)
 else
(De (fun s => B7.l1 p_ s.1 s.2) (0, (-1))).bind fun r1 =>
(match r1 with
| .inl p => some p
| .inr _ => B7.j1)
def G6 (s_ : ByteArray) (prefix_ : ByteArray) : Option Bool :=
(if decide ((s_.size : Int) ≥ (prefix_.size : Int)) then (scut? s_ 0 (prefix_.size : Int)).bind fun y1 =>
 some (decide (y1 = prefix_)) else some false).bind fun x1 =>
 some x1
def Gp (s_ : ByteArray) (prefix_ : ByteArray) : Option Bool :=
(G6 s_ prefix_).bind fun y1 =>
 some y1
def Ej (a_ : ByteArray) (b_ : ByteArray) : Option Bool :=
(if decide (a_ = b_) then some true else (cat? b_ (⟨#[47]⟩ : ByteArray)).bind fun z1 =>
(Gp a_ z1).bind fun y1 =>
 some y1).bind fun x1 =>
(if x1 then some true else (cat? a_ (⟨#[47]⟩ : ByteArray)).bind fun z2 =>
(Gp b_ z2).bind fun y2 =>
 some y2).bind fun x2 =>
 some x2
def Kd (c_ : TreeChange) : Option Int :=
(if decide (c_.Kind < 1) then some true else some (decide (c_.Kind > 4))).bind fun x1 =>
 if x1 then
 some 4
 else
(As c_.Path).bind fun y1 =>
(if !y1 then some true else (if decide (c_.Kind = 3) then (As c_.To).bind fun y2 =>
 some !y2 else some false).bind fun x3 =>
 some x3).bind fun x2 =>
 if x2 then
 some 12
 else
(if !(decide (c_.Kind = 3)) then some (!decide (c_.To = (⟨#[]⟩ : ByteArray))) else some false).bind fun x4 =>
(if x4 then some true else (if decide (c_.Kind = 3) then (Ej c_.Path c_.To).bind fun y3 =>
 some y3 else some false).bind fun x6 =>
 some x6).bind fun x5 =>
 if x5 then
 some 5
 else
(if decide ((c_.Lines.length : Int) > 0) then (if decide (c_.Kind = 4) then some true else some (decide (c_.Kind = 3))).bind fun x8 =>
 some x8 else some false).bind fun x7 =>
 if x7 then
 some 5
 else
 if !decide (decide (c_.Kind = 4) = decide ((c_.Patch.Hunks.length : Int) > 0)) then
 some 5
 else
(Cd c_.Lines).bind fun y4 =>
 if !(decide (y4.Code = 0) && decide (y4.Index = 0)) then
 some y4.Code
 else
(B7 c_.Patch).bind fun y5 =>
 some y5.Code
def Bo.j1 : Option Fault :=
 some ({ Code := 0, Index := 0 } : Fault)
def Bo.l1 (p_ : TreePatch) (x1 : Int) : Option (Step Int (Fault ⊕ Unit)) :=
 if decide (x1 < (p_.Changes.length : Int)) then
(at? p_.Changes x1).bind fun y1 =>
(Kd y1).bind fun y2 =>
 if !decide (y2 = 0) then
 some (Step.done (Sum.inl ({ Code := y2, Index := x1 } : Fault)))
 else
(ckK .i64 (x1 + 1)).bind fun z1 =>
 some (Step.next z1)
 else
 some (Step.done (Sum.inr ()))
def Bo (p_ : TreePatch) : Option Fault :=
 if decide ((p_.Changes.length : Int) > 30) then
 some ({ Code := 2, Index := (-1) } : Fault)
 else
(De (fun s => Bo.l1 p_ s) 0).bind fun r1 =>
(match r1 with
| .inl p => some p
| .inr _ => Bo.j1)
def B3.j1 : Option Bool :=
 some false
def B3.l1 (files : (List File)) (path : ByteArray) (except : Int) (x1 : Int) : Option (Step Int (Bool ⊕ Unit)) :=
 if decide (x1 < (files.length : Int)) then
(at? files x1).bind fun y1 =>
(if !decide (x1 = except) then (Ej y1.Path path).bind fun y2 =>
 some y2 else some false).bind fun x3 =>
 if x3 then
 some (Step.done (Sum.inl true))
 else
(ckK .i64 (x1 + 1)).bind fun z1 =>
 some (Step.next z1)
 else
 some (Step.done (Sum.inr ()))
def B3 (files : (List File)) (path : ByteArray) (except : Int) : Option Bool :=
(De (fun s => B3.l1 files path except s) 0).bind fun r1 =>
(match r1 with
| .inl p => some p
| .inr _ => B3.j1)
def Ep (b_ : (List ByteArray)) (index : Int) : Option Fault :=
(Cd b_).bind fun y1 =>
 if !(decide (y1.Code = 0) && decide (y1.Index = 0)) then
 some ({ Code := y1.Code, Index := index } : Fault)
 else
 some ({ Code := 0, Index := 0 } : Fault)
def Cj.j1 : Option Fault :=
 some ({ Code := 0, Index := 0 } : Fault)
def Cj.l1 (t_ : FileTree) (x1 : Int) : Option (Step Int (Fault ⊕ Unit)) :=
 if decide (x1 < (t_.Files.length : Int)) then
(at? t_.Files x1).bind fun y1 =>
(As y1.Path).bind fun y2 =>
 if !y2 then
 some (Step.done (Sum.inl ({ Code := 12, Index := x1 } : Fault)))
 else
(if decide (x1 > 0) then (ckK .i64 (x1 - 1)).bind fun z1 =>
(at? t_.Files z1).bind fun y3 =>
 some (sLt y1.Path y3.Path || decide (y1.Path = y3.Path)) else some false).bind fun x3 =>
 if x3 then
 some (Step.done (Sum.inl ({ Code := 5, Index := x1 } : Fault)))
 else
(cut? t_.Files 0 x1).bind fun y4 =>
(B3 y4 y1.Path (-1)).bind fun y5 =>
 if y5 then
 some (Step.done (Sum.inl ({ Code := 7, Index := x1 } : Fault)))
 else
(Ep y1.Lines x1).bind fun y6 =>
 if !(decide (y6.Code = 0) && decide (y6.Index = 0)) then
 some (Step.done (Sum.inl y6))
 else
(ckK .i64 (x1 + 1)).bind fun z2 =>
 some (Step.next z2)
 else
 some (Step.done (Sum.inr ()))
def Cj (t_ : FileTree) : Option Fault :=
 if decide ((t_.Files.length : Int) > 24) then
 some ({ Code := 2, Index := (-1) } : Fault)
 else
(De (fun s => Cj.l1 t_ s) 0).bind fun r1 =>
(match r1 with
| .inl p => some p
| .inr _ => Cj.j1)
def Hu (t_ : FileTree) (index : Int) : Option Fault :=
(Cj t_).bind fun y1 =>
 if !(decide (y1.Code = 0) && decide (y1.Index = 0)) then
 some ({ Code := y1.Code, Index := index } : Fault)
 else
 some ({ Code := 0, Index := 0 } : Fault)
def Gd (s_ : (List ByteArray)) : Option (List ByteArray) :=
 nilIf s_ (
 some []) (
(app? 16 ([] : List ByteArray) s_).bind fun y1 =>
 some y1)
def Cb.j1 (x1 : List File) : Option FileTree :=
 some ({ Files := x1 } : FileTree)
def Cb.l1 (t_ : FileTree) (x2 : Int) (x3 : List File) : Option (Step (Int × (List File)) (List File)) :=
 if decide (x2 < (t_.Files.length : Int)) then
(at? t_.Files x2).bind fun y1 =>
(Gd y1.Lines).bind fun y2 =>
(app? 40 x3 ([({ Path := y1.Path, Lines := y2 } : File)] : List File)).bind fun y3 =>
(ckK .i64 (x2 + 1)).bind fun z1 =>
 some (Step.next (z1, y3))
 else
 some (Step.done x3)
def Cb (t_ : FileTree) : Option FileTree :=
(De (fun s => Cb.l1 t_ s.1 s.2) (0, [])).bind fun r1 =>
 Cb.j1 r1
def C8.j1 : Option Bool :=
 some true
def C8.l1 (s1_ : (List ByteArray)) (s2_ : (List ByteArray)) (x1 : Int) : Option (Step Int (Bool ⊕ Unit)) :=
 if decide (x1 < (s1_.length : Int)) then
(at? s1_ x1).bind fun y1 =>
(at? s2_ x1).bind fun y2 =>
 if !decide (y1 = y2) then
 some (Step.done (Sum.inl false))
 else
(ckK .i64 (x1 + 1)).bind fun z1 =>
 some (Step.next z1)
 else
 some (Step.done (Sum.inr ()))
def C8 (s1_ : (List ByteArray)) (s2_ : (List ByteArray)) : Option Bool :=
 if !decide ((s1_.length : Int) = (s2_.length : Int)) then
 some false
 else
(De (fun s => C8.l1 s1_ s2_ s) 0).bind fun r1 =>
(match r1 with
| .inl p => some p
| .inr _ => C8.j1)
def K9 (text : (List ByteArray)) (part : (List ByteArray)) (at_ : Int) : Option Bool :=
(if decide (at_ ≥ 0) then some (decide (at_ ≤ (text.length : Int))) else some false).bind fun x1 =>
(if x1 then (ckK .i64 ((text.length : Int) - at_)).bind fun z1 =>
 some (decide ((part.length : Int) ≤ z1)) else some false).bind fun x2 =>
(if x2 then (ckK .i64 (at_ + (part.length : Int))).bind fun z2 =>
(cut? text at_ z2).bind fun y1 =>
(C8 y1 part).bind fun y2 =>
 some y2 else some false).bind fun x3 =>
 some x3
def B6.j1 (text : (List ByteArray)) (high : Int) (x1 : List ByteArray) (x2 : Int) : Option (List ByteArray) :=
(cut? text x2 high).bind fun y1 =>
(app? 16 x1 y1).bind fun y2 =>
 some y2
def B6.l1 (hunks : (List Hunk)) (text : (List ByteArray)) (x3 : Int) (x4 : List ByteArray) (x5 : Int) : Option (Step (Int × (List ByteArray) × Int) ((List ByteArray) × Int)) :=
 if decide (x3 < (hunks.length : Int)) then
(at? hunks x3).bind fun y3 =>
(cut? text x5 y3.At).bind fun y4 =>
(app? 16 x4 y4).bind fun y5 =>
(app? 16 y5 y3.New).bind fun y6 =>
(Gb y3).bind fun y7 =>
(ckK .i64 (x3 + 1)).bind fun z1 =>
 some (Step.next (z1, y6, y7))
 else
 some (Step.done (x4, x5))
def B6 (hunks : (List Hunk)) (text : (List ByteArray)) (low : Int) (high : Int) : Option (List ByteArray) :=
(De (fun s => B6.l1 hunks text s.1 s.2.1 s.2.2) (0, [], low)).bind fun r1 =>
 B6.j1 text high r1.1 r1.2
def Ct.j1 (p_ : Patch) (text : (List ByteArray)) : Option ((List ByteArray) × Fault) :=
(B6 p_.Hunks text 0 (text.length : Int)).bind fun y3 =>
 if decide ((y3.length : Int) > 120) then
 some ([], ({ Code := 10, Index := (-1) } : Fault))
 else
 some (y3, ({ Code := 0, Index := 0 } : Fault))
def Ct.l1 (p_ : Patch) (text : (List ByteArray)) (x1 : Int) : Option (Step Int (((List ByteArray) × Fault) ⊕ Unit)) :=
 if decide (x1 < (p_.Hunks.length : Int)) then
(at? p_.Hunks x1).bind fun y4 =>
(K9 text y4.Old y4.At).bind fun y5 =>
 if !y5 then
 some (Step.done (Sum.inl ([], ({ Code := 19, Index := x1 } : Fault))))
 else
(ckK .i64 (x1 + 1)).bind fun z1 =>
 some (Step.next z1)
 else
 some (Step.done (Sum.inr ()))
def Ct (p_ : Patch) (text : (List ByteArray)) : Option ((List ByteArray) × Fault) :=
(B7 p_).bind fun y1 =>
 if !(decide (y1.Code = 0) && decide (y1.Index = 0)) then
 some ([], y1)
 else
(Ep text (-2)).bind fun y2 =>
 if !(decide (y2.Code = 0) && decide (y2.Index = 0)) then
 some ([], y2)
 else
(De (fun s => Ct.l1 p_ text s) 0).bind fun r1 =>
(match r1 with
| .inl p => some p
| .inr _ => Ct.j1 p_ text)
def Kp (a_ : ByteArray) (b_ : ByteArray) : Option Int :=
 some (cmpB a_ b_)
def M8 (a_ : ByteArray) (b_ : ByteArray) : Option Int :=
(Kp a_ b_).bind fun y1 =>
 some y1
def Hi (f : File) (path : ByteArray) : Option Int :=
(M8 f.Path path).bind fun y1 =>
 some y1
def Bz.j1 (files : (List File)) (path : ByteArray) (x1 : Int) : Option (Int × Bool) :=
(if decide (x1 < (files.length : Int)) then (at? files x1).bind fun y1 =>
(Hi y1 path).bind fun y2 =>
 some (decide (y2 = 0)) else some false).bind fun x2 =>
 some (x1, x2)
def Bz.l1 (files : (List File)) (path : ByteArray) (x3 : Int) (x4 : Int) : Option (Step (Int × Int) Int) :=
 if decide (x4 < x3) then
(ckK .i64 (x4 + x3)).bind fun z1 =>
(ckK .u64 z1).bind fun z2 =>
(shr? .u64 z2 1).bind fun z3 =>
(ckK .i64 z3).bind fun z4 =>
(at? files z4).bind fun y3 =>
(Hi y3 path).bind fun y4 =>
 if decide (y4 < 0) then
(ckK .i64 (z4 + 1)).bind fun z5 =>
 some (Step.next (x3, z5))
 else
 some (Step.next (z4, x4))
 else
 some (Step.done x4)
def Bz (files : (List File)) (path : ByteArray) : Option (Int × Bool) :=
(De (fun s => Bz.l1 files path s.1 s.2) ((files.length : Int), 0)).bind fun r1 =>
 Bz.j1 files path r1
def Dv.j1 (l_ : (List ByteArray)) (y1 : Int × Bool) (x1 : List File) : Option FileTree :=
(Gd l_).bind fun y2 =>
(at? x1 y1.1).bind fun y3 =>
(some (x1.set y1.1.toNat ({ Path := y3.Path, Lines := y2 } : File))).bind fun y4 =>
 some ({ Files := y4 } : FileTree)
def Dv (t_ : FileTree) (path : ByteArray) (l_ : (List ByteArray)) : Option FileTree :=
(Bz t_.Files path).bind fun y1 =>
 if !y1.2 then
(ins? 40 t_.Files y1.1 ([({ Path := path, Lines := [] } : File)] : List File)).bind fun y5 =>
 Dv.j1 l_ y1 y5
 else
 Dv.j1 l_ y1 t_.Files
def Ee.j1 (x1 : List File) : Option (Int × FileTree) :=
 some (0, ({ Files := x1 } : FileTree))
def Ee (c_ : TreeChange) (t_ : FileTree) : Option (Int × FileTree) :=
(Bz t_.Files c_.Path).bind fun y1 =>
 if decide (c_.Kind = 1) then
(B3 t_.Files c_.Path (-1)).bind fun y2 =>
 if y2 then
 some (7, t_)
 else
 if decide ((t_.Files.length : Int) ≥ 24) then
 some (14, t_)
 else
(Dv t_ c_.Path c_.Lines).bind fun y3 =>
 some (0, y3)
 else
 if !y1.2 then
 some (6, t_)
 else
(at? t_.Files y1.1).bind fun y4 =>
 if decide (c_.Kind = 2) then
(C8 y4.Lines c_.Lines).bind fun y5 =>
 if !y5 then
 some (19, t_)
 else
(ckK .i64 (y1.1 + 1)).bind fun z1 =>
(del? t_.Files y1.1 z1).bind fun y6 =>
 Ee.j1 y6
 else
 if decide (c_.Kind = 3) then
(B3 t_.Files c_.To y1.1).bind fun y7 =>
 if y7 then
 some (7, t_)
 else
(ckK .i64 (y1.1 + 1)).bind fun z2 =>
(del? t_.Files y1.1 z2).bind fun y8 =>
(Dv ({ Files := y8 } : FileTree) c_.To y4.Lines).bind fun y9 =>
 Ee.j1 y9.Files
 else
(Ct c_.Patch y4.Lines).bind fun y10 =>
 if !(decide (y10.2.Code = 0) && decide (y10.2.Index = 0)) then
 some (y10.2.Code, t_)
 else
(at? t_.Files y1.1).bind fun y11 =>
(some (t_.Files.set y1.1.toNat ({ Path := y11.Path, Lines := y10.1 } : File))).bind fun y12 =>
 Ee.j1 y12
def Cp.j1 (x1 : List File) : Option (FileTree × Fault) :=
 some (({ Files := x1 } : FileTree), ({ Code := 0, Index := 0 } : Fault))
def Cp.l1 (p_ : TreePatch) (x2 : Int) (x3 : List File) : Option (Step (Int × (List File)) ((FileTree × Fault) ⊕ (List File))) :=
 if decide (x2 < (p_.Changes.length : Int)) then
(at? p_.Changes x2).bind fun y4 =>
(Ee y4 ({ Files := x3 } : FileTree)).bind fun y5 =>
 if !decide (y5.1 = 0) then
 some (Step.done (Sum.inl (({ Files := [] } : FileTree), ({ Code := y5.1, Index := x2 } : Fault))))
 else
(ckK .i64 (x2 + 1)).bind fun z1 =>
 some (Step.next (z1, y5.2.Files))
 else
 some (Step.done (Sum.inr x3))
def Cp (p_ : TreePatch) (t_ : FileTree) : Option (FileTree × Fault) :=
(Bo p_).bind fun y1 =>
 if !(decide (y1.Code = 0) && decide (y1.Index = 0)) then
 some (({ Files := [] } : FileTree), y1)
 else
(Hu t_ (-2)).bind fun y2 =>
 if !(decide (y2.Code = 0) && decide (y2.Index = 0)) then
 some (({ Files := [] } : FileTree), y2)
 else
(Cb t_).bind fun y3 =>
(De (fun s => Cp.l1 p_ s.1 s.2) (0, y3.Files)).bind fun r1 =>
(match r1 with
| .inl p => some p
| .inr p => Cp.j1 p)
def Gm (c_ : TreeChange) : Option (List ByteArray) :=
 if decide (c_.Kind = 3) then
 some ([c_.Path, c_.To] : List ByteArray)
 else
 some ([c_.Path] : List ByteArray)
def Ba.j1 : Option Bool :=
 some false
def Ba.j2 (x1 : Int) (x3 : Int) : Option (Step Int (Bool ⊕ Unit)) :=
 if decide (x3 ≥ 0) then
 some (Step.done (Sum.inl true))
 else
(ckK .i64 (x1 + 1)).bind fun z1 =>
 some (Step.next z1)
def Ba.j3 (x1 : Int) : Option (Step Int (Bool ⊕ Unit)) :=
 Ba.j2 x1 (-1)
def Ba.l2 (path : ByteArray) (y2 : (List ByteArray)) (x4 : Int) : Option (Step Int (Int ⊕ Unit)) :=
 if decide (x4 < (y2.length : Int)) then
(at? y2 x4).bind fun y3 =>
(Ej y3 path).bind fun y4 =>
 if y4 then
 some (Step.done (Sum.inl x4))
 else
(ckK .i64 (x4 + 1)).bind fun z2 =>
 some (Step.next z2)
 else
 some (Step.done (Sum.inr ()))
def Ba.l1 (path : ByteArray) (changes : (List TreeChange)) (x1 : Int) : Option (Step Int (Bool ⊕ Unit)) :=
 if decide (x1 < (changes.length : Int)) then
(at? changes x1).bind fun y1 =>
(Gm y1).bind fun y2 =>
(De (fun s => Ba.l2 path y2 s) 0).bind fun r2 =>
(match r2 with
| .inl p => Ba.j2 x1 p
| .inr _ => Ba.j3 x1)
 else
 some (Step.done (Sum.inr ()))
def Ba (path : ByteArray) (changes : (List TreeChange)) : Option Bool :=
(De (fun s => Ba.l1 path changes s) 0).bind fun r1 =>
(match r1 with
| .inl p => some p
| .inr _ => Ba.j1)
def B8.j1 : Option Int :=
 some (-1)
def B8.l1 (p_ : TreePatch) (path : ByteArray) (x1 : Int) : Option (Step Int (Int ⊕ Unit)) :=
 if decide (x1 ≥ 0) then
(at? p_.Changes x1).bind fun y1 =>
(Ba path ([y1] : List TreeChange)).bind fun y2 =>
 if y2 then
 some (Step.done (Sum.inl x1))
 else
(ckK .i64 (x1 - 1)).bind fun z2 =>
 some (Step.next z2)
 else
 some (Step.done (Sum.inr ()))
def B8 (p_ : TreePatch) (path : ByteArray) : Option Int :=
(ckK .i64 ((p_.Changes.length : Int) - 1)).bind fun z1 =>
(De (fun s => B8.l1 p_ path s) z1).bind fun r1 =>
(match r1 with
| .inl p => some p
| .inr _ => B8.j1)
def Bk.j1 (s_ : (List ByteArray)) : Option (List ByteArray) :=
 some s_
def Bk.j2 (x1 : Int) : Option (Step Int ((List ByteArray) ⊕ Unit)) :=
(ckK .i64 (x1 + 1)).bind fun z1 =>
 some (Step.next z1)
def Bk.j3 (x3 : Int) (x4 : List ByteArray) : Option (Step Int ((List ByteArray) ⊕ Unit)) :=
(als? x4 x3).bind fun z4 =>
(clr? x4 x3 z4 ByteArray.empty).bind fun y3 =>
(cut? y3 0 x3).bind fun y4 =>
 some (Step.done (Sum.inl y4))
def Bk.j4 (x5 : Int) (x9 : Int) (x10 : List ByteArray) : Option (Step (Int × Int × (List ByteArray)) (Int × (List ByteArray))) :=
(ckK .i64 (x5 + 1)).bind fun z5 =>
 some (Step.next (z5, x9, x10))
def Bk.l2 (x1 : Int) (z3 : Int) (x5 : Int) (x6 : Int) (x7 : List ByteArray) : Option (Step (Int × Int × (List ByteArray)) (Int × (List ByteArray))) :=
 if decide (x5 < z3) then
(atA? x7 x1 z3 x5).bind fun y5 =>
(ckK .i64 (x5 - 1)).bind fun z6 =>
(atA? x7 x1 z3 z6).bind fun y6 =>
 if !decide (y5 = y6) then
(atA? x7 x1 z3 x5).bind fun y7 =>
(at? x7 x6).bind fun y8 =>
(some (x7.set x6.toNat y7)).bind fun y9 =>
(ckK .i64 (x6 + 1)).bind fun z7 =>
 Bk.j4 x5 z7 y9
 else
 Bk.j4 x5 x6 x7
 else
 some (Step.done (x6, x7))
def Bk.l1 (s_ : (List ByteArray)) (x1 : Int) : Option (Step Int ((List ByteArray) ⊕ Unit)) :=
 if decide (x1 < (s_.length : Int)) then
(at? s_ x1).bind fun y1 =>
(ckK .i64 (x1 - 1)).bind fun z2 =>
(at? s_ z2).bind fun y2 =>
 if decide (y1 = y2) then
(als? s_ x1).bind fun z3 =>
(De (fun s => Bk.l2 x1 z3 s.1 s.2.1 s.2.2) (1, x1, s_)).bind fun r2 =>
 Bk.j3 r2.1 r2.2
 else
 Bk.j2 x1
 else
 some (Step.done (Sum.inr ()))
def Bk (s_ : (List ByteArray)) : Option (List ByteArray) :=
 if decide ((s_.length : Int) < 2) then
 some s_
 else
(De (fun s => Bk.l1 s_ s) 1).bind fun r1 =>
(match r1 with
| .inl p => some p
| .inr _ => Bk.j1 s_)
def Bg.j1 (x1 : List ByteArray) : Option (List ByteArray) :=
(sortS? x1).bind fun y1 =>
(Bk y1).bind fun y2 =>
 some y2
def Bg.j2 (x2 : Int) (x5 : List ByteArray) : Option (Step (Int × (List ByteArray)) (List ByteArray)) :=
(ckK .i64 (x2 + 1)).bind fun z1 =>
 some (Step.next (z1, x5))
def Bg.j3 (x2 : Int) (x6 : List ByteArray) : Option (Step (Int × (List ByteArray)) (List ByteArray)) :=
 Bg.j2 x2 x6
def Bg.l2 (y3 : FileTree) (x7 : Int) (x8 : List ByteArray) : Option (Step (Int × (List ByteArray)) (List ByteArray)) :=
 if decide (x7 < (y3.Files.length : Int)) then
(at? y3.Files x7).bind fun y4 =>
(app? 16 x8 ([y4.Path] : List ByteArray)).bind fun y5 =>
(ckK .i64 (x7 + 1)).bind fun z2 =>
 some (Step.next (z2, y5))
 else
 some (Step.done x8)
def Bg.l1 (trees : (List FileTree)) (x2 : Int) (x3 : List ByteArray) : Option (Step (Int × (List ByteArray)) (List ByteArray)) :=
 if decide (x2 < (trees.length : Int)) then
(at? trees x2).bind fun y3 =>
(De (fun s => Bg.l2 y3 s.1 s.2) (0, x3)).bind fun r2 =>
 Bg.j3 x2 r2
 else
 some (Step.done x3)
def Bg (trees : (List FileTree)) : Option (List ByteArray) :=
(De (fun s => Bg.l1 trees s.1 s.2) (0, [])).bind fun r1 =>
 Bg.j1 r1
def Ey (t_ : FileTree) (path : ByteArray) : Option Version_treecommute :=
(Bz t_.Files path).bind fun y1 =>
 if !y1.2 then
 some ({ is := false, lines := [] } : Version_treecommute)
 else
(at? t_.Files y1.1).bind fun y2 =>
 some ({ is := true, lines := y2.Lines } : Version_treecommute)
def Ho (a_ : (List ByteArray)) (b_ : (List ByteArray)) : Option Fault :=
(Cd a_).bind fun y1 =>
 if !(decide (y1.Code = 0) && decide (y1.Index = 0)) then
 some y1
 else
(Ep b_ (-2)).bind fun y2 =>
 some y2
def Gc (i_ : Int) (j : Int) (u2 : (List Int)) (u3 : Int) : Option Int :=
(ckK .i64 (i_ * u3)).bind fun z1 =>
(ckK .i64 (z1 + j)).bind fun z2 =>
(at? u2 z2).bind fun y1 =>
 some y1
def Bt.j2 (x2 : List Int) : Option (List Int) :=
 some x2
def Bt.l1 (a_ : (List ByteArray)) (b_ : (List ByteArray)) (z1 : Int) (x1 : List Int) (x3 : Int) (x4 : Int) (x5 : List Int) : Option (Step (Int × Int × (List Int)) (List Int)) :=
(if decide (x4 < (a_.length : Int)) then some true else some (decide (x3 < (b_.length : Int)))).bind fun x7 =>
 if x7 then
(if decide (x4 < (a_.length : Int)) then some (decide (x3 < (b_.length : Int))) else some false).bind fun x8 =>
(if x8 then (at? a_ x4).bind fun y2 =>
(at? b_ x3).bind fun y3 =>
 some (decide (y2 = y3)) else some false).bind fun x9 =>
 if x9 then
(app? 8 x5 ([0] : List Int)).bind fun y4 =>
(ckK .i64 (x4 + 1)).bind fun z4 =>
(ckK .i64 (x3 + 1)).bind fun z5 =>
 some (Step.next (z5, z4, y4))
 else
(if decide (x3 = (b_.length : Int)) then some true else (if decide (x4 < (a_.length : Int)) then (ckK .i64 (x4 + 1)).bind fun z6 =>
(Gc z6 x3 x1 z1).bind fun y5 =>
(ckK .i64 (x3 + 1)).bind fun z7 =>
(Gc x4 z7 x1 z1).bind fun y6 =>
 some (decide (y5 ≥ y6)) else some false).bind fun x11 =>
 some x11).bind fun x10 =>
 if x10 then
(app? 8 x5 ([1] : List Int)).bind fun y7 =>
(ckK .i64 (x4 + 1)).bind fun z8 =>
 some (Step.next (x3, z8, y7))
 else
(app? 8 x5 ([2] : List Int)).bind fun y8 =>
(ckK .i64 (x3 + 1)).bind fun z9 =>
 some (Step.next (z9, x4, y8))
 else
 some (Step.done x5)
def Bt.j1 (a_ : (List ByteArray)) (b_ : (List ByteArray)) (z1 : Int) (x1 : List Int) : Option (List Int) :=
(De (fun s => Bt.l1 a_ b_ z1 x1 s.1 s.2.1 s.2.2) (0, 0, [])).bind fun r1 =>
 Bt.j2 r1
def Bt.j3 (x12 : Int) (x15 : List Int) : Option (Step (Int × (List Int)) (List Int)) :=
(ckK .i64 (x12 - 1)).bind fun z11 =>
 some (Step.next (z11, x15))
def Bt.j4 (x12 : Int) (x16 : List Int) : Option (Step (Int × (List Int)) (List Int)) :=
 Bt.j3 x12 x16
def Bt.j5 (z1 : Int) (x12 : Int) (x17 : Int) (x18 : List Int) (x20 : Int) : Option (Step (Int × (List Int)) (List Int)) :=
(ckK .i64 (x12 * z1)).bind fun z15 =>
(ckK .i64 (z15 + x17)).bind fun z16 =>
(at? x18 z16).bind fun y11 =>
(some (x18.set z16.toNat x20)).bind fun y12 =>
(ckK .i64 (x17 - 1)).bind fun z17 =>
 some (Step.next (z17, y12))
def Bt.l3 (a_ : (List ByteArray)) (b_ : (List ByteArray)) (z1 : Int) (x12 : Int) (x17 : Int) (x18 : List Int) : Option (Step (Int × (List Int)) (List Int)) :=
 if decide (x17 ≥ 0) then
(ckK .i64 (x12 + 1)).bind fun z13 =>
(Gc z13 x17 x18 z1).bind fun y9 =>
(ckK .i64 (x17 + 1)).bind fun z14 =>
(Gc x12 z14 x18 z1).bind fun y10 =>
(at? a_ x12).bind fun y13 =>
(at? b_ x17).bind fun y14 =>
 if decide (y13 = y14) then
(ckK .i64 (x12 + 1)).bind fun z18 =>
(ckK .i64 (x17 + 1)).bind fun z19 =>
(Gc z18 z19 x18 z1).bind fun y15 =>
(ckK .i64 (y15 + 1)).bind fun z20 =>
 Bt.j5 z1 x12 x17 x18 z20
 else
 Bt.j5 z1 x12 x17 x18 (max y9 y10)
 else
 some (Step.done x18)
def Bt.l2 (a_ : (List ByteArray)) (b_ : (List ByteArray)) (z1 : Int) (x12 : Int) (x13 : List Int) : Option (Step (Int × (List Int)) (List Int)) :=
 if decide (x12 ≥ 0) then
(ckK .i64 ((b_.length : Int) - 1)).bind fun z12 =>
(De (fun s => Bt.l3 a_ b_ z1 x12 s.1 s.2) (z12, x13)).bind fun r3 =>
 Bt.j4 x12 r3
 else
 some (Step.done x13)
def Bt (a_ : (List ByteArray)) (b_ : (List ByteArray)) : Option (List Int) :=
(ckK .i64 ((b_.length : Int) + 1)).bind fun z1 =>
(ckK .i64 ((a_.length : Int) + 1)).bind fun z2 =>
(ckK .i64 (z2 * z1)).bind fun z3 =>
(mk? 8 z3 (0 : Int)).bind fun y1 =>
(ckK .i64 ((a_.length : Int) - 1)).bind fun z10 =>
(De (fun s => Bt.l2 a_ b_ z1 s.1 s.2) (z10, y1)).bind fun r2 =>
 Bt.j1 a_ b_ z1 r2
def Gk (c_ : Collector_diff) (n_ : Int) : Option Collector_diff :=
 if decide (n_ > 0) then
(ckK .i64 (c_.at_ + n_)).bind fun z1 =>
 some ({ hunks := c_.hunks, at_ := z1, open_ := false } : Collector_diff)
 else
 some c_
def C2.j1 (c_ : Collector_diff) (line : ByteArray) (x1 : List Hunk) (x2 : Bool) : Option Collector_diff :=
(ckK .i64 ((x1.length : Int) - 1)).bind fun z1 =>
(at? x1 z1).bind fun y1 =>
(app? 16 y1.Old ([line] : List ByteArray)).bind fun y2 =>
(ckK .i64 (c_.at_ + 1)).bind fun z2 =>
(some (x1.set z1.toNat ({ At := y1.At, Old := y2, New := y1.New } : Hunk))).bind fun y3 =>
 some ({ hunks := y3, at_ := z2, open_ := x2 } : Collector_diff)
def C2 (c_ : Collector_diff) (line : ByteArray) : Option Collector_diff :=
 if !c_.open_ then
(app? 56 c_.hunks ([({ At := c_.at_, Old := [], New := [] } : Hunk)] : List Hunk)).bind fun y4 =>
 C2.j1 c_ line y4 true
 else
 C2.j1 c_ line c_.hunks c_.open_
def C3.j1 (c_ : Collector_diff) (line : ByteArray) (x1 : List Hunk) (x2 : Bool) : Option Collector_diff :=
(ckK .i64 ((x1.length : Int) - 1)).bind fun z1 =>
(at? x1 z1).bind fun y1 =>
(app? 16 y1.New ([line] : List ByteArray)).bind fun y2 =>
(some (x1.set z1.toNat ({ At := y1.At, Old := y1.Old, New := y2 } : Hunk))).bind fun y3 =>
 some ({ hunks := y3, at_ := c_.at_, open_ := x2 } : Collector_diff)
def C3 (c_ : Collector_diff) (line : ByteArray) : Option Collector_diff :=
 if !c_.open_ then
(app? 56 c_.hunks ([({ At := c_.at_, Old := [], New := [] } : Hunk)] : List Hunk)).bind fun y4 =>
 C3.j1 c_ line y4 true
 else
 C3.j1 c_ line c_.hunks c_.open_
def Cn.j1 (x1 : List Hunk) (x2 : Int) (x3 : Bool) : Option (Patch × Fault) :=
 some (({ Hunks := x1 } : Patch), ({ Code := 0, Index := 0 } : Fault))
def Cn.j2 (x4 : Int) (x11 : Int) (x12 : Int) (x13 : List Hunk) (x14 : Int) (x15 : Bool) : Option (Step (Int × Int × Int × (List Hunk) × Int × Bool) ((List Hunk) × Int × Bool)) :=
(ckK .i64 (x4 + 1)).bind fun z1 =>
 some (Step.next (z1, x11, x12, x13, x14, x15))
def Cn.l1 (a_ : (List ByteArray)) (b_ : (List ByteArray)) (y2 : (List Int)) (x4 : Int) (x5 : Int) (x6 : Int) (x7 : List Hunk) (x8 : Int) (x9 : Bool) : Option (Step (Int × Int × Int × (List Hunk) × Int × Bool) ((List Hunk) × Int × Bool)) :=
 if decide (x4 < (y2.length : Int)) then
(at? y2 x4).bind fun y3 =>
 if decide (y3 = 0) then
(Gk ({ hunks := x7, at_ := x8, open_ := x9 } : Collector_diff) 1).bind fun y4 =>
(ckK .i64 (x6 + 1)).bind fun z2 =>
(ckK .i64 (x5 + 1)).bind fun z3 =>
 Cn.j2 x4 z3 z2 y4.hunks y4.at_ y4.open_
 else
 if decide (y3 = 1) then
(at? a_ x6).bind fun y5 =>
(C2 ({ hunks := x7, at_ := x8, open_ := x9 } : Collector_diff) y5).bind fun y6 =>
(ckK .i64 (x6 + 1)).bind fun z4 =>
 Cn.j2 x4 x5 z4 y6.hunks y6.at_ y6.open_
 else
(at? b_ x5).bind fun y7 =>
(C3 ({ hunks := x7, at_ := x8, open_ := x9 } : Collector_diff) y7).bind fun y8 =>
(ckK .i64 (x5 + 1)).bind fun z5 =>
 Cn.j2 x4 z5 x6 y8.hunks y8.at_ y8.open_
 else
 some (Step.done (x7, x8, x9))
def Cn (a_ : (List ByteArray)) (b_ : (List ByteArray)) : Option (Patch × Fault) :=
(Ho a_ b_).bind fun y1 =>
 if !(decide (y1.Code = 0) && decide (y1.Index = 0)) then
 some (({ Hunks := [] } : Patch), y1)
 else
(Bt a_ b_).bind fun y2 =>
(De (fun s => Cn.l1 a_ b_ y2 s.1 s.2.1 s.2.2.1 s.2.2.2.1 s.2.2.2.2.1 s.2.2.2.2.2) (0, 0, 0, [], 0, false)).bind fun r1 =>
 Cn.j1 r1.1 r1.2.1 r1.2.2
def H2 (h_ : Hunk) : Option Int :=
(ckK .i64 ((h_.New.length : Int) - (h_.Old.length : Int))).bind fun z1 =>
 some z1
def Cm.j1 (x1 : List Range_commute) : Option (List Range_commute) :=
 some x1
def Cm.l1 (p_ : Patch) (x2 : Int) (x3 : List Range_commute) : Option (Step (Int × (List Range_commute)) (List Range_commute)) :=
 if decide (x2 < (p_.Hunks.length : Int)) then
(at? p_.Hunks x2).bind fun y1 =>
(Gb y1).bind fun y2 =>
(H2 y1).bind fun y3 =>
(app? 24 x3 ([({ Low := y1.At, High := y2, Growth := y3 } : Range_commute)] : List Range_commute)).bind fun y4 =>
(ckK .i64 (x2 + 1)).bind fun z1 =>
 some (Step.next (z1, y4))
 else
 some (Step.done x3)
def Cm (p_ : Patch) : Option (List Range_commute) :=
(De (fun s => Cm.l1 p_ s.1 s.2) (0, [])).bind fun r1 =>
 Cm.j1 r1
def Db (a_ : RangeX_commute) (b_ : RangeX_commute) : Option Int :=
 if !decide (a_.Low = b_.Low) then
(ckK .i64 (a_.Low - b_.Low)).bind fun z1 =>
 some z1
 else
(ckK .i64 (a_.High - b_.High)).bind fun z2 =>
 some z2
def Kc (a_ : RangeX_commute) (b_ : RangeX_commute) : Option Bool :=
(if decide (a_.High ≥ b_.Low) then some (decide (b_.High ≥ a_.Low)) else some false).bind fun x1 =>
 some x1
def Ck.j1 (x1 : List RangeX_commute) : Option (List RangeX_commute) :=
 some x1
def Ck.j2 (x2 : Int) (x5 : List RangeX_commute) : Option (Step (Int × (List RangeX_commute)) (List RangeX_commute)) :=
(ckK .i64 (x2 + 1)).bind fun z1 =>
 some (Step.next (z1, x5))
def Ck.l1 (y4 : List RangeX_commute) (x2 : Int) (x3 : List RangeX_commute) : Option (Step (Int × (List RangeX_commute)) (List RangeX_commute)) :=
 if decide (x2 < (y4.length : Int)) then
(at? y4 x2).bind fun y5 =>
(if decide ((x3.length : Int) > 0) then (ckK .i64 ((x3.length : Int) - 1)).bind fun z2 =>
(at? x3 z2).bind fun y6 =>
(Kc y6 y5).bind fun y7 =>
 some y7 else some false).bind fun x6 =>
 if x6 then
(ckK .i64 ((x3.length : Int) - 1)).bind fun z3 =>
(ckK .i64 ((x3.length : Int) - 1)).bind fun z4 =>
(at? x3 z4).bind fun y8 =>
(at? x3 z3).bind fun y9 =>
(some (x3.set z3.toNat ({ Low := y9.Low, High := max y8.High y5.High, Growth := y9.Growth } : RangeX_commute))).bind fun y10 =>
 Ck.j2 x2 y10
 else
(app? 24 x3 ([y5] : List RangeX_commute)).bind fun y11 =>
 Ck.j2 x2 y11
 else
 some (Step.done x3)
def Ck (p_ : Patch) (q_ : Patch) : Option (List RangeX_commute) :=
(Cm p_).bind fun y1 =>
(Cm q_).bind fun y2 =>
(app? 24 (y1.map Gs) (y2.map Gs)).bind fun y3 =>
(sortM Db y3).bind fun y4 =>
(De (fun s => Ck.l1 y4 s.1 s.2) (0, [])).bind fun r1 =>
 Ck.j1 r1
def Cu.j1 (l_ : (List ByteArray)) (x1 : List Chunk) : Option Merger_merge3 :=
(ckK .i64 ((x1.length : Int) - 1)).bind fun z1 =>
(at? x1 z1).bind fun y1 =>
(app? 16 y1.Lines l_).bind fun y2 =>
(some (x1.set z1.toNat ({ Conflict := y1.Conflict, Lines := y2, Base := y1.Base, Left := y1.Left, Right := y1.Right } : Chunk))).bind fun y3 =>
 some ({ out := y3 } : Merger_merge3)
def Cu (m_ : Merger_merge3) (l_ : (List ByteArray)) : Option Merger_merge3 :=
 if decide ((l_.length : Int) = 0) then
 some m_
 else
(if decide ((m_.out.length : Int) = 0) then some true else (ckK .i64 ((m_.out.length : Int) - 1)).bind fun z2 =>
(at? m_.out z2).bind fun y4 =>
 some y4.Conflict).bind fun x2 =>
 if x2 then
(app? 104 m_.out ([({ Conflict := false, Lines := [], Base := [], Left := [], Right := [] } : Chunk)] : List Chunk)).bind fun y5 =>
 Cu.j1 l_ y5
 else
 Cu.j1 l_ m_.out
def Cs.j1 (x1 : List Hunk) : Option (List Hunk) :=
 some x1
def Cs.j2 (x2 : Int) (x5 : List Hunk) : Option (Step (Int × (List Hunk)) (List Hunk)) :=
(ckK .i64 (x2 + 1)).bind fun z1 =>
 some (Step.next (z1, x5))
def Cs.l1 (p_ : Patch) (r_ : RangeX_commute) (x2 : Int) (x3 : List Hunk) : Option (Step (Int × (List Hunk)) (List Hunk)) :=
 if decide (x2 < (p_.Hunks.length : Int)) then
(at? p_.Hunks x2).bind fun y1 =>
(if decide (y1.At ≥ r_.Low) then (Gb y1).bind fun y2 =>
 some (decide (y2 ≤ r_.High)) else some false).bind fun x6 =>
 if x6 then
(app? 56 x3 ([y1] : List Hunk)).bind fun y3 =>
 Cs.j2 x2 y3
 else
 Cs.j2 x2 x3
 else
 some (Step.done x3)
def Cs (p_ : Patch) (r_ : RangeX_commute) : Option (List Hunk) :=
(De (fun s => Cs.l1 p_ r_ s.1 s.2) (0, [])).bind fun r1 =>
 Cs.j1 r1
def Cl.j1 (base : (List ByteArray)) (x1 : Int) (x2 : List Chunk) : Option ((List Chunk) × Fault) :=
(cut? base x1 (base.length : Int)).bind fun y5 =>
(Cu ({ out := x2 } : Merger_merge3) y5).bind fun y6 =>
 some (y6.out, ({ Code := 0, Index := 0 } : Fault))
def Cl.j2 (x3 : Int) (x7 : Int) (x8 : List Chunk) : Option (Step (Int × Int × (List Chunk)) (Int × (List Chunk))) :=
(ckK .i64 (x3 + 1)).bind fun z1 =>
 some (Step.next (z1, x7, x8))
def Cl.l1 (base : (List ByteArray)) (y3 : Patch × Fault) (y4 : Patch × Fault) (y7 : (List RangeX_commute)) (x3 : Int) (x4 : Int) (x5 : List Chunk) : Option (Step (Int × Int × (List Chunk)) (Int × (List Chunk))) :=
 if decide (x3 < (y7.length : Int)) then
(at? y7 x3).bind fun y8 =>
(cut? base x4 y8.Low).bind fun y9 =>
(Cu ({ out := x5 } : Merger_merge3) y9).bind fun y10 =>
(Cs y3.1 y8).bind fun y11 =>
(Cs y4.1 y8).bind fun y12 =>
(B6 y11 base y8.Low y8.High).bind fun y13 =>
(B6 y12 base y8.Low y8.High).bind fun y14 =>
(if decide ((y12.length : Int) = 0) then some true else (C8 y13 y14).bind fun y15 =>
 some y15).bind fun x9 =>
 if x9 then
(Cu y10 y13).bind fun y16 =>
 Cl.j2 x3 y8.High y16.out
 else
 if decide ((y11.length : Int) = 0) then
(Cu y10 y14).bind fun y17 =>
 Cl.j2 x3 y8.High y17.out
 else
(cut? base y8.Low y8.High).bind fun y18 =>
(Gd y18).bind fun y19 =>
(app? 104 y10.out ([({ Conflict := true, Lines := [], Base := y19, Left := y13, Right := y14 } : Chunk)] : List Chunk)).bind fun y20 =>
 Cl.j2 x3 y8.High y20
 else
 some (Step.done (x4, x5))
def Cl (base : (List ByteArray)) (left : (List ByteArray)) (right : (List ByteArray)) : Option ((List Chunk) × Fault) :=
(Ho base left).bind fun y1 =>
 if !(decide (y1.Code = 0) && decide (y1.Index = 0)) then
 some ([], y1)
 else
(Ep right (-3)).bind fun y2 =>
 if !(decide (y2.Code = 0) && decide (y2.Index = 0)) then
 some ([], y2)
 else
(Cn base left).bind fun y3 =>
(Cn base right).bind fun y4 =>
(Ck y3.1 y4.1).bind fun y7 =>
(De (fun s => Cl.l1 base y3 y4 y7 s.1 s.2.1 s.2.2) (0, 0, [])).bind fun r1 =>
 Cl.j1 base r1.1 r1.2
def Bn.j1 : Option Fault :=
 some ({ Code := 0, Index := 0 } : Fault)
def Bn.j2 (x1 : Int) : Option (Step Int (Fault ⊕ Unit)) :=
(ckK .i64 (x1 + 1)).bind fun z1 =>
 some (Step.next z1)
def Bn.j3 (x1 : Int) (y1 : Chunk) : Option (Step Int (Fault ⊕ Unit)) :=
(ckK .i64 ((y1.Base.length : Int) + (y1.Left.length : Int))).bind fun z2 =>
(ckK .i64 (z2 + (y1.Right.length : Int))).bind fun z3 =>
(if y1.Conflict then some (decide ((y1.Lines.length : Int) > 0)) else some false).bind fun x3 =>
(if x3 then some true else (if !y1.Conflict then (if decide ((y1.Lines.length : Int) = 0) then some true else some (decide (z3 > 0))).bind fun x6 =>
 some x6 else some false).bind fun x5 =>
 some x5).bind fun x4 =>
 if x4 then
 some (Step.done (Sum.inl ({ Code := 5, Index := x1 } : Fault)))
 else
 Bn.j2 x1
def Bn.l2 (x1 : Int) (y1 : Chunk) (x7 : Int) : Option (Step Int (Fault ⊕ Unit)) :=
 if decide (x7 < 4) then
(at? ([y1.Lines, y1.Base, y1.Left, y1.Right] : List (List ByteArray)) x7).bind fun y2 =>
(Ep y2 x1).bind fun y3 =>
 if !(decide (y3.Code = 0) && decide (y3.Index = 0)) then
 some (Step.done (Sum.inl y3))
 else
(ckK .i64 (x7 + 1)).bind fun z4 =>
 some (Step.next z4)
 else
 some (Step.done (Sum.inr ()))
def Bn.l1 (chunks : (List Chunk)) (x1 : Int) : Option (Step Int (Fault ⊕ Unit)) :=
 if decide (x1 < (chunks.length : Int)) then
(at? chunks x1).bind fun y1 =>
(De (fun s => Bn.l2 x1 y1 s) 0).bind fun r2 =>
(match r2 with
| .inl p => some (Step.done (Sum.inl p))
| .inr _ => Bn.j3 x1 y1)
 else
 some (Step.done (Sum.inr ()))
def Bn (chunks : (List Chunk)) : Option Fault :=
 if decide ((chunks.length : Int) > 240) then
 some ({ Code := 2, Index := (-1) } : Fault)
 else
(De (fun s => Bn.l1 chunks s) 0).bind fun r1 =>
(match r1 with
| .inl p => some p
| .inr _ => Bn.j1)
def L8 (l_ : (List ByteArray)) : Option ((List ByteArray) × Fault) :=
 if decide ((l_.length : Int) > 120) then
 some ([], ({ Code := 10, Index := (-1) } : Fault))
 else
 some (l_, ({ Code := 0, Index := 0 } : Fault))
def Co.j1 (x1 : List ByteArray) : Option ((List ByteArray) × Bool × Fault) :=
(L8 x1).bind fun y2 =>
 some (y2.1, decide (y2.2.Code = 0) && decide (y2.2.Index = 0), y2.2)
def Co.l1 (chunks : (List Chunk)) (x2 : Int) (x3 : List ByteArray) : Option (Step (Int × (List ByteArray)) (((List ByteArray) × Bool × Fault) ⊕ (List ByteArray))) :=
 if decide (x2 < (chunks.length : Int)) then
(at? chunks x2).bind fun y3 =>
 if y3.Conflict then
 some (Step.done (Sum.inl ([], false, ({ Code := 0, Index := 0 } : Fault))))
 else
(app? 16 x3 y3.Lines).bind fun y4 =>
(ckK .i64 (x2 + 1)).bind fun z1 =>
 some (Step.next (z1, y4))
 else
 some (Step.done (Sum.inr x3))
def Co (chunks : (List Chunk)) : Option ((List ByteArray) × Bool × Fault) :=
(Bn chunks).bind fun y1 =>
 if !(decide (y1.Code = 0) && decide (y1.Index = 0)) then
 some ([], false, y1)
 else
(De (fun s => Co.l1 chunks s.1 s.2) (0, [])).bind fun r1 =>
(match r1 with
| .inl p => some p
| .inr p => Co.j1 p)
def E9 (a_ : Version_treecommute) (b_ : Version_treecommute) : Option Bool :=
(if decide (a_.is = b_.is) then (C8 a_.lines b_.lines).bind fun y1 =>
 some y1 else some false).bind fun x1 =>
 some x1
def Du.j1 (left : Version_treecommute) : Option (Version_treecommute × Bool) :=
 some (left, false)
def Du (base : Version_treecommute) (left : Version_treecommute) (right : Version_treecommute) : Option (Version_treecommute × Bool) :=
(E9 right base).bind fun y1 =>
(if y1 then some true else (E9 right left).bind fun y2 =>
 some y2).bind fun x1 =>
 if x1 then
 some (left, true)
 else
(E9 left base).bind fun y3 =>
 if y3 then
 some (right, true)
 else
(if base.is then some left.is else some false).bind fun x2 =>
(if x2 then some right.is else some false).bind fun x3 =>
 if x3 then
(Cl base.lines left.lines right.lines).bind fun y4 =>
 if decide (y4.2.Code = 0) && decide (y4.2.Index = 0) then
(Co y4.1).bind fun y5 =>
(if y5.2.1 then some (decide (y5.2.2.Code = 0) && decide (y5.2.2.Index = 0)) else some false).bind fun x4 =>
 if x4 then
 some (({ is := true, lines := y5.1 } : Version_treecommute), true)
 else
 Du.j1 left
 else
 Du.j1 left
 else
 Du.j1 left
def Ap.j3 (x1 : List Arr2_Int) (x6 : List Arr2_Int) (x7 : List File) : Option (FileTree × (List Arr2_Int) × Fault) :=
 if decide ((x7.length : Int) > 24) then
 some (({ Files := [] } : FileTree), [], ({ Code := 10, Index := (-1) } : Fault))
 else
(app? 16 x1 x6).bind fun y4 =>
 some (({ Files := x7 } : FileTree), y4, ({ Code := 0, Index := 0 } : Fault))
def Ap.j4 (x8 : Int) (x12 : List Arr2_Int) (x13 : List File) : Option (Step (Int × (List Arr2_Int) × (List File)) ((List Arr2_Int) × (List File))) :=
(ckK .i64 (x8 + 1)).bind fun z1 =>
 some (Step.next (z1, x12, x13))
def Ap.l1 (left : TreePatch) (right : TreePatch) (x2 : List File) (x5 : List File) (x8 : Int) (x9 : List Arr2_Int) (x10 : List File) : Option (Step (Int × (List Arr2_Int) × (List File)) ((List Arr2_Int) × (List File))) :=
 if decide (x8 < (x2.length : Int)) then
(at? x2 x8).bind fun y5 =>
(B3 x5 y5.Path (-1)).bind fun y6 =>
 if y6 then
(B8 left y5.Path).bind fun y7 =>
(B8 right y5.Path).bind fun y8 =>
(app? 16 x9 ([({ e0 := y7, e1 := y8 } : Arr2_Int)] : List Arr2_Int)).bind fun y9 =>
 Ap.j4 x8 y9 x10
 else
(Dv ({ Files := x10 } : FileTree) y5.Path y5.Lines).bind fun y10 =>
 Ap.j4 x8 x9 y10.Files
 else
 some (Step.done (x9, x10))
def Ap.j2 (left : TreePatch) (right : TreePatch) (x1 : List Arr2_Int) (x2 : List File) (x3 : List File) (x5 : List File) : Option (FileTree × (List Arr2_Int) × Fault) :=
(De (fun s => Ap.l1 left right x2 x5 s.1 s.2.1 s.2.2) (0, [], x3)).bind fun r1 =>
 Ap.j3 x1 r1.1 r1.2
def Ap.j5 (x14 : Int) (x17 : List File) : Option (Step (Int × (List File)) (List File)) :=
(ckK .i64 (x14 + 1)).bind fun z2 =>
 some (Step.next (z2, x17))
def Ap.l2 (x3 : List File) (x4 : List File) (x14 : Int) (x15 : List File) : Option (Step (Int × (List File)) (List File)) :=
 if decide (x14 < (x3.length : Int)) then
(at? x3 x14).bind fun y11 =>
(Ey ({ Files := x4 } : FileTree) y11.Path).bind fun y12 =>
 if !y12.is then
(app? 40 x15 ([y11] : List File)).bind fun y13 =>
 Ap.j5 x14 y13
 else
 Ap.j5 x14 x15
 else
 some (Step.done x15)
def Ap.j1 (left : TreePatch) (right : TreePatch) (x1 : List Arr2_Int) (x2 : List File) (x3 : List File) (x4 : List File) : Option (FileTree × (List Arr2_Int) × Fault) :=
(De (fun s => Ap.l2 x3 x4 s.1 s.2) (0, [])).bind fun r2 =>
 Ap.j2 left right x1 x2 x3 r2
def Ap.j6 (x18 : Int) (x23 : List Arr2_Int) (x24 : List File) (x25 : List File) : Option (Step (Int × (List Arr2_Int) × (List File) × (List File)) ((List Arr2_Int) × (List File) × (List File) × (List File))) :=
(ckK .i64 (x18 + 1)).bind fun z3 =>
 some (Step.next (z3, x23, x24, x25))
def Ap.j8 (x18 : Int) (x20 : List File) (x21 : List File) (y15 : ByteArray) (y16 : Version_treecommute) (y19 : Version_treecommute × Bool) (x27 : List Arr2_Int) : Option (Step (Int × (List Arr2_Int) × (List File) × (List File)) ((List Arr2_Int) × (List File) × (List File) × (List File))) :=
(if y19.1.is then some y16.is else some false).bind fun x28 =>
 if x28 then
(Dv ({ Files := x21 } : FileTree) y15 y19.1.lines).bind fun y20 =>
 Ap.j6 x18 x27 x20 y20.Files
 else
 if y19.1.is then
(Dv ({ Files := x20 } : FileTree) y15 y19.1.lines).bind fun y21 =>
 Ap.j6 x18 x27 y21.Files x21
 else
 Ap.j6 x18 x27 x20 x21
def Ap.j7 (left : TreePatch) (right : TreePatch) (x18 : Int) (x19 : List Arr2_Int) (x20 : List File) (x21 : List File) (y15 : ByteArray) (y16 : Version_treecommute) (y19 : Version_treecommute × Bool) : Option (Step (Int × (List Arr2_Int) × (List File) × (List File)) ((List Arr2_Int) × (List File) × (List File) × (List File))) :=
 if !y19.2 then
(B8 left y15).bind fun y22 =>
(B8 right y15).bind fun y23 =>
(app? 16 x19 ([({ e0 := y22, e1 := y23 } : Arr2_Int)] : List Arr2_Int)).bind fun y24 =>
 Ap.j8 x18 x20 x21 y15 y16 y19 y24
 else
 Ap.j8 x18 x20 x21 y15 y16 y19 x19
def Ap.l3 (base : FileTree) (left : TreePatch) (right : TreePatch) (y2 : FileTree × Fault) (y3 : FileTree × Fault) (y14 : (List ByteArray)) (x18 : Int) (x19 : List Arr2_Int) (x20 : List File) (x21 : List File) : Option (Step (Int × (List Arr2_Int) × (List File) × (List File)) ((List Arr2_Int) × (List File) × (List File) × (List File))) :=
 if decide (x18 < (y14.length : Int)) then
(at? y14 x18).bind fun y15 =>
(Ey y2.1 y15).bind fun y16 =>
(Ey base y15).bind fun y17 =>
(Ey y3.1 y15).bind fun y18 =>
(Du y17 y16 y18).bind fun y19 =>
 Ap.j7 left right x18 x19 x20 x21 y15 y16 y19
 else
 some (Step.done (x19, x20, x21, y3.1.Files))
def Ap (base : FileTree) (left : TreePatch) (right : TreePatch) : Option (FileTree × (List Arr2_Int) × Fault) :=
(Cj base).bind fun y1 =>
 if !(decide (y1.Code = 0) && decide (y1.Index = 0)) then
 some (({ Files := [] } : FileTree), [], y1)
 else
(Cp left base).bind fun y2 =>
 if !(decide (y2.2.Code = 0) && decide (y2.2.Index = 0)) then
 some (({ Files := [] } : FileTree), [], ({ Code := y2.2.Code, Index := (-2) } : Fault))
 else
(Cp right base).bind fun y3 =>
 if !(decide (y3.2.Code = 0) && decide (y3.2.Index = 0)) then
 some (({ Files := [] } : FileTree), [], ({ Code := y3.2.Code, Index := (-3) } : Fault))
 else
(Bg ([base, y2.1, y3.1] : List FileTree)).bind fun y14 =>
(De (fun s => Ap.l3 base left right y2 y3 y14 s.1 s.2.1 s.2.2.1 s.2.2.2) (0, [], [], [])).bind fun r3 =>
 Ap.j1 left right r3.1 r3.2.1 r3.2.2.1 r3.2.2.2
def Bs.j1 : Option Bool :=
 some true
def Bs.l1 (a_ : (List ByteArray)) (b_ : (List ByteArray)) (x1 : Int) : Option (Step Int (Bool ⊕ Unit)) :=
 if decide (x1 < (a_.length : Int)) then
(at? a_ x1).bind fun y1 =>
(at? b_ x1).bind fun y2 =>
 if !decide (y1 = y2) then
 some (Step.done (Sum.inl false))
 else
(ckK .i64 (x1 + 1)).bind fun z1 =>
 some (Step.next z1)
 else
 some (Step.done (Sum.inr ()))
def Bs (a_ : (List ByteArray)) (b_ : (List ByteArray)) : Option Bool :=
 if !decide ((a_.length : Int) = (b_.length : Int)) then
 some false
 else
(De (fun s => Bs.l1 a_ b_ s) 0).bind fun r1 =>
(match r1 with
| .inl p => some p
| .inr _ => Bs.j1)
def Bw.j1 : Option Bool :=
 some true
def Bw.l1 (a_ : FileTree) (b_ : FileTree) (x1 : Int) : Option (Step Int (Bool ⊕ Unit)) :=
 if decide (x1 < (a_.Files.length : Int)) then
(at? a_.Files x1).bind fun y1 =>
(at? b_.Files x1).bind fun y2 =>
(if !decide (y1.Path = y2.Path) then some true else (at? a_.Files x1).bind fun y3 =>
(at? b_.Files x1).bind fun y4 =>
(Bs y3.Lines y4.Lines).bind fun y5 =>
 some !y5).bind fun x3 =>
 if x3 then
 some (Step.done (Sum.inl false))
 else
(ckK .i64 (x1 + 1)).bind fun z1 =>
 some (Step.next z1)
 else
 some (Step.done (Sum.inr ()))
def Bw (a_ : FileTree) (b_ : FileTree) : Option Bool :=
 if !decide ((a_.Files.length : Int) = (b_.Files.length : Int)) then
 some false
 else
(De (fun s => Bw.l1 a_ b_ s) 0).bind fun r1 =>
(match r1 with
| .inl p => some p
| .inr _ => Bw.j1)
def Da.j1 (x1 : List Hunk) : Option Patch :=
 some ({ Hunks := x1 } : Patch)
def Da.l1 (p_ : Patch) (x2 : Int) (x3 : List Hunk) : Option (Step (Int × (List Hunk)) (List Hunk)) :=
 if decide (x2 < (p_.Hunks.length : Int)) then
(at? p_.Hunks x2).bind fun y1 =>
(Gd y1.Old).bind fun y2 =>
(Gd y1.New).bind fun y3 =>
(app? 56 x3 ([({ At := y1.At, Old := y2, New := y3 } : Hunk)] : List Hunk)).bind fun y4 =>
(ckK .i64 (x2 + 1)).bind fun z1 =>
 some (Step.next (z1, y4))
 else
 some (Step.done x3)
def Da (p_ : Patch) : Option Patch :=
(De (fun s => Da.l1 p_ s.1 s.2) (0, [])).bind fun r1 =>
 Da.j1 r1
def Ex (c_ : TreeChange) : Option TreeChange :=
(Gd c_.Lines).bind fun y1 =>
(Da c_.Patch).bind fun y2 =>
 some ({ Kind := c_.Kind, Path := c_.Path, To := c_.To, Lines := y1, Patch := y2 } : TreeChange)
def E6 (p_ : TreePatch) (index : Int) : Option Fault :=
(Bo p_).bind fun y1 =>
 if !(decide (y1.Code = 0) && decide (y1.Index = 0)) then
 some ({ Code := y1.Code, Index := index } : Fault)
 else
 some ({ Code := 0, Index := 0 } : Fault)
def Bh.j1 (x1 : Int) : Option Bool :=
 some (!(decide (x1 ≥ 0)))
def Bh.j2 : Option Bool :=
 Bh.j1 (-1)
def Bh.l1 (b_ : TreeChange) (y1 : (List ByteArray)) (x2 : Int) : Option (Step Int (Int ⊕ Unit)) :=
 if decide (x2 < (y1.length : Int)) then
(at? y1 x2).bind fun y2 =>
(Ba y2 ([b_] : List TreeChange)).bind fun y3 =>
 if y3 then
 some (Step.done (Sum.inl x2))
 else
(ckK .i64 (x2 + 1)).bind fun z1 =>
 some (Step.next z1)
 else
 some (Step.done (Sum.inr ()))
def Bh (a_ : TreeChange) (b_ : TreeChange) : Option Bool :=
(Gm a_).bind fun y1 =>
(De (fun s => Bh.l1 b_ y1 s) 0).bind fun r1 =>
(match r1 with
| .inl p => Bh.j1 p
| .inr _ => Bh.j2)
def commute_Commute (p_ : Patch) (q_ : Patch) : Option (Patch × Patch × Bool × Fault) := Option.none
def E7 (path : ByteArray) (p_ : Patch) : Option TreeChange :=
 some ({ Kind := 4, Path := path, To := ByteArray.empty, Lines := [], Patch := p_ } : TreeChange)
def B1.j1 (a_ : TreeChange) (b_ : TreeChange) : Option (TreeChange × TreeChange × Bool × Fault) :=
(Ex a_).bind fun y1 =>
(Ex b_).bind fun y2 =>
(Bh y1 y2).bind fun y3 =>
 if y3 then
 some (y2, y1, true, ({ Code := 0, Index := 0 } : Fault))
 else
(if decide (y1.Kind = 4) then some (decide (y2.Kind = 4)) else some false).bind fun x1 =>
(if x1 then some (decide (y1.Path = y2.Path)) else some false).bind fun x2 =>
 if x2 then
(commute_Commute y1.Patch y2.Patch).bind fun y4 =>
 if !(decide (y4.2.2.2.Code = 0) && decide (y4.2.2.2.Index = 0)) then
 some (({ Kind := 0, Path := ByteArray.empty, To := ByteArray.empty, Lines := [], Patch := ({ Hunks := [] } : Patch) } : TreeChange), ({ Kind := 0, Path := ByteArray.empty, To := ByteArray.empty, Lines := [], Patch := ({ Hunks := [] } : Patch) } : TreeChange), false, ({ Code := y4.2.2.2.Code, Index := (-1) } : Fault))
 else
 if !y4.2.2.1 then
 some (({ Kind := 0, Path := ByteArray.empty, To := ByteArray.empty, Lines := [], Patch := ({ Hunks := [] } : Patch) } : TreeChange), ({ Kind := 0, Path := ByteArray.empty, To := ByteArray.empty, Lines := [], Patch := ({ Hunks := [] } : Patch) } : TreeChange), false, ({ Code := 0, Index := 0 } : Fault))
 else
(E7 y2.Path y4.1).bind fun y5 =>
(E7 y1.Path y4.2.1).bind fun y6 =>
 some (y5, y6, true, ({ Code := 0, Index := 0 } : Fault))
 else
(if decide (y1.Kind = 3) then some (decide (y2.Kind = 4)) else some false).bind fun x3 =>
(if x3 then some (decide (y2.Path = y1.To)) else some false).bind fun x4 =>
 if x4 then
(E7 y1.Path y2.Patch).bind fun y7 =>
 some (y7, y1, true, ({ Code := 0, Index := 0 } : Fault))
 else
(if decide (y1.Kind = 4) then some (decide (y2.Kind = 3)) else some false).bind fun x5 =>
(if x5 then some (decide (y2.Path = y1.Path)) else some false).bind fun x6 =>
 if x6 then
(E7 y2.To y1.Patch).bind fun y8 =>
 some (y2, y8, true, ({ Code := 0, Index := 0 } : Fault))
 else
 some (({ Kind := 0, Path := ByteArray.empty, To := ByteArray.empty, Lines := [], Patch := ({ Hunks := [] } : Patch) } : TreeChange), ({ Kind := 0, Path := ByteArray.empty, To := ByteArray.empty, Lines := [], Patch := ({ Hunks := [] } : Patch) } : TreeChange), false, ({ Code := 0, Index := 0 } : Fault))
def B1.l1 (a_ : TreeChange) (b_ : TreeChange) (x7 : Int) : Option (Step Int ((TreeChange × TreeChange × Bool × Fault) ⊕ Unit)) :=
 if decide (x7 < (([a_, b_] : List TreeChange).length : Int)) then
(at? ([a_, b_] : List TreeChange) x7).bind fun y9 =>
(E6 ({ Changes := ([y9] : List TreeChange) } : TreePatch) x7).bind fun y10 =>
 if !(decide (y10.Code = 0) && decide (y10.Index = 0)) then
 some (Step.done (Sum.inl (({ Kind := 0, Path := ByteArray.empty, To := ByteArray.empty, Lines := [], Patch := ({ Hunks := [] } : Patch) } : TreeChange), ({ Kind := 0, Path := ByteArray.empty, To := ByteArray.empty, Lines := [], Patch := ({ Hunks := [] } : Patch) } : TreeChange), false, y10)))
 else
(ckK .i64 (x7 + 1)).bind fun z1 =>
 some (Step.next z1)
 else
 some (Step.done (Sum.inr ()))
def B1 (a_ : TreeChange) (b_ : TreeChange) : Option (TreeChange × TreeChange × Bool × Fault) :=
(De (fun s => B1.l1 a_ b_ s) 0).bind fun r1 =>
(match r1 with
| .inl p => some p
| .inr _ => B1.j1 a_ b_)
def B0.j1 : Option Bool :=
 some true
def B0.l1 (a_ : Patch) (b_ : Patch) (x1 : Int) : Option (Step Int (Bool ⊕ Unit)) :=
 if decide (x1 < (a_.Hunks.length : Int)) then
(at? a_.Hunks x1).bind fun y1 =>
(at? b_.Hunks x1).bind fun y2 =>
(if !decide (y1.At = y2.At) then some true else (at? a_.Hunks x1).bind fun y3 =>
(at? b_.Hunks x1).bind fun y4 =>
(Bs y3.Old y4.Old).bind fun y5 =>
 some !y5).bind fun x3 =>
(if x3 then some true else (at? a_.Hunks x1).bind fun y6 =>
(at? b_.Hunks x1).bind fun y7 =>
(Bs y6.New y7.New).bind fun y8 =>
 some !y8).bind fun x4 =>
 if x4 then
 some (Step.done (Sum.inl false))
 else
(ckK .i64 (x1 + 1)).bind fun z1 =>
 some (Step.next z1)
 else
 some (Step.done (Sum.inr ()))
def B0 (a_ : Patch) (b_ : Patch) : Option Bool :=
 if !decide ((a_.Hunks.length : Int) = (b_.Hunks.length : Int)) then
 some false
 else
(De (fun s => B0.l1 a_ b_ s) 0).bind fun r1 =>
(match r1 with
| .inl p => some p
| .inr _ => B0.j1)
def Dq (a_ : TreeChange) (b_ : TreeChange) : Option Bool :=
(if decide (a_.Kind = b_.Kind) then some (decide (a_.Path = b_.Path)) else some false).bind fun x1 =>
(if x1 then some (decide (a_.To = b_.To)) else some false).bind fun x2 =>
(if x2 then (Bs a_.Lines b_.Lines).bind fun y1 =>
 some y1 else some false).bind fun x3 =>
(if x3 then (B0 a_.Patch b_.Patch).bind fun y2 =>
 some y2 else some false).bind fun x4 =>
 some x4
def C1 : Option Bool :=
(B1 ({ Kind := 3, Path := (⟨#[98]⟩ : ByteArray), To := (⟨#[97]⟩ : ByteArray), Lines := [], Patch := ({ Hunks := [] } : Patch) } : TreeChange) ({ Kind := 4, Path := (⟨#[97]⟩ : ByteArray), To := ByteArray.empty, Lines := [], Patch := ({ Hunks := ([({ At := 0, Old := [], New := ([(⟨#[120]⟩ : ByteArray)] : List ByteArray) } : Hunk)] : List Hunk) } : Patch) } : TreeChange)).bind fun y1 =>
(if decide (y1.2.2.2.Code = 0) then some y1.2.2.1 else some false).bind fun x1 =>
(if x1 then (Dq y1.1 ({ Kind := 4, Path := (⟨#[98]⟩ : ByteArray), To := ByteArray.empty, Lines := [], Patch := ({ Hunks := ([({ At := 0, Old := [], New := ([(⟨#[120]⟩ : ByteArray)] : List ByteArray) } : Hunk)] : List Hunk) } : Patch) } : TreeChange)).bind fun y2 =>
 some y2 else some false).bind fun x2 =>
(if x2 then (Dq y1.2.1 ({ Kind := 3, Path := (⟨#[98]⟩ : ByteArray), To := (⟨#[97]⟩ : ByteArray), Lines := [], Patch := ({ Hunks := [] } : Patch) } : TreeChange)).bind fun y3 =>
 some y3 else some false).bind fun x3 =>
 some x3
def Dk (base : FileTree) (left : TreePatch) (right : TreePatch) : Option Bool :=
(Ap base left right).bind fun y1 =>
(Ap base right left).bind fun y2 =>
(if !decide (y1.2.2.Code = 0) then some true else some (!decide (y2.2.2.Code = 0))).bind fun x1 =>
 if x1 then
(C1).bind fun y3 =>
 some y3
 else
(if decide (decide ((y1.2.1.length : Int) = 0) = decide ((y2.2.1.length : Int) = 0)) then (if decide ((y1.2.1.length : Int) > 0) then some true else (Bw y1.1 y2.1).bind fun y4 =>
 some y4).bind fun x3 =>
 some x3 else some false).bind fun x2 =>
(if x2 then (C1).bind fun y5 =>
 some y5 else some false).bind fun x4 =>
 some x4
def Dp (base : FileTree) (p_ : TreePatch) : Option Bool :=
(Cp p_ base).bind fun y1 =>
(Ap base p_ ({ Changes := [] } : TreePatch)).bind fun y2 =>
(Ap base ({ Changes := [] } : TreePatch) p_).bind fun y3 =>
(Ap base p_ p_).bind fun y4 =>
 if !decide (y1.2.Code = 0) then
(if !decide (y2.2.2.Code = 0) then some (!decide (y3.2.2.Code = 0)) else some false).bind fun x1 =>
(if x1 then some (!decide (y4.2.2.Code = 0)) else some false).bind fun x2 =>
(if x2 then (C1).bind fun y5 =>
 some y5 else some false).bind fun x3 =>
 some x3
 else
(if decide (y2.2.2.Code = 0) then some (decide (y3.2.2.Code = 0)) else some false).bind fun x4 =>
(if x4 then some (decide (y4.2.2.Code = 0)) else some false).bind fun x5 =>
(if x5 then (Bw y2.1 y1.1).bind fun y6 =>
 some y6 else some false).bind fun x6 =>
(if x6 then (Bw y3.1 y1.1).bind fun y7 =>
 some y7 else some false).bind fun x7 =>
(if x7 then (Bw y4.1 y1.1).bind fun y8 =>
 some y8 else some false).bind fun x8 =>
(if x8 then (ckK .i64 ((y2.2.1.length : Int) + (y3.2.1.length : Int))).bind fun z1 =>
(ckK .i64 (z1 + (y4.2.1.length : Int))).bind fun z2 =>
 some (decide (z2 = 0)) else some false).bind fun x9 =>
(if x9 then (C1).bind fun y9 =>
 some y9 else some false).bind fun x10 =>
 some x10
def Bb.j1 (y1 : FileTree × (List Arr2_Int) × Fault) : Option Bool :=
(Cj y1.1).bind fun y3 =>
(if decide (y3.Code = 0) then (C1).bind fun y4 =>
 some y4 else some false).bind fun x1 =>
 some x1
def Bb.l1 (left : TreePatch) (right : TreePatch) (y1 : FileTree × (List Arr2_Int) × Fault) (x2 : Int) : Option (Step Int (Bool ⊕ Unit)) :=
 if decide (x2 < (y1.2.1.length : Int)) then
(at? y1.2.1 x2).bind fun y5 =>
(if decide (y5.e0 < 0) then some true else (at? y1.2.1 x2).bind fun y6 =>
 some (decide (y6.e0 ≥ (left.Changes.length : Int)))).bind fun x4 =>
(if x4 then some true else (at? y1.2.1 x2).bind fun y7 =>
 some (decide (y7.e1 < 0))).bind fun x5 =>
(if x5 then some true else (at? y1.2.1 x2).bind fun y8 =>
 some (decide (y8.e1 ≥ (right.Changes.length : Int)))).bind fun x6 =>
 if x6 then
 some (Step.done (Sum.inl false))
 else
(ckK .i64 (x2 + 1)).bind fun z1 =>
 some (Step.next z1)
 else
 some (Step.done (Sum.inr ()))
def Bb (base : FileTree) (left : TreePatch) (right : TreePatch) : Option Bool :=
(Ap base left right).bind fun y1 =>
 if !decide (y1.2.2.Code = 0) then
(C1).bind fun y2 =>
 some y2
 else
(De (fun s => Bb.l1 left right y1 s) 0).bind fun r1 =>
(match r1 with
| .inl p => some p
| .inr _ => Bb.j1 y1)
def D6.j1 (x1 : Int) : Option (Int × Fault) :=
 some (x1, ({ Code := 0, Index := 0 } : Fault))
def D6.j2 (x2 : Int) (x5 : Int) : Option (Step (Int × Int) Int) :=
(ckK .i64 (x2 + 1)).bind fun z1 =>
 some (Step.next (z1, x5))
def D6.l1 (y2 : (List Int)) (x2 : Int) (x3 : Int) : Option (Step (Int × Int) Int) :=
 if decide (x2 < (y2.length : Int)) then
(at? y2 x2).bind fun y3 =>
 if !decide (y3 = 0) then
(ckK .i64 (x3 + 1)).bind fun z2 =>
 D6.j2 x2 z2
 else
 D6.j2 x2 x3
 else
 some (Step.done x3)
def D6 (a_ : (List ByteArray)) (b_ : (List ByteArray)) : Option (Int × Fault) :=
(Ho a_ b_).bind fun y1 =>
 if !(decide (y1.Code = 0) && decide (y1.Index = 0)) then
 some (0, y1)
 else
(Bt a_ b_).bind fun y2 =>
(De (fun s => D6.l1 y2 s.1 s.2) (0, 0)).bind fun r1 =>
 D6.j1 r1
def Oh (a_ : (List ByteArray)) (b_ : (List ByteArray)) : Option (Int × Fault) :=
(D6 a_ b_).bind fun y1 =>
 if !(decide (y1.2.Code = 0) && decide (y1.2.Index = 0)) then
 some (0, y1.2)
 else
(ckK .i64 ((a_.length : Int) + (b_.length : Int))).bind fun z1 =>
 if decide (z1 = 0) then
 some (100, ({ Code := 0, Index := 0 } : Fault))
 else
(ckK .i64 (z1 - y1.1)).bind fun z2 =>
(ckK .i64 (100 * z2)).bind fun z3 =>
(quo? .i64 z3 z1).bind fun z4 =>
 some (z4, ({ Code := 0, Index := 0 } : Fault))
end Go.Dc
