import Derived.Test.YtmmegcjbdkaffaaGreatDoorDcTy
import Derived.Test.YtmmegcjbdkaffaaGreatDoorDcR
import Derived.Test.YtmmegcjbdkaffaaGreatDoorDcRS
noncomputable section
namespace Go.Dc
open Go
set_option linter.unusedVariables false
def Lt (n_:Int):Option Bool :=
(if decide (n_ ≥ 1) then some (decide (n_≤1000000000)) else some false).bind fun x1 =>
 some x1
def G3 (s_:ByteArray) (c_:Int):Option Int :=
 some (idxB s_ c_)
def M4 (s_:ByteArray):Option Int :=
 if decide ((⟨#[47]⟩:ByteArray)=s_) then
 some 0
 else
(sAt? (⟨#[47]⟩:ByteArray) 0).bind fun y1 =>
(G3 s_ y1).bind fun y2 =>
 some y2
def Nz (s_:ByteArray):Option Int :=
(M4 s_).bind fun y1 =>
 some y1
def Hz (c_:Int):Option Bool :=
(if decide (c_ ≥ 97) then some (decide (c_≤122)) else some false).bind fun x1 =>
(if x1 then some true else (if decide (c_ ≥ 65) then some (decide (c_≤90)) else some false).bind fun x3 =>
 some x3).bind fun x2 =>
(if x2 then some true else (if decide (c_ ≥ 48) then some (decide (c_≤57)) else some false).bind fun x5 =>
 some x5).bind fun x4 =>
(if x4 then some true else some (decide (c_=46))).bind fun x6 =>
(if x6 then some true else some (decide (c_=95))).bind fun x7 =>
(if x7 then some true else some (decide (c_=45))).bind fun x8 =>
 some x8
def As.j2:Option Bool :=
 some false
def As.j3:Option Bool :=
 some true
def As.j4:Option Bool :=
 As.j3
def As.l1 (x1:ByteArray) (x4:Int):Option (Step Int (Unit ⊕ Unit)) :=
 if decide (x4 < (x1.size:Int)) then
(sAt? x1 x4).bind fun y1 =>
(Hz y1).bind fun y2 =>
 if !y2 then
 some (Step.done (Sum.inl ()))
 else
(ckK .i64 (x4+1)).bind fun z1 =>
 some (Step.next z1)
 else
 some (Step.done (Sum.inr ()))
def As.j1 (x1:ByteArray):Option Bool :=
(if decide (x1=(⟨#[]⟩:ByteArray)) then some true else some (decide (x1=(⟨#[46]⟩:ByteArray)))).bind fun x2 =>
(if x2 then some true else some (decide (x1=(⟨#[46,46]⟩:ByteArray)))).bind fun x3 =>
 if x3 then
 As.j2
 else
(Dl (fun s=>As.l1 x1 s) 0).bind fun r1 =>
(match r1 with
| .inl _=>As.j2
| .inr _=>As.j4)
def As.j5:Option (Step ByteArray (Bool ⊕ ByteArray)) :=
 some (Step.done (Sum.inl false))
def As.j6 (x6:ByteArray) (y3:Int):Option (Step ByteArray (Bool ⊕ ByteArray)) :=
(ckK .i64 (y3+1)).bind fun z3 =>
(scut? x6 z3 (x6.size:Int)).bind fun y5 =>
 some (Step.next y5)
def As.j7 (x6:ByteArray) (y3:Int):Option (Step ByteArray (Bool ⊕ ByteArray)) :=
 As.j6 x6 y3
def As.l3 (y4:ByteArray) (x10:Int):Option (Step Int (Unit ⊕ Unit)) :=
 if decide (x10 < (y4.size:Int)) then
(sAt? y4 x10).bind fun y6 =>
(Hz y6).bind fun y7 =>
 if !y7 then
 some (Step.done (Sum.inl ()))
 else
(ckK .i64 (x10+1)).bind fun z4 =>
 some (Step.next z4)
 else
 some (Step.done (Sum.inr ()))
def As.l2 (x6:ByteArray):Option (Step ByteArray (Bool ⊕ ByteArray)) :=
(Nz x6).bind fun y3 =>
 if decide (y3 < 0) then
 some (Step.done (Sum.inr x6))
 else
(ckK .i64 (y3+0)).bind fun z2 =>
(scut? x6 0 z2).bind fun y4 =>
(if decide (y4=(⟨#[]⟩:ByteArray)) then some true else some (decide (y4=(⟨#[46]⟩:ByteArray)))).bind fun x8 =>
(if x8 then some true else some (decide (y4=(⟨#[46,46]⟩:ByteArray)))).bind fun x9 =>
 if x9 then
 As.j5
 else
(Dl (fun s=>As.l3 y4 s) 0).bind fun r3 =>
(match r3 with
| .inl _=>As.j5
| .inr _=>As.j7 x6 y3)
def As (path:ByteArray):Option Bool :=
 if decide ((path.size:Int) > 60) then
 some false
 else
(Dl (fun s=>As.l2 s) path).bind fun r2 =>
(match r2 with
| .inl p=>some p
| .inr p=>As.j1 p)
def K9 (s_:ByteArray) (prefix_:ByteArray):Option Bool :=
(if decide ((s_.size:Int) ≥ (prefix_.size:Int)) then (scut? s_ 0 (prefix_.size:Int)).bind fun y1 =>
 some (decide (y1=prefix_)) else some false).bind fun x1 =>
 some x1
def Kg (s_:ByteArray) (prefix_:ByteArray):Option Bool :=
(K9 s_ prefix_).bind fun y1 =>
 some y1
def Gy (a_:ByteArray) (b_:ByteArray):Option Bool :=
(if decide (a_=b_) then some true else (cat? b_ (⟨#[47]⟩:ByteArray)).bind fun z1 =>
(Kg a_ z1).bind fun y1 =>
 some y1).bind fun x1 =>
(if x1 then some true else (cat? a_ (⟨#[47]⟩:ByteArray)).bind fun z2 =>
(Kg b_ z2).bind fun y2 =>
 some y2).bind fun x2 =>
 some x2
def Lr (s_:ByteArray) (c_:Int):Option Int :=
(G3 s_ c_).bind fun y1 =>
 some y1
def C5.j1:Option Fault :=
 some ({ Code:=0,Index:=0 }:Fault)
def C5.l1 (lines:(List ByteArray)) (x1:Int):Option (Step Int (Fault ⊕ Unit)) :=
 if decide (x1 < (lines.length:Int)) then
(at? lines x1).bind fun y1 =>
 if decide ((y1.size:Int) > 80) then
 some (Step.done (Sum.inl ({ Code:=2,Index:=x1 }:Fault)))
 else
(Lr y1 10).bind fun y2 =>
 if decide (y2 ≥ 0) then
 some (Step.done (Sum.inl ({ Code:=5,Index:=x1 }:Fault)))
 else
(ckK .i64 (x1+1)).bind fun z1 =>
 some (Step.next z1)
 else
 some (Step.done (Sum.inr ()))
def C5 (lines:(List ByteArray)):Option Fault :=
 if decide ((lines.length:Int) > 120) then
 some ({ Code:=2,Index:=(-1) }:Fault)
 else
(Dl (fun s=>C5.l1 lines s) 0).bind fun r1 =>
(match r1 with
| .inl p=>some p
| .inr _=>C5.j1)
def H7 (h_:Hunk):Option Int :=
(ckK .i64 (h_.At+(h_.Old.length:Int))).bind fun z1 =>
 some z1
def Dx.j1 (h_:Hunk) (end_:Int):Option Int :=
(ckK .i64 ((h_.Old.length:Int)+(h_.New.length:Int))).bind fun z1 =>
(if decide (z1=0) then some true else some (decide (h_.At≤end_))).bind fun x2 =>
 if x2 then
 some 5
 else
(H7 h_).bind fun y1 =>
 if decide (y1 > 120) then
 some 3
 else
 some 0
def Dx.l1 (h_:Hunk) (x3:Int):Option (Step Int (Int ⊕ Unit)) :=
 if decide (x3 < 2) then
(at? ([h_.Old,h_.New]:List (List ByteArray)) x3).bind fun y2 =>
(C5 y2).bind fun y3 =>
 if !(decide (y3.Code=0) && decide (y3.Index=0)) then
 some (Step.done (Sum.inl y3.Code))
 else
(ckK .i64 (x3+1)).bind fun z2 =>
 some (Step.next z2)
 else
 some (Step.done (Sum.inr ()))
def Dx (h_:Hunk) (end_:Int):Option Int :=
(if decide (h_.At < 0) then some true else some (decide (h_.At > 120))).bind fun x1 =>
 if x1 then
 some 3
 else
(Dl (fun s=>Dx.l1 h_ s) 0).bind fun r1 =>
(match r1 with
| .inl p=>some p
| .inr _=>Dx.j1 h_ end_)
def Cx.j1:Option Fault :=
 some ({ Code:=0,Index:=0 }:Fault)
def Cx.l1 (p_:Patch) (x1:Int) (x2:Int):Option (Step (Int×Int) (Fault ⊕ Unit)) :=
 if decide (x1 < (p_.Hunks.length:Int)) then
(at? p_.Hunks x1).bind fun y1 =>
(Dx y1 x2).bind fun y2 =>
 if !decide (y2=0) then
 some (Step.done (Sum.inl ({ Code:=y2,Index:=x1 }:Fault)))
 else
(H7 y1).bind fun y3 =>
(ckK .i64 (x1+1)).bind fun z1 =>
 some (Step.next (z1,y3))
 else
 some (Step.done (Sum.inr ()))
def Cx (p_:Patch):Option Fault :=
 if decide ((p_.Hunks.length:Int) > 130) then
 some ({ Code:=2,Index:=(-1) }:Fault)
 else
(Dl (fun s=>Cx.l1 p_ s.1 s.2) (0,(-1))).bind fun r1 =>
(match r1 with
| .inl p=>some p
| .inr _=>Cx.j1)
def Mt (c_:TreeChange):Option Int :=
(if decide (c_.Kind < 1) then some true else some (decide (c_.Kind > 4))).bind fun x1 =>
 if x1 then
 some 4
 else
(As c_.Path).bind fun y1 =>
(if !y1 then some true else (if decide (c_.Kind=3) then (As c_.To).bind fun y2 =>
 some !y2 else some false).bind fun x3 =>
 some x3).bind fun x2 =>
 if x2 then
 some 12
 else
(if !(decide (c_.Kind=3)) then some (!decide (c_.To=(⟨#[]⟩:ByteArray))) else some false).bind fun x4 =>
(if x4 then some true else (if decide (c_.Kind=3) then (Gy c_.Path c_.To).bind fun y3 =>
 some y3 else some false).bind fun x6 =>
 some x6).bind fun x5 =>
 if x5 then
 some 5
 else
(if decide ((c_.Lines.length:Int) > 0) then (if decide (c_.Kind=4) then some true else some (decide (c_.Kind=3))).bind fun x8 =>
 some x8 else some false).bind fun x7 =>
 if x7 then
 some 5
 else
 if !decide (decide (c_.Kind=4)=decide ((c_.Patch.Hunks.length:Int) > 0)) then
 some 5
 else
(C5 c_.Lines).bind fun y4 =>
 if !(decide (y4.Code=0) && decide (y4.Index=0)) then
 some y4.Code
 else
(Cx c_.Patch).bind fun y5 =>
 some y5.Code
def Ce.j1:Option Fault :=
 some ({ Code:=0,Index:=0 }:Fault)
def Ce.l1 (p_:TreePatch) (x1:Int):Option (Step Int (Fault ⊕ Unit)) :=
 if decide (x1 < (p_.Changes.length:Int)) then
(at? p_.Changes x1).bind fun y1 =>
(Mt y1).bind fun y2 =>
 if !decide (y2=0) then
 some (Step.done (Sum.inl ({ Code:=y2,Index:=x1 }:Fault)))
 else
(ckK .i64 (x1+1)).bind fun z1 =>
 some (Step.next z1)
 else
 some (Step.done (Sum.inr ()))
def Ce (p_:TreePatch):Option Fault :=
 if decide ((p_.Changes.length:Int) > 30) then
 some ({ Code:=2,Index:=(-1) }:Fault)
 else
(Dl (fun s=>Ce.l1 p_ s) 0).bind fun r1 =>
(match r1 with
| .inl p=>some p
| .inr _=>Ce.j1)
def Cl.j2 (e_:ForgeEvent) (developers:Int) (x3:Bool):Option Int :=
 if x3 then
(if decide (e_.User < 0) then some true else some (decide (e_.User ≥ developers))).bind fun x4 =>
(if x4 then some true else (if decide (e_.Kind=3) then (Lt e_.Key).bind fun y1 =>
 some !y1 else some false).bind fun x6 =>
 some x6).bind fun x5 =>
 if x5 then
 some 3
 else
 if decide (e_.Kind=2) then
(Ce e_.Patch).bind fun y2 =>
 some y2.Code
 else
 some 0
 else
 some 4
def Cl.j1 (e_:ForgeEvent) (developers:Int) (x1:Bool):Option Int :=
 if x1 then
(if decide (e_.N < 0) then some true else some (decide (e_.N > 1000000000))).bind fun x2 =>
 if x2 then
 some 3
 else
 some 0
 else
 if decide (e_.Kind=1) then
 Cl.j2 e_ developers (decide (e_.Kind=1))
 else
 if decide (e_.Kind=2) then
 Cl.j2 e_ developers (decide (e_.Kind=2))
 else
 if decide (e_.Kind=3) then
 Cl.j2 e_ developers (decide (e_.Kind=3))
 else
 Cl.j2 e_ developers (decide (e_.Kind=8))
def Cl (e_:ForgeEvent) (developers:Int):Option Int :=
 if decide (e_.Kind=4) then
 Cl.j1 e_ developers (decide (e_.Kind=4))
 else
 if decide (e_.Kind=5) then
 Cl.j1 e_ developers (decide (e_.Kind=5))
 else
 if decide (e_.Kind=6) then
 Cl.j1 e_ developers (decide (e_.Kind=6))
 else
 Cl.j1 e_ developers (decide (e_.Kind=7))
def Cv.j2:Option Fault :=
 some ({ Code:=0,Index:=0 }:Fault)
def Cv.l1 (keys:(List Int)) (events:(List ForgeEvent)) (x2:Int):Option (Step Int (Fault ⊕ Unit)) :=
 if decide (x2 < (events.length:Int)) then
(at? events x2).bind fun y1 =>
(Cl y1 (keys.length:Int)).bind fun y2 =>
 if !decide (y2=0) then
 some (Step.done (Sum.inl ({ Code:=y2,Index:=x2 }:Fault)))
 else
(ckK .i64 (x2+1)).bind fun z1 =>
 some (Step.next z1)
 else
 some (Step.done (Sum.inr ()))
def Cv.j1 (keys:(List Int)) (events:(List ForgeEvent)):Option Fault :=
 if decide ((events.length:Int) > 40) then
 some ({ Code:=2,Index:=(-1) }:Fault)
 else
(Dl (fun s=>Cv.l1 keys events s) 0).bind fun r1 =>
(match r1 with
| .inl p=>some p
| .inr _=>Cv.j2)
def Cv.l2 (keys:(List Int)) (x4:Int):Option (Step Int (Fault ⊕ Unit)) :=
 if decide (x4 < (keys.length:Int)) then
(at? keys x4).bind fun y3 =>
(Lt y3).bind fun y4 =>
 if !y4 then
(ckK .i64 ((-3) - x4)).bind fun z2 =>
 some (Step.done (Sum.inl ({ Code:=3,Index:=z2 }:Fault)))
 else
(ckK .i64 (x4+1)).bind fun z3 =>
 some (Step.next z3)
 else
 some (Step.done (Sum.inr ()))
def Cv (keys:(List Int)) (events:(List ForgeEvent)):Option Fault :=
(if decide ((keys.length:Int)=0) then some true else some (decide ((keys.length:Int) > 4))).bind fun x1 =>
 if x1 then
 some ({ Code:=9,Index:=(-2) }:Fault)
 else
(Dl (fun s=>Cv.l2 keys s) 0).bind fun r2 =>
(match r2 with
| .inl p=>some p
| .inr _=>Cv.j1 keys events)
def Kn (s_:(List ByteArray)):Option (List ByteArray) :=
 nilIf s_ (
 some []) (
(app? 16 ([]:List ByteArray) s_).bind fun y1 =>
 some y1)
def Cp.j1 (x1:List File):Option FileTree :=
 some ({ Files:=x1 }:FileTree)
def Cp.l1 (t_:FileTree) (x2:Int) (x3:List File):Option (Step (Int×(List File)) (List File)) :=
 if decide (x2 < (t_.Files.length:Int)) then
(at? t_.Files x2).bind fun y1 =>
(Kn y1.Lines).bind fun y2 =>
(app? 40 x3 ([({ Path:=y1.Path,Lines:=y2 }:File)]:List File)).bind fun y3 =>
(ckK .i64 (x2+1)).bind fun z1 =>
 some (Step.next (z1,y3))
 else
 some (Step.done x3)
def Cp (t_:FileTree):Option FileTree :=
(Dl (fun s=>Cp.l1 t_ s.1 s.2) (0,[])).bind fun r1 =>
 Cp.j1 r1
def Ct.j1:Option Bool :=
 some false
def Ct.l1 (files:(List File)) (path:ByteArray) (except:Int) (x1:Int):Option (Step Int (Bool ⊕ Unit)) :=
 if decide (x1 < (files.length:Int)) then
(at? files x1).bind fun y1 =>
(if !decide (x1=except) then (Gy y1.Path path).bind fun y2 =>
 some y2 else some false).bind fun x3 =>
 if x3 then
 some (Step.done (Sum.inl true))
 else
(ckK .i64 (x1+1)).bind fun z1 =>
 some (Step.next z1)
 else
 some (Step.done (Sum.inr ()))
def Ct (files:(List File)) (path:ByteArray) (except:Int):Option Bool :=
(Dl (fun s=>Ct.l1 files path except s) 0).bind fun r1 =>
(match r1 with
| .inl p=>some p
| .inr _=>Ct.j1)
def H9 (b_:(List ByteArray)) (index:Int):Option Fault :=
(C5 b_).bind fun y1 =>
 if !(decide (y1.Code=0) && decide (y1.Index=0)) then
 some ({ Code:=y1.Code,Index:=index }:Fault)
 else
 some ({ Code:=0,Index:=0 }:Fault)
def Cq.j1:Option Fault :=
 some ({ Code:=0,Index:=0 }:Fault)
def Cq.l1 (t_:FileTree) (x1:Int):Option (Step Int (Fault ⊕ Unit)) :=
 if decide (x1 < (t_.Files.length:Int)) then
(at? t_.Files x1).bind fun y1 =>
(As y1.Path).bind fun y2 =>
 if !y2 then
 some (Step.done (Sum.inl ({ Code:=12,Index:=x1 }:Fault)))
 else
(if decide (x1 > 0) then (ckK .i64 (x1 - 1)).bind fun z1 =>
(at? t_.Files z1).bind fun y3 =>
 some (sLt y1.Path y3.Path || decide (y1.Path=y3.Path)) else some false).bind fun x3 =>
 if x3 then
 some (Step.done (Sum.inl ({ Code:=5,Index:=x1 }:Fault)))
 else
(cut? t_.Files 0 x1).bind fun y4 =>
(Ct y4 y1.Path (-1)).bind fun y5 =>
 if y5 then
 some (Step.done (Sum.inl ({ Code:=7,Index:=x1 }:Fault)))
 else
(H9 y1.Lines x1).bind fun y6 =>
 if !(decide (y6.Code=0) && decide (y6.Index=0)) then
 some (Step.done (Sum.inl y6))
 else
(ckK .i64 (x1+1)).bind fun z2 =>
 some (Step.next z2)
 else
 some (Step.done (Sum.inr ()))
def Cq (t_:FileTree):Option Fault :=
 if decide ((t_.Files.length:Int) > 24) then
 some ({ Code:=2,Index:=(-1) }:Fault)
 else
(Dl (fun s=>Cq.l1 t_ s) 0).bind fun r1 =>
(match r1 with
| .inl p=>some p
| .inr _=>Cq.j1)
def Kv (t_:FileTree) (index:Int):Option Fault :=
(Cq t_).bind fun y1 =>
 if !(decide (y1.Code=0) && decide (y1.Index=0)) then
 some ({ Code:=y1.Code,Index:=index }:Fault)
 else
 some ({ Code:=0,Index:=0 }:Fault)
def M1 (a_:ByteArray) (b_:ByteArray):Option Int :=
 some (cmpB a_ b_)
def Q1 (a_:ByteArray) (b_:ByteArray):Option Int :=
(M1 a_ b_).bind fun y1 =>
 some y1
def Ll (f:File) (path:ByteArray):Option Int :=
(Q1 f.Path path).bind fun y1 =>
 some y1
def Cd.j1 (files:(List File)) (path:ByteArray) (x1:Int):Option (Int×Bool) :=
(if decide (x1 < (files.length:Int)) then (at? files x1).bind fun y1 =>
(Ll y1 path).bind fun y2 =>
 some (decide (y2=0)) else some false).bind fun x2 =>
 some (x1,x2)
def Cd.l1 (files:(List File)) (path:ByteArray) (x3:Int) (x4:Int):Option (Step (Int×Int) Int) :=
 if decide (x4 < x3) then
(ckK .i64 (x4+x3)).bind fun z1 =>
(ckK .u64 z1).bind fun z2 =>
(shr? .u64 z2 1).bind fun z3 =>
(ckK .i64 z3).bind fun z4 =>
(at? files z4).bind fun y3 =>
(Ll y3 path).bind fun y4 =>
 if decide (y4 < 0) then
(ckK .i64 (z4+1)).bind fun z5 =>
 some (Step.next (x3,z5))
 else
 some (Step.next (z4,x4))
 else
 some (Step.done x4)
def Cd (files:(List File)) (path:ByteArray):Option (Int×Bool) :=
(Dl (fun s=>Cd.l1 files path s.1 s.2) ((files.length:Int),0)).bind fun r1 =>
 Cd.j1 files path r1
def Eu.j1 (l_:(List ByteArray)) (y1:Int×Bool) (x1:List File):Option FileTree :=
(Kn l_).bind fun y2 =>
(at? x1 y1.1).bind fun y3 =>
(some (x1.set y1.1.toNat ({ Path:=y3.Path,Lines:=y2 }:File))).bind fun y4 =>
 some ({ Files:=y4 }:FileTree)
def Eu (t_:FileTree) (path:ByteArray) (l_:(List ByteArray)):Option FileTree :=
(Cd t_.Files path).bind fun y1 =>
 if !y1.2 then
(ins? 40 t_.Files y1.1 ([({ Path:=path,Lines:=[] }:File)]:List File)).bind fun y5 =>
 Eu.j1 l_ y1 y5
 else
 Eu.j1 l_ y1 t_.Files
def D4.j1:Option Bool :=
 some true
def D4.l1 (s1_:(List ByteArray)) (s2_:(List ByteArray)) (x1:Int):Option (Step Int (Bool ⊕ Unit)) :=
 if decide (x1 < (s1_.length:Int)) then
(at? s1_ x1).bind fun y1 =>
(at? s2_ x1).bind fun y2 =>
 if !decide (y1=y2) then
 some (Step.done (Sum.inl false))
 else
(ckK .i64 (x1+1)).bind fun z1 =>
 some (Step.next z1)
 else
 some (Step.done (Sum.inr ()))
def D4 (s1_:(List ByteArray)) (s2_:(List ByteArray)):Option Bool :=
 if !decide ((s1_.length:Int)=(s2_.length:Int)) then
 some false
 else
(Dl (fun s=>D4.l1 s1_ s2_ s) 0).bind fun r1 =>
(match r1 with
| .inl p=>some p
| .inr _=>D4.j1)
def Nk (text:(List ByteArray)) (part:(List ByteArray)) (at_:Int):Option Bool :=
(if decide (at_ ≥ 0) then some (decide (at_≤(text.length:Int))) else some false).bind fun x1 =>
(if x1 then (ckK .i64 ((text.length:Int) - at_)).bind fun z1 =>
 some (decide ((part.length:Int)≤z1)) else some false).bind fun x2 =>
(if x2 then (ckK .i64 (at_+(part.length:Int))).bind fun z2 =>
(cut? text at_ z2).bind fun y1 =>
(D4 y1 part).bind fun y2 =>
 some y2 else some false).bind fun x3 =>
 some x3
def Cr.j1 (text:(List ByteArray)) (high:Int) (x1:List ByteArray) (x2:Int):Option (List ByteArray) :=
(cut? text x2 high).bind fun y1 =>
(app? 16 x1 y1).bind fun y2 =>
 some y2
def Cr.l1 (hunks:(List Hunk)) (text:(List ByteArray)) (x3:Int) (x4:List ByteArray) (x5:Int):Option (Step (Int×(List ByteArray)×Int) ((List ByteArray)×Int)) :=
 if decide (x3 < (hunks.length:Int)) then
(at? hunks x3).bind fun y3 =>
(cut? text x5 y3.At).bind fun y4 =>
(app? 16 x4 y4).bind fun y5 =>
(app? 16 y5 y3.New).bind fun y6 =>
(H7 y3).bind fun y7 =>
(ckK .i64 (x3+1)).bind fun z1 =>
 some (Step.next (z1,y6,y7))
 else
 some (Step.done (x4,x5))
def Cr (hunks:(List Hunk)) (text:(List ByteArray)) (low:Int) (high:Int):Option (List ByteArray) :=
(Dl (fun s=>Cr.l1 hunks text s.1 s.2.1 s.2.2) (0,[],low)).bind fun r1 =>
 Cr.j1 text high r1.1 r1.2
def Dq.j1 (p_:Patch) (text:(List ByteArray)):Option ((List ByteArray)×Fault) :=
(Cr p_.Hunks text 0 (text.length:Int)).bind fun y3 =>
 if decide ((y3.length:Int) > 120) then
 some ([],({ Code:=10,Index:=(-1) }:Fault))
 else
 some (y3,({ Code:=0,Index:=0 }:Fault))
def Dq.l1 (p_:Patch) (text:(List ByteArray)) (x1:Int):Option (Step Int (((List ByteArray)×Fault) ⊕ Unit)) :=
 if decide (x1 < (p_.Hunks.length:Int)) then
(at? p_.Hunks x1).bind fun y4 =>
(Nk text y4.Old y4.At).bind fun y5 =>
 if !y5 then
 some (Step.done (Sum.inl ([],({ Code:=19,Index:=x1 }:Fault))))
 else
(ckK .i64 (x1+1)).bind fun z1 =>
 some (Step.next z1)
 else
 some (Step.done (Sum.inr ()))
def Dq (p_:Patch) (text:(List ByteArray)):Option ((List ByteArray)×Fault) :=
(Cx p_).bind fun y1 =>
 if !(decide (y1.Code=0) && decide (y1.Index=0)) then
 some ([],y1)
 else
(H9 text (-2)).bind fun y2 =>
 if !(decide (y2.Code=0) && decide (y2.Index=0)) then
 some ([],y2)
 else
(Dl (fun s=>Dq.l1 p_ text s) 0).bind fun r1 =>
(match r1 with
| .inl p=>some p
| .inr _=>Dq.j1 p_ text)
def Gl.j1 (x1:List File):Option (Int×FileTree) :=
 some (0,({ Files:=x1 }:FileTree))
def Gl (c_:TreeChange) (t_:FileTree):Option (Int×FileTree) :=
(Cd t_.Files c_.Path).bind fun y1 =>
 if decide (c_.Kind=1) then
(Ct t_.Files c_.Path (-1)).bind fun y2 =>
 if y2 then
 some (7,t_)
 else
 if decide ((t_.Files.length:Int) ≥ 24) then
 some (14,t_)
 else
(Eu t_ c_.Path c_.Lines).bind fun y3 =>
 some (0,y3)
 else
 if !y1.2 then
 some (6,t_)
 else
(at? t_.Files y1.1).bind fun y4 =>
 if decide (c_.Kind=2) then
(D4 y4.Lines c_.Lines).bind fun y5 =>
 if !y5 then
 some (19,t_)
 else
(ckK .i64 (y1.1+1)).bind fun z1 =>
(del? t_.Files y1.1 z1).bind fun y6 =>
 Gl.j1 y6
 else
 if decide (c_.Kind=3) then
(Ct t_.Files c_.To y1.1).bind fun y7 =>
 if y7 then
 some (7,t_)
 else
(ckK .i64 (y1.1+1)).bind fun z2 =>
(del? t_.Files y1.1 z2).bind fun y8 =>
(Eu ({ Files:=y8 }:FileTree) c_.To y4.Lines).bind fun y9 =>
 Gl.j1 y9.Files
 else
(Dq c_.Patch y4.Lines).bind fun y10 =>
 if !(decide (y10.2.Code=0) && decide (y10.2.Index=0)) then
 some (y10.2.Code,t_)
 else
(at? t_.Files y1.1).bind fun y11 =>
(some (t_.Files.set y1.1.toNat ({ Path:=y11.Path,Lines:=y10.1 }:File))).bind fun y12 =>
 Gl.j1 y12
def Db.j1 (x1:List File):Option (FileTree×Fault) :=
 some (({ Files:=x1 }:FileTree),({ Code:=0,Index:=0 }:Fault))
def Db.l1 (p_:TreePatch) (x2:Int) (x3:List File):Option (Step (Int×(List File)) ((FileTree×Fault) ⊕ (List File))) :=
 if decide (x2 < (p_.Changes.length:Int)) then
(at? p_.Changes x2).bind fun y4 =>
(Gl y4 ({ Files:=x3 }:FileTree)).bind fun y5 =>
 if !decide (y5.1=0) then
 some (Step.done (Sum.inl (({ Files:=[] }:FileTree),({ Code:=y5.1,Index:=x2 }:Fault))))
 else
(ckK .i64 (x2+1)).bind fun z1 =>
 some (Step.next (z1,y5.2.Files))
 else
 some (Step.done (Sum.inr x3))
def Db (p_:TreePatch) (t_:FileTree):Option (FileTree×Fault) :=
(Ce p_).bind fun y1 =>
 if !(decide (y1.Code=0) && decide (y1.Index=0)) then
 some (({ Files:=[] }:FileTree),y1)
 else
(Kv t_ (-2)).bind fun y2 =>
 if !(decide (y2.Code=0) && decide (y2.Index=0)) then
 some (({ Files:=[] }:FileTree),y2)
 else
(Cp t_).bind fun y3 =>
(Dl (fun s=>Db.l1 p_ s.1 s.2) (0,y3.Files)).bind fun r1 =>
(match r1 with
| .inl p=>some p
| .inr p=>Db.j1 p)
def Ga (s_:State_forge):Option FileTree :=
(ckK .i64 ((s_.versions.length:Int) - 1)).bind fun z1 =>
(at? s_.versions z1).bind fun y1 =>
 some y1
def Ln (x_:File) (y:File):Option Bool :=
(if decide (x_.Path=y.Path) then (D4 x_.Lines y.Lines).bind fun y1 =>
 some y1 else some false).bind fun x1 =>
 some x1
def Dg.j1 (x1:Bool):Option Bool :=
 some x1
def Dg.j2:Option Bool :=
 Dg.j1 true
def Dg.l1 (a_:FileTree) (b_:FileTree) (x2:Int):Option (Step Int (Bool ⊕ Unit)) :=
 if decide (x2 < (a_.Files.length:Int)) then
(at? a_.Files x2).bind fun y1 =>
(at? b_.Files x2).bind fun y2 =>
(Ln y1 y2).bind fun y3 =>
 if !y3 then
 some (Step.done (Sum.inl false))
 else
(ckK .i64 (x2+1)).bind fun z1 =>
 some (Step.next z1)
 else
 some (Step.done (Sum.inr ()))
def Dg (a_:FileTree) (b_:FileTree):Option Bool :=
 if !decide ((a_.Files.length:Int)=(b_.Files.length:Int)) then
 Dg.j1 false
 else
(Dl (fun s=>Dg.l1 a_ b_ s) 0).bind fun r1 =>
(match r1 with
| .inl p=>Dg.j1 p
| .inr _=>Dg.j2)
def Ob (a_:(List ByteArray)) (b_:(List ByteArray)):Option Fault :=
(C5 a_).bind fun y1 =>
 if !(decide (y1.Code=0) && decide (y1.Index=0)) then
 some y1
 else
(H9 b_ (-2)).bind fun y2 =>
 some y2
def H4 (i_:Int) (j:Int) (u2:(List Int)) (u3:Int):Option Int :=
(ckK .i64 (i_ * u3)).bind fun z1 =>
(ckK .i64 (z1+j)).bind fun z2 =>
(at? u2 z2).bind fun y1 =>
 some y1
def B9.j2 (x2:List Int):Option (List Int) :=
 some x2
def B9.l1 (a_:(List ByteArray)) (b_:(List ByteArray)) (z1:Int) (x1:List Int) (x3:Int) (x4:Int) (x5:List Int):Option (Step (Int×Int×(List Int)) (List Int)) :=
(if decide (x4 < (a_.length:Int)) then some true else some (decide (x3 < (b_.length:Int)))).bind fun x7 =>
 if x7 then
(if decide (x4 < (a_.length:Int)) then some (decide (x3 < (b_.length:Int))) else some false).bind fun x8 =>
(if x8 then (at? a_ x4).bind fun y2 =>
(at? b_ x3).bind fun y3 =>
 some (decide (y2=y3)) else some false).bind fun x9 =>
 if x9 then
(app? 8 x5 ([0]:List Int)).bind fun y4 =>
(ckK .i64 (x4+1)).bind fun z4 =>
(ckK .i64 (x3+1)).bind fun z5 =>
 some (Step.next (z5,z4,y4))
 else
(if decide (x3=(b_.length:Int)) then some true else (if decide (x4 < (a_.length:Int)) then (ckK .i64 (x4+1)).bind fun z6 =>
(H4 z6 x3 x1 z1).bind fun y5 =>
(ckK .i64 (x3+1)).bind fun z7 =>
(H4 x4 z7 x1 z1).bind fun y6 =>
 some (decide (y5 ≥ y6)) else some false).bind fun x11 =>
 some x11).bind fun x10 =>
 if x10 then
(app? 8 x5 ([1]:List Int)).bind fun y7 =>
(ckK .i64 (x4+1)).bind fun z8 =>
 some (Step.next (x3,z8,y7))
 else
(app? 8 x5 ([2]:List Int)).bind fun y8 =>
(ckK .i64 (x3+1)).bind fun z9 =>
 some (Step.next (z9,x4,y8))
 else
 some (Step.done x5)
def B9.j1 (a_:(List ByteArray)) (b_:(List ByteArray)) (z1:Int) (x1:List Int):Option (List Int) :=
(Dl (fun s=>B9.l1 a_ b_ z1 x1 s.1 s.2.1 s.2.2) (0,0,[])).bind fun r1 =>
 B9.j2 r1
def B9.j3 (x12:Int) (x15:List Int):Option (Step (Int×(List Int)) (List Int)) :=
(ckK .i64 (x12 - 1)).bind fun z11 =>
 some (Step.next (z11,x15))
def B9.j4 (x12:Int) (x16:List Int):Option (Step (Int×(List Int)) (List Int)) :=
 B9.j3 x12 x16
def B9.j5 (z1:Int) (x12:Int) (x17:Int) (x18:List Int) (x20:Int):Option (Step (Int×(List Int)) (List Int)) :=
(ckK .i64 (x12 * z1)).bind fun z15 =>
(ckK .i64 (z15+x17)).bind fun z16 =>
(at? x18 z16).bind fun y11 =>
(some (x18.set z16.toNat x20)).bind fun y12 =>
(ckK .i64 (x17 - 1)).bind fun z17 =>
 some (Step.next (z17,y12))
def B9.l3 (a_:(List ByteArray)) (b_:(List ByteArray)) (z1:Int) (x12:Int) (x17:Int) (x18:List Int):Option (Step (Int×(List Int)) (List Int)) :=
 if decide (x17 ≥ 0) then
(ckK .i64 (x12+1)).bind fun z13 =>
(H4 z13 x17 x18 z1).bind fun y9 =>
(ckK .i64 (x17+1)).bind fun z14 =>
(H4 x12 z14 x18 z1).bind fun y10 =>
(at? a_ x12).bind fun y13 =>
(at? b_ x17).bind fun y14 =>
 if decide (y13=y14) then
(ckK .i64 (x12+1)).bind fun z18 =>
(ckK .i64 (x17+1)).bind fun z19 =>
(H4 z18 z19 x18 z1).bind fun y15 =>
(ckK .i64 (y15+1)).bind fun z20 =>
 B9.j5 z1 x12 x17 x18 z20
 else
 B9.j5 z1 x12 x17 x18 (max y9 y10)
 else
 some (Step.done x18)
def B9.l2 (a_:(List ByteArray)) (b_:(List ByteArray)) (z1:Int) (x12:Int) (x13:List Int):Option (Step (Int×(List Int)) (List Int)) :=
 if decide (x12 ≥ 0) then
(ckK .i64 ((b_.length:Int) - 1)).bind fun z12 =>
(Dl (fun s=>B9.l3 a_ b_ z1 x12 s.1 s.2) (z12,x13)).bind fun r3 =>
 B9.j4 x12 r3
 else
 some (Step.done x13)
def B9 (a_:(List ByteArray)) (b_:(List ByteArray)):Option (List Int) :=
(ckK .i64 ((b_.length:Int)+1)).bind fun z1 =>
(ckK .i64 ((a_.length:Int)+1)).bind fun z2 =>
(ckK .i64 (z2 * z1)).bind fun z3 =>
(mk? 8 z3 (0:Int)).bind fun y1 =>
(ckK .i64 ((a_.length:Int) - 1)).bind fun z10 =>
(Dl (fun s=>B9.l2 a_ b_ z1 s.1 s.2) (z10,y1)).bind fun r2 =>
 B9.j1 a_ b_ z1 r2
def Kb (c_:Collector_diff) (n_:Int):Option Collector_diff :=
 if decide (n_ > 0) then
(ckK .i64 (c_.at_+n_)).bind fun z1 =>
 some ({ hunks:=c_.hunks,at_:=z1,open_:=false }:Collector_diff)
 else
 some c_
def Ds.j1 (c_:Collector_diff) (line:ByteArray) (x1:List Hunk) (x2:Bool):Option Collector_diff :=
(ckK .i64 ((x1.length:Int) - 1)).bind fun z1 =>
(at? x1 z1).bind fun y1 =>
(app? 16 y1.Old ([line]:List ByteArray)).bind fun y2 =>
(ckK .i64 (c_.at_+1)).bind fun z2 =>
(some (x1.set z1.toNat ({ At:=y1.At,Old:=y2,New:=y1.New }:Hunk))).bind fun y3 =>
 some ({ hunks:=y3,at_:=z2,open_:=x2 }:Collector_diff)
def Ds (c_:Collector_diff) (line:ByteArray):Option Collector_diff :=
 if !c_.open_ then
(app? 56 c_.hunks ([({ At:=c_.at_,Old:=[],New:=[] }:Hunk)]:List Hunk)).bind fun y4 =>
 Ds.j1 c_ line y4 true
 else
 Ds.j1 c_ line c_.hunks c_.open_
def Du.j1 (c_:Collector_diff) (line:ByteArray) (x1:List Hunk) (x2:Bool):Option Collector_diff :=
(ckK .i64 ((x1.length:Int) - 1)).bind fun z1 =>
(at? x1 z1).bind fun y1 =>
(app? 16 y1.New ([line]:List ByteArray)).bind fun y2 =>
(some (x1.set z1.toNat ({ At:=y1.At,Old:=y1.Old,New:=y2 }:Hunk))).bind fun y3 =>
 some ({ hunks:=y3,at_:=c_.at_,open_:=x2 }:Collector_diff)
def Du (c_:Collector_diff) (line:ByteArray):Option Collector_diff :=
 if !c_.open_ then
(app? 56 c_.hunks ([({ At:=c_.at_,Old:=[],New:=[] }:Hunk)]:List Hunk)).bind fun y4 =>
 Du.j1 c_ line y4 true
 else
 Du.j1 c_ line c_.hunks c_.open_
def C6.j1 (x1:List Hunk) (x2:Int) (x3:Bool):Option (Patch×Fault) :=
 some (({ Hunks:=x1 }:Patch),({ Code:=0,Index:=0 }:Fault))
def C6.j2 (x4:Int) (x11:Int) (x12:Int) (x13:List Hunk) (x14:Int) (x15:Bool):Option (Step (Int×Int×Int×(List Hunk)×Int×Bool) ((List Hunk)×Int×Bool)) :=
(ckK .i64 (x4+1)).bind fun z1 =>
 some (Step.next (z1,x11,x12,x13,x14,x15))
def C6.l1 (a_:(List ByteArray)) (b_:(List ByteArray)) (y2:(List Int)) (x4:Int) (x5:Int) (x6:Int) (x7:List Hunk) (x8:Int) (x9:Bool):Option (Step (Int×Int×Int×(List Hunk)×Int×Bool) ((List Hunk)×Int×Bool)) :=
 if decide (x4 < (y2.length:Int)) then
(at? y2 x4).bind fun y3 =>
 if decide (y3=0) then
(Kb ({ hunks:=x7,at_:=x8,open_:=x9 }:Collector_diff) 1).bind fun y4 =>
(ckK .i64 (x6+1)).bind fun z2 =>
(ckK .i64 (x5+1)).bind fun z3 =>
 C6.j2 x4 z3 z2 y4.hunks y4.at_ y4.open_
 else
 if decide (y3=1) then
(at? a_ x6).bind fun y5 =>
(Ds ({ hunks:=x7,at_:=x8,open_:=x9 }:Collector_diff) y5).bind fun y6 =>
(ckK .i64 (x6+1)).bind fun z4 =>
 C6.j2 x4 x5 z4 y6.hunks y6.at_ y6.open_
 else
(at? b_ x5).bind fun y7 =>
(Du ({ hunks:=x7,at_:=x8,open_:=x9 }:Collector_diff) y7).bind fun y8 =>
(ckK .i64 (x5+1)).bind fun z5 =>
 C6.j2 x4 z5 x6 y8.hunks y8.at_ y8.open_
 else
 some (Step.done (x7,x8,x9))
def C6 (a_:(List ByteArray)) (b_:(List ByteArray)):Option (Patch×Fault) :=
(Ob a_ b_).bind fun y1 =>
 if !(decide (y1.Code=0) && decide (y1.Index=0)) then
 some (({ Hunks:=[] }:Patch),y1)
 else
(B9 a_ b_).bind fun y2 =>
(Dl (fun s=>C6.l1 a_ b_ y2 s.1 s.2.1 s.2.2.1 s.2.2.2.1 s.2.2.2.2.1 s.2.2.2.2.2) (0,0,0,[],0,false)).bind fun r1 =>
 C6.j1 r1.1 r1.2.1 r1.2.2
def Bs.j2 (x2:List TreeChange):Option (List TreeChange) :=
 some x2
def Bs.l1 (slices:(List (List TreeChange))) (x3:Int) (x4:List TreeChange):Option (Step (Int×(List TreeChange)) (List TreeChange)) :=
 if decide (x3 < (slices.length:Int)) then
(at? slices x3).bind fun y2 =>
(app? 88 x4 y2).bind fun y3 =>
(ckK .i64 (x3+1)).bind fun z1 =>
 some (Step.next (z1,y3))
 else
 some (Step.done x4)
def Bs.j1 (slices:(List (List TreeChange))) (x1:Int):Option (List TreeChange) :=
(grow0 TreeChange 88 x1).bind fun y1 =>
(Dl (fun s=>Bs.l1 slices s.1 s.2) (0,y1)).bind fun r1 =>
 Bs.j2 r1
def Bs.j3 (x6:Int) (x9:Int):Option (Step (Int×Int) Int) :=
(ckK .i64 (x6+1)).bind fun z2 =>
 some (Step.next (z2,x9))
def Bs.l2 (slices:(List (List TreeChange))) (x6:Int) (x7:Int):Option (Step (Int×Int) Int) :=
 if decide (x6 < (slices.length:Int)) then
(at? slices x6).bind fun y4 =>
(ckK .i64 (x7+(y4.length:Int))).bind fun z3 =>
 if decide (z3 < 0) then
 Option.none
 else
 Bs.j3 x6 z3
 else
 some (Step.done x7)
def Bs (slices:(List (List TreeChange))):Option (List TreeChange) :=
(Dl (fun s=>Bs.l2 slices s.1 s.2) (0,0)).bind fun r2 =>
 Bs.j1 slices r2
def A8.j2 (x1:List TreeChange) (x2:List TreeChange) (x3:List TreeChange):Option (TreePatch×Fault) :=
(Bs ([x2,x1,x3]:List (List TreeChange))).bind fun y3 =>
 if decide ((y3.length:Int) > 30) then
 some (({ Changes:=[] }:TreePatch),({ Code:=10,Index:=(-1) }:Fault))
 else
 some (({ Changes:=y3 }:TreePatch),({ Code:=0,Index:=0 }:Fault))
def A8.j3 (x4:Int) (x7:List TreeChange):Option (Step (Int×(List TreeChange)) (List TreeChange)) :=
(ckK .i64 (x4+1)).bind fun z1 =>
 some (Step.next (z1,x7))
def A8.l1 (old_:FileTree) (newer:FileTree) (x4:Int) (x5:List TreeChange):Option (Step (Int×(List TreeChange)) (List TreeChange)) :=
 if decide (x4 < (newer.Files.length:Int)) then
(at? newer.Files x4).bind fun y4 =>
(Cd old_.Files y4.Path).bind fun y5 =>
 if !y5.2 then
(Kn y4.Lines).bind fun y6 =>
(app? 88 x5 ([({ Kind:=1,Path:=y4.Path,To:=ByteArray.empty,Lines:=y6,Patch:=({ Hunks:=[] }:Patch) }:TreeChange)]:List TreeChange)).bind fun y7 =>
 A8.j3 x4 y7
 else
 A8.j3 x4 x5
 else
 some (Step.done x5)
def A8.j1 (old_:FileTree) (newer:FileTree) (x1:List TreeChange) (x2:List TreeChange):Option (TreePatch×Fault) :=
(Dl (fun s=>A8.l1 old_ newer s.1 s.2) (0,[])).bind fun r1 =>
 A8.j2 x1 x2 r1
def A8.j4 (x8:Int) (x12:List TreeChange) (x13:List TreeChange):Option (Step (Int×(List TreeChange)×(List TreeChange)) ((List TreeChange)×(List TreeChange))) :=
(ckK .i64 (x8+1)).bind fun z2 =>
 some (Step.next (z2,x13,x12))
def A8.j5 (x8:Int) (x9:List TreeChange) (x10:List TreeChange) (y8:File) (y13:Patch×Fault):Option (Step (Int×(List TreeChange)×(List TreeChange)) ((List TreeChange)×(List TreeChange))) :=
 if decide ((y13.1.Hunks.length:Int) > 0) then
(app? 88 x9 ([({ Kind:=4,Path:=y8.Path,To:=ByteArray.empty,Lines:=[],Patch:=y13.1 }:TreeChange)]:List TreeChange)).bind fun y14 =>
 A8.j4 x8 x10 y14
 else
 A8.j4 x8 x10 x9
def A8.l2 (old_:FileTree) (newer:FileTree) (x8:Int) (x9:List TreeChange) (x10:List TreeChange):Option (Step (Int×(List TreeChange)×(List TreeChange)) ((List TreeChange)×(List TreeChange))) :=
 if decide (x8 < (old_.Files.length:Int)) then
(at? old_.Files x8).bind fun y8 =>
(Cd newer.Files y8.Path).bind fun y9 =>
 if !y9.2 then
(Kn y8.Lines).bind fun y10 =>
(app? 88 x10 ([({ Kind:=2,Path:=y8.Path,To:=ByteArray.empty,Lines:=y10,Patch:=({ Hunks:=[] }:Patch) }:TreeChange)]:List TreeChange)).bind fun y11 =>
 A8.j4 x8 y11 x9
 else
(at? newer.Files y9.1).bind fun y12 =>
(C6 y8.Lines y12.Lines).bind fun y13 =>
 A8.j5 x8 x9 x10 y8 y13
 else
 some (Step.done (x9,x10))
def A8 (old_:FileTree) (newer:FileTree):Option (TreePatch×Fault) :=
(Cq old_).bind fun y1 =>
 if !(decide (y1.Code=0) && decide (y1.Index=0)) then
 some (({ Changes:=[] }:TreePatch),y1)
 else
(Kv newer (-2)).bind fun y2 =>
 if !(decide (y2.Code=0) && decide (y2.Index=0)) then
 some (({ Changes:=[] }:TreePatch),y2)
 else
(Dl (fun s=>A8.l2 old_ newer s.1 s.2.1 s.2.2) (0,[],[])).bind fun r2 =>
 A8.j1 old_ newer r2.1 r2.2
def C9.j1 (x1:Int):Option Int :=
 some x1
def C9.j2 (x3:Int) (x4:Int) (x6:Int):Option (Step (Int×Int×Int) Int) :=
(ckK .i64 (2 * x3)).bind fun z1 =>
(rem? z1 2305843009213693951).bind fun z2 =>
(shr? .i64 x4 1).bind fun z3 =>
 some (Step.next (x6,z2,z3))
def C9.l1 (x2:Int) (x3:Int) (x4:Int):Option (Step (Int×Int×Int) Int) :=
 if decide (x4 > 0) then
 if decide (andI .i64 x4 1=1) then
(ckK .i64 (x2+x3)).bind fun z4 =>
(rem? z4 2305843009213693951).bind fun z5 =>
 C9.j2 x3 x4 z5
 else
 C9.j2 x3 x4 x2
 else
 some (Step.done x2)
def C9 (a_:Int) (b_:Int):Option Int :=
(Dl (fun s=>C9.l1 s.1 s.2.1 s.2.2) (0,a_,b_)).bind fun r1 =>
 C9.j1 r1
def L9 (s_:Step_digest) (factor:Int):Option Int :=
(C9 s_.e0 factor).bind fun y1 =>
(ckK .i64 (y1+s_.e1)).bind fun z1 =>
(rem? z1 2305843009213693951).bind fun z2 =>
 some z2
def G4.j1 (x1:Int):Option (Int×Fault) :=
 some (x1,({ Code:=0,Index:=0 }:Fault))
def G4.l1 (data:(List UInt8)) (x2:Int) (x3:Int):Option (Step (Int×Int) Int) :=
 if decide (x2 < (data.length:Int)) then
(at? data x2).bind fun y1 =>
(ckK .i64 (y1.toNat:Int)).bind fun z1 =>
(ckK .i64 (z1+1)).bind fun z2 =>
(L9 ({ e0:=x3,e1:=z2 }:Step_digest) 257).bind fun y2 =>
(ckK .i64 (x2+1)).bind fun z3 =>
 some (Step.next (z3,y2))
 else
 some (Step.done x3)
def G4 (data:(List UInt8)):Option (Int×Fault) :=
 if decide ((data.length:Int) > 4096) then
 some (0,({ Code:=2,Index:=0 }:Fault))
 else
(Dl (fun s=>G4.l1 data s.1 s.2) (0,1)).bind fun r1 =>
 G4.j1 r1
def Uz (a_:Int):Option Bool :=
(if decide (a_ ≥ 0) then some (decide (a_ < 2305843009213693951)) else some false).bind fun x1 =>
 some x1
def Lq (a_:Int) (b_:Int):Option Int :=
(L9 ({ e0:=b_,e1:=7 }:Step_digest) 31).bind fun y1 =>
(L9 ({ e0:=a_,e1:=y1 }:Step_digest) 1000003).bind fun y2 =>
 some y2
def Dj.j1 (a_:Int) (b_:Int):Option (Int×Fault) :=
(Lq a_ b_).bind fun y1 =>
 some (y1,({ Code:=0,Index:=0 }:Fault))
def Dj.l1 (a_:Int) (b_:Int) (x1:Int):Option (Step Int ((Int×Fault) ⊕ Unit)) :=
 if decide (x1 < 2) then
(at? ([a_,b_]:List Int) x1).bind fun y2 =>
(Uz y2).bind fun y3 =>
 if !y3 then
 some (Step.done (Sum.inl (0,({ Code:=3,Index:=x1 }:Fault))))
 else
(ckK .i64 (x1+1)).bind fun z1 =>
 some (Step.next z1)
 else
 some (Step.done (Sum.inr ()))
def Dj (a_:Int) (b_:Int):Option (Int×Fault) :=
(Dl (fun s=>Dj.l1 a_ b_ s) 0).bind fun r1 =>
(match r1 with
| .inl p=>some p
| .inr _=>Dj.j1 a_ b_)
def Ng (key:Int) (data:(List UInt8)):Option (Int×Fault) :=
(Lt key).bind fun y1 =>
 if !y1 then
 some (0,({ Code:=3,Index:=(-1) }:Fault))
 else
(G4 data).bind fun y2 =>
 if !(decide (y2.2.Code=0) && decide (y2.2.Index=0)) then
 some (0,y2.2)
 else
(Dj key y2.1).bind fun y3 =>
 some (y3.1,y3.2)
def Hb (s_:ByteArray):Option Int :=
(G4 s_.data.toList).bind fun y1 =>
 some y1.1
def Ec.j1 (x1:Int):Option (Int×Fault) :=
 some (x1,({ Code:=0,Index:=0 }:Fault))
def Ec.l1 (list:(List ByteArray)) (x2:Int) (x3:Int):Option (Step (Int×Int) ((Int×Fault) ⊕ Int)) :=
 if decide (x2 < (list.length:Int)) then
(at? list x2).bind fun y1 =>
(G4 y1.data.toList).bind fun y2 =>
 if !(decide (y2.2.Code=0) && decide (y2.2.Index=0)) then
 some (Step.done (Sum.inl (0,({ Code:=y2.2.Code,Index:=x2 }:Fault))))
 else
(Lq x3 y2.1).bind fun y3 =>
(ckK .i64 (x2+1)).bind fun z1 =>
 some (Step.next (z1,y3))
 else
 some (Step.done (Sum.inr x3))
def Ec (list:(List ByteArray)):Option (Int×Fault) :=
 if decide ((list.length:Int) > 120) then
 some (0,({ Code:=2,Index:=(-1) }:Fault))
 else
(Dl (fun s=>Ec.l1 list s.1 s.2) (0,2)).bind fun r1 =>
(match r1 with
| .inl p=>some p
| .inr p=>Ec.j1 p)
def Gk (l_:(List ByteArray)):Option Int :=
(Ec l_).bind fun y1 =>
 some y1.1
def Eo.j1 (x1:Int):Option Int :=
 some x1
def Eo.l1 (list:(List Int)) (x2:Int) (x3:Int):Option (Step (Int×Int) Int) :=
 if decide (x2 < (list.length:Int)) then
(at? list x2).bind fun y1 =>
(Dj x3 y1).bind fun y2 =>
(ckK .i64 (x2+1)).bind fun z1 =>
 some (Step.next (z1,y2.1))
 else
 some (Step.done x3)
def Eo (h_:Int) (list:(List Int)):Option Int :=
(Dl (fun s=>Eo.l1 list s.1 s.2) (0,h_)).bind fun r1 =>
 Eo.j1 r1
def Bp.j1 (x1:Int):Option (Int×Fault) :=
 some (x1,({ Code:=0,Index:=0 }:Fault))
def Bp.j2 (x2:Int) (x5:Int):Option (Step (Int×Int) Int) :=
(ckK .i64 (x2+1)).bind fun z1 =>
 some (Step.next (z1,x5))
def Bp.j3 (x2:Int) (x6:Int):Option (Step (Int×Int) Int) :=
 Bp.j2 x2 x6
def Bp.l2 (y2:TreeChange) (x7:Int) (x8:Int):Option (Step (Int×Int) Int) :=
 if decide (x7 < (y2.Patch.Hunks.length:Int)) then
(at? y2.Patch.Hunks x7).bind fun y7 =>
(Gk y7.Old).bind fun y8 =>
(Gk y7.New).bind fun y9 =>
(Eo x8 ([y7.At,y8,y9]:List Int)).bind fun y10 =>
(ckK .i64 (x7+1)).bind fun z2 =>
 some (Step.next (z2,y10))
 else
 some (Step.done x8)
def Bp.l1 (p_:TreePatch) (x2:Int) (x3:Int):Option (Step (Int×Int) Int) :=
 if decide (x2 < (p_.Changes.length:Int)) then
(at? p_.Changes x2).bind fun y2 =>
(Hb y2.Path).bind fun y3 =>
(Hb y2.To).bind fun y4 =>
(Gk y2.Lines).bind fun y5 =>
(Eo x3 ([y2.Kind,y3,y4,y5]:List Int)).bind fun y6 =>
(Dl (fun s=>Bp.l2 y2 s.1 s.2) (0,y6)).bind fun r2 =>
 Bp.j3 x2 r2
 else
 some (Step.done x3)
def Bp (p_:TreePatch):Option (Int×Fault) :=
(Ce p_).bind fun y1 =>
 if !(decide (y1.Code=0) && decide (y1.Index=0)) then
 some (0,y1)
 else
(Dl (fun s=>Bp.l1 p_ s.1 s.2) (0,3)).bind fun r1 =>
 Bp.j1 r1
def Kx (n_:Int):Option Bool :=
(if decide (n_ ≥ 0) then some (decide (n_ < 2305843009213693951)) else some false).bind fun x1 =>
 some x1
def G1.j1 (x1:List UInt8):Option (List UInt8) :=
 some x1
def G1.l1 (n_:Int) (x2:Int) (x3:List UInt8):Option (Step (Int×(List UInt8)) (List UInt8)) :=
 if decide (x2 ≥ 0) then
(shr? .i64 n_ x2).bind fun z1 =>
(some (u8w z1)).bind fun z2 =>
(app? 1 x3 ([z2]:List UInt8)).bind fun y1 =>
(ckK .i64 (x2 - 8)).bind fun z3 =>
 some (Step.next (z3,y1))
 else
 some (Step.done x3)
def G1 (n_:Int):Option (List UInt8) :=
(Dl (fun s=>G1.l1 n_ s.1 s.2) (56,[])).bind fun r1 =>
 G1.j1 r1
def D3.j1 (x1:List UInt8):Option ((List UInt8)×Fault) :=
 some (x1,({ Code:=0,Index:=0 }:Fault))
def D3.l1 (numbers:(List Int)) (x2:Int) (x3:List UInt8):Option (Step (Int×(List UInt8)) (((List UInt8)×Fault) ⊕ (List UInt8))) :=
 if decide (x2 < (numbers.length:Int)) then
(at? numbers x2).bind fun y1 =>
(Kx y1).bind fun y2 =>
 if !y2 then
 some (Step.done (Sum.inl ([],({ Code:=3,Index:=x2 }:Fault))))
 else
(G1 y1).bind fun y3 =>
(app? 1 x3 y3).bind fun y4 =>
(ckK .i64 (x2+1)).bind fun z1 =>
 some (Step.next (z1,y4))
 else
 some (Step.done (Sum.inr x3))
def D3 (numbers:(List Int)):Option ((List UInt8)×Fault) :=
 if decide ((numbers.length:Int) > 64) then
 some ([],({ Code:=2,Index:=(-1) }:Fault))
 else
(Dl (fun s=>D3.l1 numbers s.1 s.2) (0,[])).bind fun r1 =>
(match r1 with
| .inl p=>some p
| .inr p=>D3.j1 p)
def Ez (m_:Message_forge):Option (List UInt8) :=
(Bp m_.patch).bind fun y1 =>
(D3 ([m_.user,m_.number,m_.base,y1.1]:List Int)).bind fun y2 =>
 some y2.1
def G2.j1 (s_:State_forge) (user:Int) (key:Int) (y1:Developer_forge) (y3:TreePatch×Fault):Option (Int×State_forge) :=
 if !(decide (y3.2.Code=0) && decide (y3.2.Index=0)) then
 some (y3.2.Code,s_)
 else
 if decide ((y3.1.Changes.length:Int)=0) then
 some (11,s_)
 else
 if decide ((s_.flight.length:Int) ≥ 20) then
 some (14,s_)
 else
(ckK .i64 (y1.sent+1)).bind fun z1 =>
(some (s_.developers.set user.toNat ({ tree:=y1.tree,base:=y1.base,sent:=z1,accepted:=y1.accepted }:Developer_forge))).bind fun y4 =>
(Ez ({ user:=user,number:=({ tree:=y1.tree,base:=y1.base,sent:=z1,accepted:=y1.accepted }:Developer_forge).sent,base:=({ tree:=y1.tree,base:=y1.base,sent:=z1,accepted:=y1.accepted }:Developer_forge).base,signature:=0,patch:=y3.1 }:Message_forge)).bind fun y5 =>
(Ng key y5).bind fun y6 =>
(app? 56 s_.flight ([({ user:=user,number:=({ tree:=y1.tree,base:=y1.base,sent:=z1,accepted:=y1.accepted }:Developer_forge).sent,base:=({ tree:=y1.tree,base:=y1.base,sent:=z1,accepted:=y1.accepted }:Developer_forge).base,signature:=y6.1,patch:=y3.1 }:Message_forge)]:List Message_forge)).bind fun y7 =>
 some (0,({ keys:=s_.keys,versions:=s_.versions,developers:=y4,flight:=y7,log:=s_.log }:State_forge))
def G2 (s_:State_forge) (user:Int) (key:Int):Option (Int×State_forge) :=
(at? s_.developers user).bind fun y1 =>
(at? s_.versions y1.base).bind fun y2 =>
(A8 y2 y1.tree).bind fun y3 =>
 G2.j1 s_ user key y1 y3
def Br.j1 (s_:State_forge) (x1:List Developer_forge):Option (Int×State_forge) :=
 some (0,({ keys:=s_.keys,versions:=s_.versions,developers:=x1,flight:=s_.flight,log:=s_.log }:State_forge))
def Br.j2 (s_:State_forge) (e_:ForgeEvent) (y1:Developer_forge) (y7:FileTree×Fault):Option (Int×State_forge) :=
 if !(decide (y7.2.Code=0) && decide (y7.2.Index=0)) then
 some (y7.2.Code,s_)
 else
(some (s_.developers.set e_.User.toNat ({ tree:=y7.1,base:=y1.base,sent:=y1.sent,accepted:=y1.accepted }:Developer_forge))).bind fun y8 =>
 Br.j1 s_ y8
def Br (s_:State_forge) (e_:ForgeEvent):Option (Int×State_forge) :=
(at? s_.developers e_.User).bind fun y1 =>
 if decide (e_.Kind=1) then
(at? s_.versions y1.base).bind fun y2 =>
(Dg y1.tree y2).bind fun y3 =>
 if !y3 then
 some (15,s_)
 else
(ckK .i64 ((s_.versions.length:Int) - 1)).bind fun z1 =>
(Ga s_).bind fun y4 =>
(some (s_.developers.set e_.User.toNat ({ tree:=y1.tree,base:=z1,sent:=y1.sent,accepted:=y1.accepted }:Developer_forge))).bind fun y5 =>
(some (y5.set e_.User.toNat ({ tree:=y4,base:=({ tree:=y1.tree,base:=z1,sent:=y1.sent,accepted:=y1.accepted }:Developer_forge).base,sent:=({ tree:=y1.tree,base:=z1,sent:=y1.sent,accepted:=y1.accepted }:Developer_forge).sent,accepted:=({ tree:=y1.tree,base:=z1,sent:=y1.sent,accepted:=y1.accepted }:Developer_forge).accepted }:Developer_forge))).bind fun y6 =>
 Br.j1 s_ y6
 else
 if decide (e_.Kind=2) then
(Db e_.Patch y1.tree).bind fun y7 =>
 Br.j2 s_ e_ y1 y7
 else
 if decide (e_.Kind=3) then
(G2 s_ e_.User e_.Key).bind fun y9 =>
 some (y9.1,y9.2)
 else
(at? s_.versions y1.base).bind fun y10 =>
(some (s_.developers.set e_.User.toNat ({ tree:=y10,base:=y1.base,sent:=y1.sent,accepted:=y1.accepted }:Developer_forge))).bind fun y11 =>
 Br.j1 s_ y11
def Na (key:Int) (data:(List UInt8)) (signature:Int):Option (Bool×Fault) :=
(Ng key data).bind fun y1 =>
 if !(decide (y1.2.Code=0) && decide (y1.2.Index=0)) then
 some (false,y1.2)
 else
(Kx signature).bind fun y2 =>
 if !y2 then
 some (false,({ Code:=3,Index:=(-2) }:Fault))
 else
 some (decide (y1.1=signature),({ Code:=0,Index:=0 }:Fault))
def Lj (c_:TreeChange):Option (List ByteArray) :=
 if decide (c_.Kind=3) then
 some ([c_.Path,c_.To]:List ByteArray)
 else
 some ([c_.Path]:List ByteArray)
def Bb.j1:Option Bool :=
 some false
def Bb.j2 (x1:Int) (x3:Int):Option (Step Int (Bool ⊕ Unit)) :=
 if decide (x3 ≥ 0) then
 some (Step.done (Sum.inl true))
 else
(ckK .i64 (x1+1)).bind fun z1 =>
 some (Step.next z1)
def Bb.j3 (x1:Int):Option (Step Int (Bool ⊕ Unit)) :=
 Bb.j2 x1 (-1)
def Bb.l2 (path:ByteArray) (y2:(List ByteArray)) (x4:Int):Option (Step Int (Int ⊕ Unit)) :=
 if decide (x4 < (y2.length:Int)) then
(at? y2 x4).bind fun y3 =>
(Gy y3 path).bind fun y4 =>
 if y4 then
 some (Step.done (Sum.inl x4))
 else
(ckK .i64 (x4+1)).bind fun z2 =>
 some (Step.next z2)
 else
 some (Step.done (Sum.inr ()))
def Bb.l1 (path:ByteArray) (changes:(List TreeChange)) (x1:Int):Option (Step Int (Bool ⊕ Unit)) :=
 if decide (x1 < (changes.length:Int)) then
(at? changes x1).bind fun y1 =>
(Lj y1).bind fun y2 =>
(Dl (fun s=>Bb.l2 path y2 s) 0).bind fun r2 =>
(match r2 with
| .inl p=>Bb.j2 x1 p
| .inr _=>Bb.j3 x1)
 else
 some (Step.done (Sum.inr ()))
def Bb (path:ByteArray) (changes:(List TreeChange)):Option Bool :=
(Dl (fun s=>Bb.l1 path changes s) 0).bind fun r1 =>
(match r1 with
| .inl p=>some p
| .inr _=>Bb.j1)
def Ck.j1:Option Int :=
 some (-1)
def Ck.l1 (p_:TreePatch) (path:ByteArray) (x1:Int):Option (Step Int (Int ⊕ Unit)) :=
 if decide (x1 ≥ 0) then
(at? p_.Changes x1).bind fun y1 =>
(Bb path ([y1]:List TreeChange)).bind fun y2 =>
 if y2 then
 some (Step.done (Sum.inl x1))
 else
(ckK .i64 (x1 - 1)).bind fun z2 =>
 some (Step.next z2)
 else
 some (Step.done (Sum.inr ()))
def Ck (p_:TreePatch) (path:ByteArray):Option Int :=
(ckK .i64 ((p_.Changes.length:Int) - 1)).bind fun z1 =>
(Dl (fun s=>Ck.l1 p_ path s) z1).bind fun r1 =>
(match r1 with
| .inl p=>some p
| .inr _=>Ck.j1)
def Bk.j1 (s_:(List ByteArray)):Option (List ByteArray) :=
 some s_
def Bk.j2 (x1:Int):Option (Step Int ((List ByteArray) ⊕ Unit)) :=
(ckK .i64 (x1+1)).bind fun z1 =>
 some (Step.next z1)
def Bk.j3 (x3:Int) (x4:List ByteArray):Option (Step Int ((List ByteArray) ⊕ Unit)) :=
(als? x4 x3).bind fun z4 =>
(clr? x4 x3 z4 ByteArray.empty).bind fun y3 =>
(cut? y3 0 x3).bind fun y4 =>
 some (Step.done (Sum.inl y4))
def Bk.j4 (x5:Int) (x9:Int) (x10:List ByteArray):Option (Step (Int×Int×(List ByteArray)) (Int×(List ByteArray))) :=
(ckK .i64 (x5+1)).bind fun z5 =>
 some (Step.next (z5,x9,x10))
def Bk.l2 (x1:Int) (z3:Int) (x5:Int) (x6:Int) (x7:List ByteArray):Option (Step (Int×Int×(List ByteArray)) (Int×(List ByteArray))) :=
 if decide (x5 < z3) then
(atA? x7 x1 z3 x5).bind fun y5 =>
(ckK .i64 (x5 - 1)).bind fun z6 =>
(atA? x7 x1 z3 z6).bind fun y6 =>
 if !decide (y5=y6) then
(atA? x7 x1 z3 x5).bind fun y7 =>
(at? x7 x6).bind fun y8 =>
(some (x7.set x6.toNat y7)).bind fun y9 =>
(ckK .i64 (x6+1)).bind fun z7 =>
 Bk.j4 x5 z7 y9
 else
 Bk.j4 x5 x6 x7
 else
 some (Step.done (x6,x7))
def Bk.l1 (s_:(List ByteArray)) (x1:Int):Option (Step Int ((List ByteArray) ⊕ Unit)) :=
 if decide (x1 < (s_.length:Int)) then
(at? s_ x1).bind fun y1 =>
(ckK .i64 (x1 - 1)).bind fun z2 =>
(at? s_ z2).bind fun y2 =>
 if decide (y1=y2) then
(als? s_ x1).bind fun z3 =>
(Dl (fun s=>Bk.l2 x1 z3 s.1 s.2.1 s.2.2) (1,x1,s_)).bind fun r2 =>
 Bk.j3 r2.1 r2.2
 else
 Bk.j2 x1
 else
 some (Step.done (Sum.inr ()))
def Bk (s_:(List ByteArray)):Option (List ByteArray) :=
 if decide ((s_.length:Int) < 2) then
 some s_
 else
(Dl (fun s=>Bk.l1 s_ s) 1).bind fun r1 =>
(match r1 with
| .inl p=>some p
| .inr _=>Bk.j1 s_)
def Bo.j1 (x1:List ByteArray):Option (List ByteArray) :=
(sortS? x1).bind fun y1 =>
(Bk y1).bind fun y2 =>
 some y2
def Bo.j2 (x2:Int) (x5:List ByteArray):Option (Step (Int×(List ByteArray)) (List ByteArray)) :=
(ckK .i64 (x2+1)).bind fun z1 =>
 some (Step.next (z1,x5))
def Bo.j3 (x2:Int) (x6:List ByteArray):Option (Step (Int×(List ByteArray)) (List ByteArray)) :=
 Bo.j2 x2 x6
def Bo.l2 (y3:FileTree) (x7:Int) (x8:List ByteArray):Option (Step (Int×(List ByteArray)) (List ByteArray)) :=
 if decide (x7 < (y3.Files.length:Int)) then
(at? y3.Files x7).bind fun y4 =>
(app? 16 x8 ([y4.Path]:List ByteArray)).bind fun y5 =>
(ckK .i64 (x7+1)).bind fun z2 =>
 some (Step.next (z2,y5))
 else
 some (Step.done x8)
def Bo.l1 (trees:(List FileTree)) (x2:Int) (x3:List ByteArray):Option (Step (Int×(List ByteArray)) (List ByteArray)) :=
 if decide (x2 < (trees.length:Int)) then
(at? trees x2).bind fun y3 =>
(Dl (fun s=>Bo.l2 y3 s.1 s.2) (0,x3)).bind fun r2 =>
 Bo.j3 x2 r2
 else
 some (Step.done x3)
def Bo (trees:(List FileTree)):Option (List ByteArray) :=
(Dl (fun s=>Bo.l1 trees s.1 s.2) (0,[])).bind fun r1 =>
 Bo.j1 r1
def Hd (t_:FileTree) (path:ByteArray):Option Version_treecommute :=
(Cd t_.Files path).bind fun y1 =>
 if !y1.2 then
 some ({ is:=false,lines:=[] }:Version_treecommute)
 else
(at? t_.Files y1.1).bind fun y2 =>
 some ({ is:=true,lines:=y2.Lines }:Version_treecommute)
def H0 (a_:Version_treecommute) (b_:Version_treecommute):Option Bool :=
(if decide (a_.is=b_.is) then (D4 a_.lines b_.lines).bind fun y1 =>
 some y1 else some false).bind fun x1 =>
 some x1
def L6 (h_:Hunk):Option Int :=
(ckK .i64 ((h_.New.length:Int) - (h_.Old.length:Int))).bind fun z1 =>
 some z1
def De.j1 (x1:List Range_commute):Option (List Range_commute) :=
 some x1
def De.l1 (p_:Patch) (x2:Int) (x3:List Range_commute):Option (Step (Int×(List Range_commute)) (List Range_commute)) :=
 if decide (x2 < (p_.Hunks.length:Int)) then
(at? p_.Hunks x2).bind fun y1 =>
(H7 y1).bind fun y2 =>
(L6 y1).bind fun y3 =>
(app? 24 x3 ([({ Low:=y1.At,High:=y2,Growth:=y3 }:Range_commute)]:List Range_commute)).bind fun y4 =>
(ckK .i64 (x2+1)).bind fun z1 =>
 some (Step.next (z1,y4))
 else
 some (Step.done x3)
def De (p_:Patch):Option (List Range_commute) :=
(Dl (fun s=>De.l1 p_ s.1 s.2) (0,[])).bind fun r1 =>
 De.j1 r1
def D8 (a_:RangeX_commute) (b_:RangeX_commute):Option Int :=
 if !decide (a_.Low=b_.Low) then
(ckK .i64 (a_.Low - b_.Low)).bind fun z1 =>
 some z1
 else
(ckK .i64 (a_.High - b_.High)).bind fun z2 =>
 some z2
def Mk (a_:RangeX_commute) (b_:RangeX_commute):Option Bool :=
(if decide (a_.High ≥ b_.Low) then some (decide (b_.High ≥ a_.Low)) else some false).bind fun x1 =>
 some x1
def Da.j1 (x1:List RangeX_commute):Option (List RangeX_commute) :=
 some x1
def Da.j2 (x2:Int) (x5:List RangeX_commute):Option (Step (Int×(List RangeX_commute)) (List RangeX_commute)) :=
(ckK .i64 (x2+1)).bind fun z1 =>
 some (Step.next (z1,x5))
def Da.l1 (y4:List RangeX_commute) (x2:Int) (x3:List RangeX_commute):Option (Step (Int×(List RangeX_commute)) (List RangeX_commute)) :=
 if decide (x2 < (y4.length:Int)) then
(at? y4 x2).bind fun y5 =>
(if decide ((x3.length:Int) > 0) then (ckK .i64 ((x3.length:Int) - 1)).bind fun z2 =>
(at? x3 z2).bind fun y6 =>
(Mk y6 y5).bind fun y7 =>
 some y7 else some false).bind fun x6 =>
 if x6 then
(ckK .i64 ((x3.length:Int) - 1)).bind fun z3 =>
(ckK .i64 ((x3.length:Int) - 1)).bind fun z4 =>
(at? x3 z4).bind fun y8 =>
(at? x3 z3).bind fun y9 =>
(some (x3.set z3.toNat ({ Low:=y9.Low,High:=max y8.High y5.High,Growth:=y9.Growth }:RangeX_commute))).bind fun y10 =>
 Da.j2 x2 y10
 else
(app? 24 x3 ([y5]:List RangeX_commute)).bind fun y11 =>
 Da.j2 x2 y11
 else
 some (Step.done x3)
def Da (p_:Patch) (q_:Patch):Option (List RangeX_commute) :=
(De p_).bind fun y1 =>
(De q_).bind fun y2 =>
(app? 24 (y1.map Kh) (y2.map Kh)).bind fun y3 =>
(sortM D8 y3).bind fun y4 =>
(Dl (fun s=>Da.l1 y4 s.1 s.2) (0,[])).bind fun r1 =>
 Da.j1 r1
def Df.j1 (l_:(List ByteArray)) (x1:List Chunk):Option Merger_merge3 :=
(ckK .i64 ((x1.length:Int) - 1)).bind fun z1 =>
(at? x1 z1).bind fun y1 =>
(app? 16 y1.Lines l_).bind fun y2 =>
(some (x1.set z1.toNat ({ Conflict:=y1.Conflict,Lines:=y2,Base:=y1.Base,Left:=y1.Left,Right:=y1.Right }:Chunk))).bind fun y3 =>
 some ({ out:=y3 }:Merger_merge3)
def Df (m_:Merger_merge3) (l_:(List ByteArray)):Option Merger_merge3 :=
 if decide ((l_.length:Int)=0) then
 some m_
 else
(if decide ((m_.out.length:Int)=0) then some true else (ckK .i64 ((m_.out.length:Int) - 1)).bind fun z2 =>
(at? m_.out z2).bind fun y4 =>
 some y4.Conflict).bind fun x2 =>
 if x2 then
(app? 104 m_.out ([({ Conflict:=false,Lines:=[],Base:=[],Left:=[],Right:=[] }:Chunk)]:List Chunk)).bind fun y5 =>
 Df.j1 l_ y5
 else
 Df.j1 l_ m_.out
def Dm.j1 (x1:List Hunk):Option (List Hunk) :=
 some x1
def Dm.j2 (x2:Int) (x5:List Hunk):Option (Step (Int×(List Hunk)) (List Hunk)) :=
(ckK .i64 (x2+1)).bind fun z1 =>
 some (Step.next (z1,x5))
def Dm.l1 (p_:Patch) (r_:RangeX_commute) (x2:Int) (x3:List Hunk):Option (Step (Int×(List Hunk)) (List Hunk)) :=
 if decide (x2 < (p_.Hunks.length:Int)) then
(at? p_.Hunks x2).bind fun y1 =>
(if decide (y1.At ≥ r_.Low) then (H7 y1).bind fun y2 =>
 some (decide (y2≤r_.High)) else some false).bind fun x6 =>
 if x6 then
(app? 56 x3 ([y1]:List Hunk)).bind fun y3 =>
 Dm.j2 x2 y3
 else
 Dm.j2 x2 x3
 else
 some (Step.done x3)
def Dm (p_:Patch) (r_:RangeX_commute):Option (List Hunk) :=
(Dl (fun s=>Dm.l1 p_ r_ s.1 s.2) (0,[])).bind fun r1 =>
 Dm.j1 r1
def C2.j1 (base:(List ByteArray)) (x1:Int) (x2:List Chunk):Option ((List Chunk)×Fault) :=
(cut? base x1 (base.length:Int)).bind fun y5 =>
(Df ({ out:=x2 }:Merger_merge3) y5).bind fun y6 =>
 some (y6.out,({ Code:=0,Index:=0 }:Fault))
def C2.j2 (x3:Int) (x7:Int) (x8:List Chunk):Option (Step (Int×Int×(List Chunk)) (Int×(List Chunk))) :=
(ckK .i64 (x3+1)).bind fun z1 =>
 some (Step.next (z1,x7,x8))
def C2.l1 (base:(List ByteArray)) (y3:Patch×Fault) (y4:Patch×Fault) (y7:(List RangeX_commute)) (x3:Int) (x4:Int) (x5:List Chunk):Option (Step (Int×Int×(List Chunk)) (Int×(List Chunk))) :=
 if decide (x3 < (y7.length:Int)) then
(at? y7 x3).bind fun y8 =>
(cut? base x4 y8.Low).bind fun y9 =>
(Df ({ out:=x5 }:Merger_merge3) y9).bind fun y10 =>
(Dm y3.1 y8).bind fun y11 =>
(Dm y4.1 y8).bind fun y12 =>
(Cr y11 base y8.Low y8.High).bind fun y13 =>
(Cr y12 base y8.Low y8.High).bind fun y14 =>
(if decide ((y12.length:Int)=0) then some true else (D4 y13 y14).bind fun y15 =>
 some y15).bind fun x9 =>
 if x9 then
(Df y10 y13).bind fun y16 =>
 C2.j2 x3 y8.High y16.out
 else
 if decide ((y11.length:Int)=0) then
(Df y10 y14).bind fun y17 =>
 C2.j2 x3 y8.High y17.out
 else
(cut? base y8.Low y8.High).bind fun y18 =>
(Kn y18).bind fun y19 =>
(app? 104 y10.out ([({ Conflict:=true,Lines:=[],Base:=y19,Left:=y13,Right:=y14 }:Chunk)]:List Chunk)).bind fun y20 =>
 C2.j2 x3 y8.High y20
 else
 some (Step.done (x4,x5))
def C2 (base:(List ByteArray)) (left:(List ByteArray)) (right:(List ByteArray)):Option ((List Chunk)×Fault) :=
(Ob base left).bind fun y1 =>
 if !(decide (y1.Code=0) && decide (y1.Index=0)) then
 some ([],y1)
 else
(H9 right (-3)).bind fun y2 =>
 if !(decide (y2.Code=0) && decide (y2.Index=0)) then
 some ([],y2)
 else
(C6 base left).bind fun y3 =>
(C6 base right).bind fun y4 =>
(Da y3.1 y4.1).bind fun y7 =>
(Dl (fun s=>C2.l1 base y3 y4 y7 s.1 s.2.1 s.2.2) (0,0,[])).bind fun r1 =>
 C2.j1 base r1.1 r1.2
def B1.j1:Option Fault :=
 some ({ Code:=0,Index:=0 }:Fault)
def B1.j2 (x1:Int):Option (Step Int (Fault ⊕ Unit)) :=
(ckK .i64 (x1+1)).bind fun z1 =>
 some (Step.next z1)
def B1.j3 (x1:Int) (y1:Chunk):Option (Step Int (Fault ⊕ Unit)) :=
(ckK .i64 ((y1.Base.length:Int)+(y1.Left.length:Int))).bind fun z2 =>
(ckK .i64 (z2+(y1.Right.length:Int))).bind fun z3 =>
(if y1.Conflict then some (decide ((y1.Lines.length:Int) > 0)) else some false).bind fun x3 =>
(if x3 then some true else (if !y1.Conflict then (if decide ((y1.Lines.length:Int)=0) then some true else some (decide (z3 > 0))).bind fun x6 =>
 some x6 else some false).bind fun x5 =>
 some x5).bind fun x4 =>
 if x4 then
 some (Step.done (Sum.inl ({ Code:=5,Index:=x1 }:Fault)))
 else
 B1.j2 x1
def B1.l2 (x1:Int) (y1:Chunk) (x7:Int):Option (Step Int (Fault ⊕ Unit)) :=
 if decide (x7 < 4) then
(at? ([y1.Lines,y1.Base,y1.Left,y1.Right]:List (List ByteArray)) x7).bind fun y2 =>
(H9 y2 x1).bind fun y3 =>
 if !(decide (y3.Code=0) && decide (y3.Index=0)) then
 some (Step.done (Sum.inl y3))
 else
(ckK .i64 (x7+1)).bind fun z4 =>
 some (Step.next z4)
 else
 some (Step.done (Sum.inr ()))
def B1.l1 (chunks:(List Chunk)) (x1:Int):Option (Step Int (Fault ⊕ Unit)) :=
 if decide (x1 < (chunks.length:Int)) then
(at? chunks x1).bind fun y1 =>
(Dl (fun s=>B1.l2 x1 y1 s) 0).bind fun r2 =>
(match r2 with
| .inl p=>some (Step.done (Sum.inl p))
| .inr _=>B1.j3 x1 y1)
 else
 some (Step.done (Sum.inr ()))
def B1 (chunks:(List Chunk)):Option Fault :=
 if decide ((chunks.length:Int) > 240) then
 some ({ Code:=2,Index:=(-1) }:Fault)
 else
(Dl (fun s=>B1.l1 chunks s) 0).bind fun r1 =>
(match r1 with
| .inl p=>some p
| .inr _=>B1.j1)
def Tm (l_:(List ByteArray)):Option ((List ByteArray)×Fault) :=
 if decide ((l_.length:Int) > 120) then
 some ([],({ Code:=10,Index:=(-1) }:Fault))
 else
 some (l_,({ Code:=0,Index:=0 }:Fault))
def Ey.j1 (x1:List ByteArray):Option ((List ByteArray)×Bool×Fault) :=
(Tm x1).bind fun y2 =>
 some (y2.1,decide (y2.2.Code=0) && decide (y2.2.Index=0),y2.2)
def Ey.l1 (chunks:(List Chunk)) (x2:Int) (x3:List ByteArray):Option (Step (Int×(List ByteArray)) (((List ByteArray)×Bool×Fault) ⊕ (List ByteArray))) :=
 if decide (x2 < (chunks.length:Int)) then
(at? chunks x2).bind fun y3 =>
 if y3.Conflict then
 some (Step.done (Sum.inl ([],false,({ Code:=0,Index:=0 }:Fault))))
 else
(app? 16 x3 y3.Lines).bind fun y4 =>
(ckK .i64 (x2+1)).bind fun z1 =>
 some (Step.next (z1,y4))
 else
 some (Step.done (Sum.inr x3))
def Ey (chunks:(List Chunk)):Option ((List ByteArray)×Bool×Fault) :=
(B1 chunks).bind fun y1 =>
 if !(decide (y1.Code=0) && decide (y1.Index=0)) then
 some ([],false,y1)
 else
(Dl (fun s=>Ey.l1 chunks s.1 s.2) (0,[])).bind fun r1 =>
(match r1 with
| .inl p=>some p
| .inr p=>Ey.j1 p)
def D2.j1 (left:Version_treecommute):Option (Version_treecommute×Bool) :=
 some (left,false)
def D2 (base:Version_treecommute) (left:Version_treecommute) (right:Version_treecommute):Option (Version_treecommute×Bool) :=
(H0 right base).bind fun y1 =>
(if y1 then some true else (H0 right left).bind fun y2 =>
 some y2).bind fun x1 =>
 if x1 then
 some (left,true)
 else
(H0 left base).bind fun y3 =>
 if y3 then
 some (right,true)
 else
(if base.is then some left.is else some false).bind fun x2 =>
(if x2 then some right.is else some false).bind fun x3 =>
 if x3 then
(C2 base.lines left.lines right.lines).bind fun y4 =>
 if decide (y4.2.Code=0) && decide (y4.2.Index=0) then
(Ey y4.1).bind fun y5 =>
(if y5.2.1 then some (decide (y5.2.2.Code=0) && decide (y5.2.2.Index=0)) else some false).bind fun x4 =>
 if x4 then
 some (({ is:=true,lines:=y5.1 }:Version_treecommute),true)
 else
 D2.j1 left
 else
 D2.j1 left
 else
 D2.j1 left
def Ap.j3 (x1:List Arr2_Int) (x6:List Arr2_Int) (x7:List File):Option (FileTree×(List Arr2_Int)×Fault) :=
 if decide ((x7.length:Int) > 24) then
 some (({ Files:=[] }:FileTree),[],({ Code:=10,Index:=(-1) }:Fault))
 else
(app? 16 x1 x6).bind fun y4 =>
 some (({ Files:=x7 }:FileTree),y4,({ Code:=0,Index:=0 }:Fault))
def Ap.j4 (x8:Int) (x12:List Arr2_Int) (x13:List File):Option (Step (Int×(List Arr2_Int)×(List File)) ((List Arr2_Int)×(List File))) :=
(ckK .i64 (x8+1)).bind fun z1 =>
 some (Step.next (z1,x12,x13))
def Ap.l1 (left:TreePatch) (right:TreePatch) (x2:List File) (x5:List File) (x8:Int) (x9:List Arr2_Int) (x10:List File):Option (Step (Int×(List Arr2_Int)×(List File)) ((List Arr2_Int)×(List File))) :=
 if decide (x8 < (x2.length:Int)) then
(at? x2 x8).bind fun y5 =>
(Ct x5 y5.Path (-1)).bind fun y6 =>
 if y6 then
(Ck left y5.Path).bind fun y7 =>
(Ck right y5.Path).bind fun y8 =>
(app? 16 x9 ([({ e0:=y7,e1:=y8 }:Arr2_Int)]:List Arr2_Int)).bind fun y9 =>
 Ap.j4 x8 y9 x10
 else
(Eu ({ Files:=x10 }:FileTree) y5.Path y5.Lines).bind fun y10 =>
 Ap.j4 x8 x9 y10.Files
 else
 some (Step.done (x9,x10))
def Ap.j2 (left:TreePatch) (right:TreePatch) (x1:List Arr2_Int) (x2:List File) (x3:List File) (x5:List File):Option (FileTree×(List Arr2_Int)×Fault) :=
(Dl (fun s=>Ap.l1 left right x2 x5 s.1 s.2.1 s.2.2) (0,[],x3)).bind fun r1 =>
 Ap.j3 x1 r1.1 r1.2
def Ap.j5 (x14:Int) (x17:List File):Option (Step (Int×(List File)) (List File)) :=
(ckK .i64 (x14+1)).bind fun z2 =>
 some (Step.next (z2,x17))
def Ap.l2 (x3:List File) (x4:List File) (x14:Int) (x15:List File):Option (Step (Int×(List File)) (List File)) :=
 if decide (x14 < (x3.length:Int)) then
(at? x3 x14).bind fun y11 =>
(Hd ({ Files:=x4 }:FileTree) y11.Path).bind fun y12 =>
 if !y12.is then
(app? 40 x15 ([y11]:List File)).bind fun y13 =>
 Ap.j5 x14 y13
 else
 Ap.j5 x14 x15
 else
 some (Step.done x15)
def Ap.j1 (left:TreePatch) (right:TreePatch) (x1:List Arr2_Int) (x2:List File) (x3:List File) (x4:List File):Option (FileTree×(List Arr2_Int)×Fault) :=
(Dl (fun s=>Ap.l2 x3 x4 s.1 s.2) (0,[])).bind fun r2 =>
 Ap.j2 left right x1 x2 x3 r2
def Ap.j6 (x18:Int) (x23:List Arr2_Int) (x24:List File) (x25:List File):Option (Step (Int×(List Arr2_Int)×(List File)×(List File)) ((List Arr2_Int)×(List File)×(List File)×(List File))) :=
(ckK .i64 (x18+1)).bind fun z3 =>
 some (Step.next (z3,x23,x24,x25))
def Ap.j8 (x18:Int) (x20:List File) (x21:List File) (y15:ByteArray) (y16:Version_treecommute) (y19:Version_treecommute×Bool) (x27:List Arr2_Int):Option (Step (Int×(List Arr2_Int)×(List File)×(List File)) ((List Arr2_Int)×(List File)×(List File)×(List File))) :=
(if y19.1.is then some y16.is else some false).bind fun x28 =>
 if x28 then
(Eu ({ Files:=x21 }:FileTree) y15 y19.1.lines).bind fun y20 =>
 Ap.j6 x18 x27 x20 y20.Files
 else
 if y19.1.is then
(Eu ({ Files:=x20 }:FileTree) y15 y19.1.lines).bind fun y21 =>
 Ap.j6 x18 x27 y21.Files x21
 else
 Ap.j6 x18 x27 x20 x21
def Ap.j7 (left:TreePatch) (right:TreePatch) (x18:Int) (x19:List Arr2_Int) (x20:List File) (x21:List File) (y15:ByteArray) (y16:Version_treecommute) (y19:Version_treecommute×Bool):Option (Step (Int×(List Arr2_Int)×(List File)×(List File)) ((List Arr2_Int)×(List File)×(List File)×(List File))) :=
 if !y19.2 then
(Ck left y15).bind fun y22 =>
(Ck right y15).bind fun y23 =>
(app? 16 x19 ([({ e0:=y22,e1:=y23 }:Arr2_Int)]:List Arr2_Int)).bind fun y24 =>
 Ap.j8 x18 x20 x21 y15 y16 y19 y24
 else
 Ap.j8 x18 x20 x21 y15 y16 y19 x19
def Ap.l3 (base:FileTree) (left:TreePatch) (right:TreePatch) (y2:FileTree×Fault) (y3:FileTree×Fault) (y14:(List ByteArray)) (x18:Int) (x19:List Arr2_Int) (x20:List File) (x21:List File):Option (Step (Int×(List Arr2_Int)×(List File)×(List File)) ((List Arr2_Int)×(List File)×(List File)×(List File))) :=
 if decide (x18 < (y14.length:Int)) then
(at? y14 x18).bind fun y15 =>
(Hd y2.1 y15).bind fun y16 =>
(Hd base y15).bind fun y17 =>
(Hd y3.1 y15).bind fun y18 =>
(D2 y17 y16 y18).bind fun y19 =>
 Ap.j7 left right x18 x19 x20 x21 y15 y16 y19
 else
 some (Step.done (x19,x20,x21,y3.1.Files))
def Ap (base:FileTree) (left:TreePatch) (right:TreePatch):Option (FileTree×(List Arr2_Int)×Fault) :=
(Cq base).bind fun y1 =>
 if !(decide (y1.Code=0) && decide (y1.Index=0)) then
 some (({ Files:=[] }:FileTree),[],y1)
 else
(Db left base).bind fun y2 =>
 if !(decide (y2.2.Code=0) && decide (y2.2.Index=0)) then
 some (({ Files:=[] }:FileTree),[],({ Code:=y2.2.Code,Index:=(-2) }:Fault))
 else
(Db right base).bind fun y3 =>
 if !(decide (y3.2.Code=0) && decide (y3.2.Index=0)) then
 some (({ Files:=[] }:FileTree),[],({ Code:=y3.2.Code,Index:=(-3) }:Fault))
 else
(Bo ([base,y2.1,y3.1]:List FileTree)).bind fun y14 =>
(Dl (fun s=>Ap.l3 base left right y2 y3 y14 s.1 s.2.1 s.2.2.1 s.2.2.2) (0,[],[],[])).bind fun r3 =>
 Ap.j1 left right r3.1 r3.2.1 r3.2.2.1 r3.2.2.2
def Bn.j3 (s_:State_forge) (m_:Message_forge) (y1:Developer_forge) (y8:FileTree×(List Arr2_Int)×Fault) (y10:TreePatch×Fault):Option (Int×State_forge) :=
 if !(decide (y10.2.Code=0) && decide (y10.2.Index=0)) then
 some (y10.2.Code,s_)
 else
(some (s_.developers.set m_.user.toNat ({ tree:=y1.tree,base:=y1.base,sent:=y1.sent,accepted:=m_.number }:Developer_forge))).bind fun y11 =>
(app? 24 s_.versions ([y8.1]:List FileTree)).bind fun y12 =>
(app? 40 s_.log ([({ User:=m_.user,Number:=m_.number,Patch:=y10.1 }:ForgeEntry)]:List ForgeEntry)).bind fun y13 =>
 some (0,({ keys:=s_.keys,versions:=y12,developers:=y11,flight:=s_.flight,log:=y13 }:State_forge))
def Bn.j2 (s_:State_forge) (m_:Message_forge) (y1:Developer_forge) (y5:FileTree) (y7:TreePatch×Fault):Option (Int×State_forge) :=
 if !(decide (y7.2.Code=0) && decide (y7.2.Index=0)) then
 some (y7.2.Code,s_)
 else
(Ap y5 y7.1 m_.patch).bind fun y8 =>
 if !(decide (y8.2.2.Code=0) && decide (y8.2.2.Index=0)) then
 some (y8.2.2.Code,s_)
 else
 if decide ((y8.2.1.length:Int) > 0) then
 some (19,s_)
 else
(Ga s_).bind fun y9 =>
(A8 y9 y8.1).bind fun y10 =>
 Bn.j3 s_ m_ y1 y8 y10
def Bn.j1 (s_:State_forge) (m_:Message_forge) (y1:Developer_forge) (y4:Bool×Fault):Option (Int×State_forge) :=
 if !y4.1 then
 some (18,s_)
 else
 if decide (m_.number≤y1.accepted) then
 some (16,s_)
 else
(at? s_.versions m_.base).bind fun y5 =>
(Ga s_).bind fun y6 =>
(A8 y5 y6).bind fun y7 =>
 Bn.j2 s_ m_ y1 y5 y7
def Bn (s_:State_forge) (m_:Message_forge):Option (Int×State_forge) :=
(at? s_.developers m_.user).bind fun y1 =>
(at? s_.keys m_.user).bind fun y2 =>
(Ez m_).bind fun y3 =>
(Na y2 y3 m_.signature).bind fun y4 =>
 Bn.j1 s_ m_ y1 y4
def Co.j1 (s_:State_forge) (x1:List Message_forge):Option (Int×State_forge) :=
 some (0,({ keys:=s_.keys,versions:=s_.versions,developers:=s_.developers,flight:=x1,log:=s_.log }:State_forge))
def Co (s_:State_forge) (e_:ForgeEvent):Option (Int×State_forge) :=
 if decide (e_.N ≥ (s_.flight.length:Int)) then
 some (6,s_)
 else
(at? s_.flight e_.N).bind fun y1 =>
 if decide (e_.Kind=4) then
(ckK .i64 (e_.N+1)).bind fun z1 =>
(del? s_.flight e_.N z1).bind fun y2 =>
(Bn ({ keys:=s_.keys,versions:=s_.versions,developers:=s_.developers,flight:=y2,log:=s_.log }:State_forge) y1).bind fun y3 =>
 some (y3.1,y3.2)
 else
 if decide (e_.Kind=5) then
(ckK .i64 (e_.N+1)).bind fun z2 =>
(del? s_.flight e_.N z2).bind fun y4 =>
 Co.j1 s_ y4
 else
 if decide (e_.Kind=6) then
 if decide ((s_.flight.length:Int) ≥ 20) then
 some (14,s_)
 else
(ckK .i64 (e_.N+1)).bind fun z3 =>
(ins? 56 s_.flight z3 ([y1]:List Message_forge)).bind fun y5 =>
 Co.j1 s_ y5
 else
(ckK .i64 (y1.signature+1)).bind fun z4 =>
(rem? z4 2305843009213693951).bind fun z5 =>
(at? s_.flight e_.N).bind fun y6 =>
(some (s_.flight.set e_.N.toNat ({ user:=y6.user,number:=y6.number,base:=y6.base,signature:=z5,patch:=y6.patch }:Message_forge))).bind fun y7 =>
 Co.j1 s_ y7
def D0.j1 (keys:(List Int)) (x1:List Int) (x2:List Int) (x3:List FileTree) (x4:List Developer_forge) (x5:List Message_forge) (x6:List ForgeEntry):Option (Fault ⊕ (State_forge×(List Int))) :=
 some (Sum.inr (({ keys:=x2,versions:=x3,developers:=x4,flight:=x5,log:=x6 }:State_forge),x1))
def D0.j2 (keys:(List Int)) (x7:Int) (x8:List Int) (x9:List Int) (x10:List FileTree) (x11:List Developer_forge) (x12:List Message_forge) (x13:List ForgeEntry) (y3:ForgeEvent) (x15:Bool):Option (Step (Int×(List Int)×(List Int)×(List FileTree)×(List Developer_forge)×(List Message_forge)×(List ForgeEntry)) ((List Int)×(List Int)×(List FileTree)×(List Developer_forge)×(List Message_forge)×(List ForgeEntry))) :=
 if x15 then
(Co ({ keys:=x9,versions:=x10,developers:=x11,flight:=x12,log:=x13 }:State_forge) y3).bind fun y4 =>
(app? 8 x8 ([y4.1]:List Int)).bind fun y5 =>
(ckK .i64 (x7+1)).bind fun z1 =>
 some (Step.next (z1,y5,y4.2.keys,y4.2.versions,y4.2.developers,y4.2.flight,y4.2.log))
 else
(Br ({ keys:=x9,versions:=x10,developers:=x11,flight:=x12,log:=x13 }:State_forge) y3).bind fun y6 =>
(app? 8 x8 ([y6.1]:List Int)).bind fun y7 =>
(ckK .i64 (x7+1)).bind fun z2 =>
 some (Step.next (z2,y7,y6.2.keys,y6.2.versions,y6.2.developers,y6.2.flight,y6.2.log))
def D0.l1 (keys:(List Int)) (events:(List ForgeEvent)) (x7:Int) (x8:List Int) (x9:List Int) (x10:List FileTree) (x11:List Developer_forge) (x12:List Message_forge) (x13:List ForgeEntry):Option (Step (Int×(List Int)×(List Int)×(List FileTree)×(List Developer_forge)×(List Message_forge)×(List ForgeEntry)) ((List Int)×(List Int)×(List FileTree)×(List Developer_forge)×(List Message_forge)×(List ForgeEntry))) :=
 if decide (x7 < (events.length:Int)) then
(at? events x7).bind fun y3 =>
 if decide (y3.Kind=4) then
 D0.j2 keys x7 x8 x9 x10 x11 x12 x13 y3 (decide (y3.Kind=4))
 else
 if decide (y3.Kind=5) then
 D0.j2 keys x7 x8 x9 x10 x11 x12 x13 y3 (decide (y3.Kind=5))
 else
 if decide (y3.Kind=6) then
 D0.j2 keys x7 x8 x9 x10 x11 x12 x13 y3 (decide (y3.Kind=6))
 else
 D0.j2 keys x7 x8 x9 x10 x11 x12 x13 y3 (decide (y3.Kind=7))
 else
 some (Step.done (x8,x9,x10,x11,x12,x13))
def D0 (keys:(List Int)) (events:(List ForgeEvent)):Option (Fault ⊕ (State_forge×(List Int))) :=
(Cv keys events).bind fun y1 =>
 if !(decide (y1.Code=0) && decide (y1.Index=0)) then
 some (Sum.inl y1)
 else
(mk? 48 (keys.length:Int) ({ tree:=({ Files:=[] }:FileTree),base:=0,sent:=0,accepted:=0 }:Developer_forge)).bind fun y2 =>
(Dl (fun s=>D0.l1 keys events s.1 s.2.1 s.2.2.1 s.2.2.2.1 s.2.2.2.2.1 s.2.2.2.2.2.1 s.2.2.2.2.2.2) (0,[],keys,([({ Files:=[] }:FileTree)]:List FileTree),y2,[],[])).bind fun r1 =>
 D0.j1 keys r1.1 r1.2.1 r1.2.2.1 r1.2.2.2.1 r1.2.2.2.2.1 r1.2.2.2.2.2
def Ej (keys:(List Int)) (events:(List ForgeEvent)):Option (FileTree×(List ForgeEntry)×(List Int)×Fault) :=
(D0 keys events).bind fun y1 =>
(match y1 with
| .inl f1 =>
 some (({ Files:=[] }:FileTree),[],[],f1)
| .inr (x1,z1) =>
(Ga x1).bind fun y2 =>
(Cp y2).bind fun y3 =>
 some (y3,x1.log,z1,({ Code:=0,Index:=0 }:Fault)))
def B3.j1:Option Bool :=
 some true
def B3.l1 (a_:(List ByteArray)) (b_:(List ByteArray)) (x1:Int):Option (Step Int (Bool ⊕ Unit)) :=
 if decide (x1 < (a_.length:Int)) then
(at? a_ x1).bind fun y1 =>
(at? b_ x1).bind fun y2 =>
 if !decide (y1=y2) then
 some (Step.done (Sum.inl false))
 else
(ckK .i64 (x1+1)).bind fun z1 =>
 some (Step.next z1)
 else
 some (Step.done (Sum.inr ()))
def B3 (a_:(List ByteArray)) (b_:(List ByteArray)):Option Bool :=
 if !decide ((a_.length:Int)=(b_.length:Int)) then
 some false
 else
(Dl (fun s=>B3.l1 a_ b_ s) 0).bind fun r1 =>
(match r1 with
| .inl p=>some p
| .inr _=>B3.j1)
def B2.j1:Option Bool :=
 some true
def B2.l1 (a_:FileTree) (b_:FileTree) (x1:Int):Option (Step Int (Bool ⊕ Unit)) :=
 if decide (x1 < (a_.Files.length:Int)) then
(at? a_.Files x1).bind fun y1 =>
(at? b_.Files x1).bind fun y2 =>
(if !decide (y1.Path=y2.Path) then some true else (at? a_.Files x1).bind fun y3 =>
(at? b_.Files x1).bind fun y4 =>
(B3 y3.Lines y4.Lines).bind fun y5 =>
 some !y5).bind fun x3 =>
 if x3 then
 some (Step.done (Sum.inl false))
 else
(ckK .i64 (x1+1)).bind fun z1 =>
 some (Step.next z1)
 else
 some (Step.done (Sum.inr ()))
def B2 (a_:FileTree) (b_:FileTree):Option Bool :=
 if !decide ((a_.Files.length:Int)=(b_.Files.length:Int)) then
 some false
 else
(Dl (fun s=>B2.l1 a_ b_ s) 0).bind fun r1 =>
(match r1 with
| .inl p=>some p
| .inr _=>B2.j1)
def Cj.j1:Option Bool :=
 some true
def Cj.l1 (a_:Patch) (b_:Patch) (x1:Int):Option (Step Int (Bool ⊕ Unit)) :=
 if decide (x1 < (a_.Hunks.length:Int)) then
(at? a_.Hunks x1).bind fun y1 =>
(at? b_.Hunks x1).bind fun y2 =>
(if !decide (y1.At=y2.At) then some true else (at? a_.Hunks x1).bind fun y3 =>
(at? b_.Hunks x1).bind fun y4 =>
(B3 y3.Old y4.Old).bind fun y5 =>
 some !y5).bind fun x3 =>
(if x3 then some true else (at? a_.Hunks x1).bind fun y6 =>
(at? b_.Hunks x1).bind fun y7 =>
(B3 y6.New y7.New).bind fun y8 =>
 some !y8).bind fun x4 =>
 if x4 then
 some (Step.done (Sum.inl false))
 else
(ckK .i64 (x1+1)).bind fun z1 =>
 some (Step.next z1)
 else
 some (Step.done (Sum.inr ()))
def Cj (a_:Patch) (b_:Patch):Option Bool :=
 if !decide ((a_.Hunks.length:Int)=(b_.Hunks.length:Int)) then
 some false
 else
(Dl (fun s=>Cj.l1 a_ b_ s) 0).bind fun r1 =>
(match r1 with
| .inl p=>some p
| .inr _=>Cj.j1)
def Gf (a_:TreeChange) (b_:TreeChange):Option Bool :=
(if decide (a_.Kind=b_.Kind) then some (decide (a_.Path=b_.Path)) else some false).bind fun x1 =>
(if x1 then some (decide (a_.To=b_.To)) else some false).bind fun x2 =>
(if x2 then (B3 a_.Lines b_.Lines).bind fun y1 =>
 some y1 else some false).bind fun x3 =>
(if x3 then (Cj a_.Patch b_.Patch).bind fun y2 =>
 some y2 else some false).bind fun x4 =>
 some x4
def B6.j1:Option Bool :=
 some true
def B6.l1 (a_:TreePatch) (b_:TreePatch) (x1:Int):Option (Step Int (Bool ⊕ Unit)) :=
 if decide (x1 < (a_.Changes.length:Int)) then
(at? a_.Changes x1).bind fun y1 =>
(at? b_.Changes x1).bind fun y2 =>
(Gf y1 y2).bind fun y3 =>
 if !y3 then
 some (Step.done (Sum.inl false))
 else
(ckK .i64 (x1+1)).bind fun z1 =>
 some (Step.next z1)
 else
 some (Step.done (Sum.inr ()))
def B6 (a_:TreePatch) (b_:TreePatch):Option Bool :=
 if !decide ((a_.Changes.length:Int)=(b_.Changes.length:Int)) then
 some false
 else
(Dl (fun s=>B6.l1 a_ b_ s) 0).bind fun r1 =>
(match r1 with
| .inl p=>some p
| .inr _=>B6.j1)
def Bh.j1:Option Bool :=
 some true
def Bh.l1 (a_:(List ForgeEntry)) (b_:(List ForgeEntry)) (x1:Int):Option (Step Int (Bool ⊕ Unit)) :=
 if decide (x1 < (a_.length:Int)) then
(at? a_ x1).bind fun y1 =>
(at? b_ x1).bind fun y2 =>
(if !decide (y1.User=y2.User) then some true else (at? a_ x1).bind fun y3 =>
(at? b_ x1).bind fun y4 =>
 some (!decide (y3.Number=y4.Number))).bind fun x3 =>
(if x3 then some true else (at? a_ x1).bind fun y5 =>
(at? b_ x1).bind fun y6 =>
(B6 y5.Patch y6.Patch).bind fun y7 =>
 some !y7).bind fun x4 =>
 if x4 then
 some (Step.done (Sum.inl false))
 else
(ckK .i64 (x1+1)).bind fun z1 =>
 some (Step.next z1)
 else
 some (Step.done (Sum.inr ()))
def Bh (a_:(List ForgeEntry)) (b_:(List ForgeEntry)):Option Bool :=
 if !decide ((a_.length:Int)=(b_.length:Int)) then
 some false
 else
(Dl (fun s=>Bh.l1 a_ b_ s) 0).bind fun r1 =>
(match r1 with
| .inl p=>some p
| .inr _=>Bh.j1)
def Kq (c_:TreeChange):Option TreePatch :=
 some ({ Changes:=([c_]:List TreeChange) }:TreePatch)
def Lw (path:ByteArray) (l_:(List ByteArray)):Option FileTree :=
 some ({ Files:=([({ Path:=path,Lines:=l_ }:File)]:List File) }:FileTree)
def Cy.j1:Option Bool :=
 some true
def Cy.l1 (a_:(List Int)) (b_:(List Int)) (x1:Int):Option (Step Int (Bool ⊕ Unit)) :=
 if decide (x1 < (a_.length:Int)) then
(at? a_ x1).bind fun y1 =>
(at? b_ x1).bind fun y2 =>
 if !decide (y1=y2) then
 some (Step.done (Sum.inl false))
 else
(ckK .i64 (x1+1)).bind fun z1 =>
 some (Step.next z1)
 else
 some (Step.done (Sum.inr ()))
def Cy (a_:(List Int)) (b_:(List Int)):Option Bool :=
 if !decide ((a_.length:Int)=(b_.length:Int)) then
 some false
 else
(Dl (fun s=>Cy.l1 a_ b_ s) 0).bind fun r1 =>
(match r1 with
| .inl p=>some p
| .inr _=>Cy.j1)
def Bf.j1 (x1:Bool):Option Bool :=
 some x1
def Bf:Option Bool :=
(Kq ({ Kind:=1,Path:=(⟨#[97]⟩:ByteArray),To:=ByteArray.empty,Lines:=([(⟨#[120]⟩:ByteArray)]:List ByteArray),Patch:=({ Hunks:=[] }:Patch) }:TreeChange)).bind fun y1 =>
(Ej ([5]:List Int) ([({ Kind:=2,User:=0,Key:=0,N:=0,Patch:=y1 }:ForgeEvent),({ Kind:=3,User:=0,Key:=5,N:=0,Patch:=({ Changes:=[] }:TreePatch) }:ForgeEvent),({ Kind:=4,User:=0,Key:=0,N:=0,Patch:=({ Changes:=[] }:TreePatch) }:ForgeEvent)]:List ForgeEvent)).bind fun y2 =>
 if decide (y2.2.2.2.Code=0) then
(Lw (⟨#[97]⟩:ByteArray) ([(⟨#[120]⟩:ByteArray)]:List ByteArray)).bind fun y3 =>
(B2 y2.1 y3).bind fun y4 =>
 if y4 then
(Bh y2.2.1 ([({ User:=0,Number:=1,Patch:=y1 }:ForgeEntry)]:List ForgeEntry)).bind fun y5 =>
 if y5 then
(Cy y2.2.2.1 ([0,0,0]:List Int)).bind fun y6 =>
 Bf.j1 y6
 else
 Bf.j1 false
 else
 Bf.j1 false
 else
 Bf.j1 false
def Bd.j1 (y1:FileTree×(List ForgeEntry)×(List Int)×Fault) (x1:List File):Option Bool :=
(B2 y1.1 ({ Files:=x1 }:FileTree)).bind fun y3 =>
(if y3 then (Cq y1.1).bind fun y4 =>
 some (decide (y4.Code=0)) else some false).bind fun x2 =>
(if x2 then (Bf).bind fun y5 =>
 some y5 else some false).bind fun x3 =>
 some x3
def Bd.j2 (x4:Int) (y7:FileTree×Fault):Option (Step (Int×(List File)) (Bool ⊕ (List File))) :=
 if !decide (y7.2.Code=0) then
 some (Step.done (Sum.inl false))
 else
(ckK .i64 (x4+1)).bind fun z1 =>
 some (Step.next (z1,y7.1.Files))
def Bd.l1 (y1:FileTree×(List ForgeEntry)×(List Int)×Fault) (x4:Int) (x5:List File):Option (Step (Int×(List File)) (Bool ⊕ (List File))) :=
 if decide (x4 < (y1.2.1.length:Int)) then
(at? y1.2.1 x4).bind fun y6 =>
(Db y6.Patch ({ Files:=x5 }:FileTree)).bind fun y7 =>
 Bd.j2 x4 y7
 else
 some (Step.done (Sum.inr x5))
def Bd (keys:(List Int)) (events:(List ForgeEvent)):Option Bool :=
(Ej keys events).bind fun y1 =>
 if !decide (y1.2.2.2.Code=0) then
(Bf).bind fun y2 =>
 some y2
 else
(Dl (fun s=>Bd.l1 y1 s.1 s.2) (0,[])).bind fun r1 =>
(match r1 with
| .inl p=>some p
| .inr p=>Bd.j1 y1 p)
def Ei (l_:(List ForgeEvent)) (more:(List ForgeEvent)):Option (List ForgeEvent) :=
(app? 56 ([]:List ForgeEvent) l_).bind fun y1 =>
(app? 56 y1 more).bind fun y2 =>
 some y2
def Em (l_:(List Int)):Option Int :=
 if decide ((l_.length:Int)=0) then
 some (-1)
 else
(ckK .i64 ((l_.length:Int) - 1)).bind fun z1 =>
(at? l_ z1).bind fun y1 =>
 some y1
def Er (keys:(List Int)) (events:(List ForgeEvent)) (n_:Int):Option Bool :=
(Ei events ([({ Kind:=4,User:=0,Key:=0,N:=n_,Patch:=({ Changes:=[] }:TreePatch) }:ForgeEvent)]:List ForgeEvent)).bind fun y1 =>
(Ej keys y1).bind fun y2 =>
(Ej keys events).bind fun y3 =>
(Ei events ([({ Kind:=7,User:=0,Key:=0,N:=n_,Patch:=({ Changes:=[] }:TreePatch) }:ForgeEvent),({ Kind:=4,User:=0,Key:=0,N:=n_,Patch:=({ Changes:=[] }:TreePatch) }:ForgeEvent)]:List ForgeEvent)).bind fun y4 =>
(Ej keys y4).bind fun y5 =>
(if !decide (y2.2.2.2.Code=0) then some true else some (!decide (y3.2.2.2.Code=0))).bind fun x1 =>
(if x1 then some true else some (!decide (y5.2.2.2.Code=0))).bind fun x2 =>
(if x2 then some true else (Em y2.2.2.1).bind fun y6 =>
 some (!decide (y6=0))).bind fun x3 =>
 if x3 then
(Bf).bind fun y7 =>
 some y7
 else
(Em y5.2.2.1).bind fun y8 =>
(if decide (y8=18) then (B2 y3.1 y5.1).bind fun y9 =>
 some y9 else some false).bind fun x4 =>
(if x4 then (Bh y3.2.1 y5.2.1).bind fun y10 =>
 some y10 else some false).bind fun x5 =>
(if x5 then (Bf).bind fun y11 =>
 some y11 else some false).bind fun x6 =>
 some x6
def Et (keys:(List Int)) (events:(List ForgeEvent)) (n_:Int):Option Bool :=
(Ei events ([({ Kind:=6,User:=0,Key:=0,N:=n_,Patch:=({ Changes:=[] }:TreePatch) }:ForgeEvent),({ Kind:=4,User:=0,Key:=0,N:=n_,Patch:=({ Changes:=[] }:TreePatch) }:ForgeEvent)]:List ForgeEvent)).bind fun y1 =>
(Ej keys y1).bind fun y2 =>
(Ei y1 ([({ Kind:=4,User:=0,Key:=0,N:=n_,Patch:=({ Changes:=[] }:TreePatch) }:ForgeEvent)]:List ForgeEvent)).bind fun y3 =>
(Ej keys y3).bind fun y4 =>
(if !decide (y2.2.2.2.Code=0) then some true else some (!decide (y4.2.2.2.Code=0))).bind fun x1 =>
(if x1 then some true else some (decide ((y2.2.2.1.length:Int) < 2))).bind fun x2 =>
(if x2 then some true else (ckK .i64 ((y2.2.2.1.length:Int) - 2)).bind fun z1 =>
(at? y2.2.2.1 z1).bind fun y5 =>
 some (!decide (y5=0))).bind fun x3 =>
(if x3 then some true else (Em y2.2.2.1).bind fun y6 =>
 some (!decide (y6=0))).bind fun x4 =>
 if x4 then
(Bf).bind fun y7 =>
 some y7
 else
(Em y4.2.2.1).bind fun y8 =>
(if decide (y8=16) then (B2 y2.1 y4.1).bind fun y9 =>
 some y9 else some false).bind fun x5 =>
(if x5 then (Bh y2.2.1 y4.2.1).bind fun y10 =>
 some y10 else some false).bind fun x6 =>
(if x6 then (Bf).bind fun y11 =>
 some y11 else some false).bind fun x7 =>
 some x7
def Gr (e_:ForgeEvent):Option Bool :=
(if decide (e_.Kind=4) then some true else some (decide (e_.Kind=5))).bind fun x1 =>
(if x1 then some true else some (decide (e_.Kind=6))).bind fun x2 =>
(if x2 then some true else some (decide (e_.Kind=7))).bind fun x3 =>
 some x3
def Ay.j1 (keys:(List Int)) (events:(List ForgeEvent)) (x1:List ForgeEvent):Option Bool :=
(Ej keys events).bind fun y1 =>
(Ej keys x1).bind fun y2 =>
 if !decide (y1.2.2.2.Code=0) then
(Bf).bind fun y3 =>
 some y3
 else
(if decide (y2.2.2.2.Code=0) then (B2 y1.1 y2.1).bind fun y4 =>
 some y4 else some false).bind fun x2 =>
(if x2 then (Bh y1.2.1 y2.2.1).bind fun y5 =>
 some y5 else some false).bind fun x3 =>
(if x3 then (Bf).bind fun y6 =>
 some y6 else some false).bind fun x4 =>
 some x4
def Ay.j2 (x5:Int) (x8:List ForgeEvent):Option (Step (Int×(List ForgeEvent)) (Bool ⊕ (List ForgeEvent))) :=
(ckK .i64 (x5+1)).bind fun z1 =>
 some (Step.next (z1,x8))
def Ay.l1 (events:(List ForgeEvent)) (user:Int) (x5:Int) (x6:List ForgeEvent):Option (Step (Int×(List ForgeEvent)) (Bool ⊕ (List ForgeEvent))) :=
 if decide (x5 < (events.length:Int)) then
(at? events x5).bind fun y7 =>
(Gr y7).bind fun y8 =>
(if !y8 then (at? events x5).bind fun y9 =>
 some (decide (y9.User=user)) else some false).bind fun x9 =>
(if x9 then (at? events x5).bind fun y10 =>
 some (decide (y10.Kind=3)) else some false).bind fun x10 =>
 if x10 then
(Bf).bind fun y11 =>
 some (Step.done (Sum.inl y11))
 else
 if !x9 then
(at? events x5).bind fun y12 =>
(app? 56 x6 ([y12]:List ForgeEvent)).bind fun y13 =>
 Ay.j2 x5 y13
 else
 Ay.j2 x5 x6
 else
 some (Step.done (Sum.inr x6))
def Ay (keys:(List Int)) (events:(List ForgeEvent)) (user:Int):Option Bool :=
(Dl (fun s=>Ay.l1 events user s.1 s.2) (0,[])).bind fun r1 =>
(match r1 with
| .inl p=>some p
| .inr p=>Ay.j1 keys events p)
def Bu.j1 (y1:FileTree×(List ForgeEntry)×(List Int)×Fault):Option Bool :=
(if decide ((y1.1.Files.length:Int)=0) then some (decide ((y1.2.1.length:Int)=0)) else some false).bind fun x1 =>
(if x1 then (Bf).bind fun y3 =>
 some y3 else some false).bind fun x2 =>
 some x2
def Bu.l1 (keys:(List Int)) (events:(List ForgeEvent)) (x3:Int):Option (Step Int (Bool ⊕ Unit)) :=
 if decide (x3 < (events.length:Int)) then
(at? events x3).bind fun y4 =>
(if decide (y4.Kind=3) then (at? events x3).bind fun y5 =>
(at? events x3).bind fun y6 =>
(at? keys y6.User).bind fun y7 =>
 some (decide (y5.Key=y7)) else some false).bind fun x5 =>
 if x5 then
(Bf).bind fun y8 =>
 some (Step.done (Sum.inl y8))
 else
(ckK .i64 (x3+1)).bind fun z1 =>
 some (Step.next z1)
 else
 some (Step.done (Sum.inr ()))
def Bu (keys:(List Int)) (events:(List ForgeEvent)):Option Bool :=
(Ej keys events).bind fun y1 =>
 if !decide (y1.2.2.2.Code=0) then
(Bf).bind fun y2 =>
 some y2
 else
(Dl (fun s=>Bu.l1 keys events s) 0).bind fun r1 =>
(match r1 with
| .inl p=>some p
| .inr _=>Bu.j1 y1)
def Kr (keys:(List Int)) (events:(List ForgeEvent)) (user:Int):Option (FileTree×Fault) :=
(D0 keys events).bind fun y1 =>
(match y1 with
| .inl f1 =>
 some (({ Files:=[] }:FileTree),f1)
| .inr (x1,z1) =>
(if decide (user < 0) then some true else some (decide (user ≥ (keys.length:Int)))).bind fun x2 =>
 if x2 then
 some (({ Files:=[] }:FileTree),({ Code:=3,Index:=(-20) }:Fault))
 else
(at? x1.developers user).bind fun y2 =>
(Cp y2.tree).bind fun y3 =>
 some (y3,({ Code:=0,Index:=0 }:Fault)))
def Hh (keys:(List Int)) (events:(List ForgeEvent)) (user:Int):Option Bool :=
(Ei events ([({ Kind:=8,User:=user,Key:=0,N:=0,Patch:=({ Changes:=[] }:TreePatch) }:ForgeEvent),({ Kind:=1,User:=user,Key:=0,N:=0,Patch:=({ Changes:=[] }:TreePatch) }:ForgeEvent)]:List ForgeEvent)).bind fun y1 =>
(Ej keys y1).bind fun y2 =>
(Kr keys y1 user).bind fun y3 =>
(if !decide (y2.2.2.2.Code=0) then some true else some (!decide (y3.2.Code=0))).bind fun x1 =>
 if x1 then
(Bf).bind fun y4 =>
 some y4
 else
(Em y2.2.2.1).bind fun y5 =>
(if decide (y5=0) then (B2 y3.1 y2.1).bind fun y6 =>
 some y6 else some false).bind fun x2 =>
(if x2 then (Bf).bind fun y7 =>
 some y7 else some false).bind fun x3 =>
 some x3
end Go.Dc
