import Derived.Test.YtmhjcomgbfonfaaGreatDoorDcTy
import Derived.Test.YtmhjcomgbfonfaaGreatDoorDcR
import Derived.Test.YtmhjcomgbfonfaaGreatDoorDcRS
noncomputable section
namespace Go.Dc
open Go
set_option linter.unusedVariables false
def E2 (s_:ByteArray) (c_:Int):Option Int :=
 some (idxB s_ c_)
def Kt (s_:ByteArray):Option Int :=
 if decide ((⟨#[47]⟩:ByteArray)=s_) then
 some 0
 else
(sAt? (⟨#[47]⟩:ByteArray) 0).bind fun y1 =>
(E2 s_ y1).bind fun y2 =>
 some y2
def Lk (s_:ByteArray):Option Int :=
(Kt s_).bind fun y1 =>
 some y1
def Gr (c_:Int):Option Bool :=
(if decide (c_ ≥ 97) then some (decide (c_≤122)) else some false).bind fun x1 =>
(if x1 then some true else (if decide (c_ ≥ 65) then some (decide (c_≤90)) else some false).bind fun x3 =>
 some x3).bind fun x2 =>
(if x2 then some true else (if decide (c_ ≥ 48) then some (decide (c_≤57)) else some false).bind fun x5 =>
 some x5).bind fun x4 =>
(if x4 then some true else some (decide (c_=46))).bind fun x6 =>
(if x6 then some true else some (decide (c_=95))).bind fun x7 =>
(if x7 then some true else some (decide (c_=45))).bind fun x8 =>
 some x8
def Ay.j2:Option Bool :=
 some false
def Ay.j3:Option Bool :=
 some true
def Ay.j4:Option Bool :=
 Ay.j3
def Ay.l1 (x1:ByteArray) (x4:Int):Option (Step Int (Unit ⊕ Unit)) :=
 if decide (x4 < (x1.size:Int)) then
(sAt? x1 x4).bind fun y1 =>
(Gr y1).bind fun y2 =>
 if !y2 then
 some (Step.done (Sum.inl ()))
 else
(ckK .i64 (x4+1)).bind fun z1 =>
 some (Step.next z1)
 else
 some (Step.done (Sum.inr ()))
def Ay.j1 (x1:ByteArray):Option Bool :=
(if decide (x1=(⟨#[]⟩:ByteArray)) then some true else some (decide (x1=(⟨#[46]⟩:ByteArray)))).bind fun x2 =>
(if x2 then some true else some (decide (x1=(⟨#[46,46]⟩:ByteArray)))).bind fun x3 =>
 if x3 then
 Ay.j2
 else
(Dm (fun s=>Ay.l1 x1 s) 0).bind fun r1 =>
(match r1 with
| .inl _=>Ay.j2
| .inr _=>Ay.j4)
def Ay.j5:Option (Step ByteArray (Bool ⊕ ByteArray)) :=
 some (Step.done (Sum.inl false))
def Ay.j6 (x6:ByteArray) (y3:Int):Option (Step ByteArray (Bool ⊕ ByteArray)) :=
(ckK .i64 (y3+1)).bind fun z3 =>
(scut? x6 z3 (x6.size:Int)).bind fun y5 =>
 some (Step.next y5)
def Ay.j7 (x6:ByteArray) (y3:Int):Option (Step ByteArray (Bool ⊕ ByteArray)) :=
 Ay.j6 x6 y3
def Ay.l3 (y4:ByteArray) (x10:Int):Option (Step Int (Unit ⊕ Unit)) :=
 if decide (x10 < (y4.size:Int)) then
(sAt? y4 x10).bind fun y6 =>
(Gr y6).bind fun y7 =>
 if !y7 then
 some (Step.done (Sum.inl ()))
 else
(ckK .i64 (x10+1)).bind fun z4 =>
 some (Step.next z4)
 else
 some (Step.done (Sum.inr ()))
def Ay.l2 (x6:ByteArray):Option (Step ByteArray (Bool ⊕ ByteArray)) :=
(Lk x6).bind fun y3 =>
 if decide (y3 < 0) then
 some (Step.done (Sum.inr x6))
 else
(ckK .i64 (y3+0)).bind fun z2 =>
(scut? x6 0 z2).bind fun y4 =>
(if decide (y4=(⟨#[]⟩:ByteArray)) then some true else some (decide (y4=(⟨#[46]⟩:ByteArray)))).bind fun x8 =>
(if x8 then some true else some (decide (y4=(⟨#[46,46]⟩:ByteArray)))).bind fun x9 =>
 if x9 then
 Ay.j5
 else
(Dm (fun s=>Ay.l3 y4 s) 0).bind fun r3 =>
(match r3 with
| .inl _=>Ay.j5
| .inr _=>Ay.j7 x6 y3)
def Ay (path:ByteArray):Option Bool :=
 if decide ((path.size:Int) > 60) then
 some false
 else
(Dm (fun s=>Ay.l2 s) path).bind fun r2 =>
(match r2 with
| .inl p=>some p
| .inr p=>Ay.j1 p)
def Hy (s_:ByteArray) (c_:Int):Option Int :=
(E2 s_ c_).bind fun y1 =>
 some y1
def Cu.j1:Option Fault :=
 some ({ Code:=0,Index:=0 }:Fault)
def Cu.l1 (lines:(List ByteArray)) (x1:Int):Option (Step Int (Fault ⊕ Unit)) :=
 if decide (x1 < (lines.length:Int)) then
(at? lines x1).bind fun y1 =>
 if decide ((y1.size:Int) > 80) then
 some (Step.done (Sum.inl ({ Code:=2,Index:=x1 }:Fault)))
 else
(Hy y1 10).bind fun y2 =>
 if decide (y2 ≥ 0) then
 some (Step.done (Sum.inl ({ Code:=5,Index:=x1 }:Fault)))
 else
(ckK .i64 (x1+1)).bind fun z1 =>
 some (Step.next z1)
 else
 some (Step.done (Sum.inr ()))
def Cu (lines:(List ByteArray)):Option Fault :=
 if decide ((lines.length:Int) > 120) then
 some ({ Code:=2,Index:=(-1) }:Fault)
 else
(Dm (fun s=>Cu.l1 lines s) 0).bind fun r1 =>
(match r1 with
| .inl p=>some p
| .inr _=>Cu.j1)
def H3 (h_:Hunk):Option Int :=
(ckK .i64 (h_.At+(h_.Old.length:Int))).bind fun z1 =>
 some z1
def C5.j1 (h_:Hunk) (end_:Int):Option Int :=
(ckK .i64 ((h_.Old.length:Int)+(h_.New.length:Int))).bind fun z1 =>
(if decide (z1=0) then some true else some (decide (h_.At≤end_))).bind fun x2 =>
 if x2 then
 some 5
 else
(H3 h_).bind fun y1 =>
 if decide (y1 > 120) then
 some 3
 else
 some 0
def C5.l1 (h_:Hunk) (x3:Int):Option (Step Int (Int ⊕ Unit)) :=
 if decide (x3 < 2) then
(at? ([h_.Old,h_.New]:List (List ByteArray)) x3).bind fun y2 =>
(Cu y2).bind fun y3 =>
 if !(decide (y3.Code=0) && decide (y3.Index=0)) then
 some (Step.done (Sum.inl y3.Code))
 else
(ckK .i64 (x3+1)).bind fun z2 =>
 some (Step.next z2)
 else
 some (Step.done (Sum.inr ()))
def C5 (h_:Hunk) (end_:Int):Option Int :=
(if decide (h_.At < 0) then some true else some (decide (h_.At > 120))).bind fun x1 =>
 if x1 then
 some 3
 else
(Dm (fun s=>C5.l1 h_ s) 0).bind fun r1 =>
(match r1 with
| .inl p=>some p
| .inr _=>C5.j1 h_ end_)
def Ch.j1:Option Fault :=
 some ({ Code:=0,Index:=0 }:Fault)
def Ch.l1 (p_:Patch) (x1:Int) (x2:Int):Option (Step (Int×Int) (Fault ⊕ Unit)) :=
 if decide (x1 < (p_.Hunks.length:Int)) then
(at? p_.Hunks x1).bind fun y1 =>
(C5 y1 x2).bind fun y2 =>
 if !decide (y2=0) then
 some (Step.done (Sum.inl ({ Code:=y2,Index:=x1 }:Fault)))
 else
(H3 y1).bind fun y3 =>
(ckK .i64 (x1+1)).bind fun z1 =>
 some (Step.next (z1,y3))
 else
 some (Step.done (Sum.inr ()))
def Ch (p_:Patch):Option Fault :=
 if decide ((p_.Hunks.length:Int) > 130) then
 some ({ Code:=2,Index:=(-1) }:Fault)
 else
(Dm (fun s=>Ch.l1 p_ s.1 s.2) (0,(-1))).bind fun r1 =>
(match r1 with
| .inl p=>some p
| .inr _=>Ch.j1)
def Hp (s_:ByteArray) (prefix_:ByteArray):Option Bool :=
(if decide ((s_.size:Int) ≥ (prefix_.size:Int)) then (scut? s_ 0 (prefix_.size:Int)).bind fun y1 =>
 some (decide (y1=prefix_)) else some false).bind fun x1 =>
 some x1
def G4 (s_:ByteArray) (prefix_:ByteArray):Option Bool :=
(Hp s_ prefix_).bind fun y1 =>
 some y1
def Ge (a_:ByteArray) (b_:ByteArray):Option Bool :=
(if decide (a_=b_) then some true else (cat? b_ (⟨#[47]⟩:ByteArray)).bind fun z1 =>
(G4 a_ z1).bind fun y1 =>
 some y1).bind fun x1 =>
(if x1 then some true else (cat? a_ (⟨#[47]⟩:ByteArray)).bind fun z2 =>
(G4 b_ z2).bind fun y2 =>
 some y2).bind fun x2 =>
 some x2
def Kk (c_:TreeChange):Option Int :=
(if decide (c_.Kind < 1) then some true else some (decide (c_.Kind > 4))).bind fun x1 =>
 if x1 then
 some 4
 else
(Ay c_.Path).bind fun y1 =>
(if !y1 then some true else (if decide (c_.Kind=3) then (Ay c_.To).bind fun y2 =>
 some !y2 else some false).bind fun x3 =>
 some x3).bind fun x2 =>
 if x2 then
 some 12
 else
(if !(decide (c_.Kind=3)) then some (!decide (c_.To=(⟨#[]⟩:ByteArray))) else some false).bind fun x4 =>
(if x4 then some true else (if decide (c_.Kind=3) then (Ge c_.Path c_.To).bind fun y3 =>
 some y3 else some false).bind fun x6 =>
 some x6).bind fun x5 =>
 if x5 then
 some 5
 else
(if decide ((c_.Lines.length:Int) > 0) then (if decide (c_.Kind=4) then some true else some (decide (c_.Kind=3))).bind fun x8 =>
 some x8 else some false).bind fun x7 =>
 if x7 then
 some 5
 else
 if !decide (decide (c_.Kind=4)=decide ((c_.Patch.Hunks.length:Int) > 0)) then
 some 5
 else
(Cu c_.Lines).bind fun y4 =>
 if !(decide (y4.Code=0) && decide (y4.Index=0)) then
 some y4.Code
 else
(Ch c_.Patch).bind fun y5 =>
 some y5.Code
def Cf.j1:Option Fault :=
 some ({ Code:=0,Index:=0 }:Fault)
def Cf.l1 (p_:TreePatch) (x1:Int):Option (Step Int (Fault ⊕ Unit)) :=
 if decide (x1 < (p_.Changes.length:Int)) then
(at? p_.Changes x1).bind fun y1 =>
(Kk y1).bind fun y2 =>
 if !decide (y2=0) then
 some (Step.done (Sum.inl ({ Code:=y2,Index:=x1 }:Fault)))
 else
(ckK .i64 (x1+1)).bind fun z1 =>
 some (Step.next z1)
 else
 some (Step.done (Sum.inr ()))
def Cf (p_:TreePatch):Option Fault :=
 if decide ((p_.Changes.length:Int) > 30) then
 some ({ Code:=2,Index:=(-1) }:Fault)
 else
(Dm (fun s=>Cf.l1 p_ s) 0).bind fun r1 =>
(match r1 with
| .inl p=>some p
| .inr _=>Cf.j1)
def Co.j1:Option Bool :=
 some false
def Co.l1 (files:(List File)) (path:ByteArray) (except:Int) (x1:Int):Option (Step Int (Bool ⊕ Unit)) :=
 if decide (x1 < (files.length:Int)) then
(at? files x1).bind fun y1 =>
(if !decide (x1=except) then (Ge y1.Path path).bind fun y2 =>
 some y2 else some false).bind fun x3 =>
 if x3 then
 some (Step.done (Sum.inl true))
 else
(ckK .i64 (x1+1)).bind fun z1 =>
 some (Step.next z1)
 else
 some (Step.done (Sum.inr ()))
def Co (files:(List File)) (path:ByteArray) (except:Int):Option Bool :=
(Dm (fun s=>Co.l1 files path except s) 0).bind fun r1 =>
(match r1 with
| .inl p=>some p
| .inr _=>Co.j1)
def Hk (b_:(List ByteArray)) (index:Int):Option Fault :=
(Cu b_).bind fun y1 =>
 if !(decide (y1.Code=0) && decide (y1.Index=0)) then
 some ({ Code:=y1.Code,Index:=index }:Fault)
 else
 some ({ Code:=0,Index:=0 }:Fault)
def C0.j1:Option Fault :=
 some ({ Code:=0,Index:=0 }:Fault)
def C0.l1 (t_:FileTree) (x1:Int):Option (Step Int (Fault ⊕ Unit)) :=
 if decide (x1 < (t_.Files.length:Int)) then
(at? t_.Files x1).bind fun y1 =>
(Ay y1.Path).bind fun y2 =>
 if !y2 then
 some (Step.done (Sum.inl ({ Code:=12,Index:=x1 }:Fault)))
 else
(if decide (x1 > 0) then (ckK .i64 (x1 - 1)).bind fun z1 =>
(at? t_.Files z1).bind fun y3 =>
 some (sLt y1.Path y3.Path || decide (y1.Path=y3.Path)) else some false).bind fun x3 =>
 if x3 then
 some (Step.done (Sum.inl ({ Code:=5,Index:=x1 }:Fault)))
 else
(cut? t_.Files 0 x1).bind fun y4 =>
(Co y4 y1.Path (-1)).bind fun y5 =>
 if y5 then
 some (Step.done (Sum.inl ({ Code:=7,Index:=x1 }:Fault)))
 else
(Hk y1.Lines x1).bind fun y6 =>
 if !(decide (y6.Code=0) && decide (y6.Index=0)) then
 some (Step.done (Sum.inl y6))
 else
(ckK .i64 (x1+1)).bind fun z2 =>
 some (Step.next z2)
 else
 some (Step.done (Sum.inr ()))
def C0 (t_:FileTree):Option Fault :=
 if decide ((t_.Files.length:Int) > 24) then
 some ({ Code:=2,Index:=(-1) }:Fault)
 else
(Dm (fun s=>C0.l1 t_ s) 0).bind fun r1 =>
(match r1 with
| .inl p=>some p
| .inr _=>C0.j1)
def Hm (t_:FileTree) (index:Int):Option Fault :=
(C0 t_).bind fun y1 =>
 if !(decide (y1.Code=0) && decide (y1.Index=0)) then
 some ({ Code:=y1.Code,Index:=index }:Fault)
 else
 some ({ Code:=0,Index:=0 }:Fault)
def Gd (s_:(List ByteArray)):Option (List ByteArray) :=
 nilIf s_ (
 some []) (
(app? 16 ([]:List ByteArray) s_).bind fun y1 =>
 some y1)
def Ct.j1 (x1:List File):Option FileTree :=
 some ({ Files:=x1 }:FileTree)
def Ct.l1 (t_:FileTree) (x2:Int) (x3:List File):Option (Step (Int×(List File)) (List File)) :=
 if decide (x2 < (t_.Files.length:Int)) then
(at? t_.Files x2).bind fun y1 =>
(Gd y1.Lines).bind fun y2 =>
(app? 40 x3 ([({ Path:=y1.Path,Lines:=y2 }:File)]:List File)).bind fun y3 =>
(ckK .i64 (x2+1)).bind fun z1 =>
 some (Step.next (z1,y3))
 else
 some (Step.done x3)
def Ct (t_:FileTree):Option FileTree :=
(Dm (fun s=>Ct.l1 t_ s.1 s.2) (0,[])).bind fun r1 =>
 Ct.j1 r1
def Ds.j1:Option Bool :=
 some true
def Ds.l1 (s1_:(List ByteArray)) (s2_:(List ByteArray)) (x1:Int):Option (Step Int (Bool ⊕ Unit)) :=
 if decide (x1 < (s1_.length:Int)) then
(at? s1_ x1).bind fun y1 =>
(at? s2_ x1).bind fun y2 =>
 if !decide (y1=y2) then
 some (Step.done (Sum.inl false))
 else
(ckK .i64 (x1+1)).bind fun z1 =>
 some (Step.next z1)
 else
 some (Step.done (Sum.inr ()))
def Ds (s1_:(List ByteArray)) (s2_:(List ByteArray)):Option Bool :=
 if !decide ((s1_.length:Int)=(s2_.length:Int)) then
 some false
 else
(Dm (fun s=>Ds.l1 s1_ s2_ s) 0).bind fun r1 =>
(match r1 with
| .inl p=>some p
| .inr _=>Ds.j1)
def Lf (text:(List ByteArray)) (part:(List ByteArray)) (at_:Int):Option Bool :=
(if decide (at_ ≥ 0) then some (decide (at_≤(text.length:Int))) else some false).bind fun x1 =>
(if x1 then (ckK .i64 ((text.length:Int) - at_)).bind fun z1 =>
 some (decide ((part.length:Int)≤z1)) else some false).bind fun x2 =>
(if x2 then (ckK .i64 (at_+(part.length:Int))).bind fun z2 =>
(cut? text at_ z2).bind fun y1 =>
(Ds y1 part).bind fun y2 =>
 some y2 else some false).bind fun x3 =>
 some x3
def Dq.j1 (text:(List ByteArray)) (high:Int) (x1:List ByteArray) (x2:Int):Option (List ByteArray) :=
(cut? text x2 high).bind fun y1 =>
(app? 16 x1 y1).bind fun y2 =>
 some y2
def Dq.l1 (hunks:(List Hunk)) (text:(List ByteArray)) (x3:Int) (x4:List ByteArray) (x5:Int):Option (Step (Int×(List ByteArray)×Int) ((List ByteArray)×Int)) :=
 if decide (x3 < (hunks.length:Int)) then
(at? hunks x3).bind fun y3 =>
(cut? text x5 y3.At).bind fun y4 =>
(app? 16 x4 y4).bind fun y5 =>
(app? 16 y5 y3.New).bind fun y6 =>
(H3 y3).bind fun y7 =>
(ckK .i64 (x3+1)).bind fun z1 =>
 some (Step.next (z1,y6,y7))
 else
 some (Step.done (x4,x5))
def Dq (hunks:(List Hunk)) (text:(List ByteArray)) (low:Int) (high:Int):Option (List ByteArray) :=
(Dm (fun s=>Dq.l1 hunks text s.1 s.2.1 s.2.2) (0,[],low)).bind fun r1 =>
 Dq.j1 text high r1.1 r1.2
def C2.j1 (p_:Patch) (text:(List ByteArray)):Option ((List ByteArray)×Fault) :=
(Dq p_.Hunks text 0 (text.length:Int)).bind fun y3 =>
 if decide ((y3.length:Int) > 120) then
 some ([],({ Code:=10,Index:=(-1) }:Fault))
 else
 some (y3,({ Code:=0,Index:=0 }:Fault))
def C2.l1 (p_:Patch) (text:(List ByteArray)) (x1:Int):Option (Step Int (((List ByteArray)×Fault) ⊕ Unit)) :=
 if decide (x1 < (p_.Hunks.length:Int)) then
(at? p_.Hunks x1).bind fun y4 =>
(Lf text y4.Old y4.At).bind fun y5 =>
 if !y5 then
 some (Step.done (Sum.inl ([],({ Code:=19,Index:=x1 }:Fault))))
 else
(ckK .i64 (x1+1)).bind fun z1 =>
 some (Step.next z1)
 else
 some (Step.done (Sum.inr ()))
def C2 (p_:Patch) (text:(List ByteArray)):Option ((List ByteArray)×Fault) :=
(Ch p_).bind fun y1 =>
 if !(decide (y1.Code=0) && decide (y1.Index=0)) then
 some ([],y1)
 else
(Hk text (-2)).bind fun y2 =>
 if !(decide (y2.Code=0) && decide (y2.Index=0)) then
 some ([],y2)
 else
(Dm (fun s=>C2.l1 p_ text s) 0).bind fun r1 =>
(match r1 with
| .inl p=>some p
| .inr _=>C2.j1 p_ text)
def Ko (a_:ByteArray) (b_:ByteArray):Option Int :=
 some (cmpB a_ b_)
def M6 (a_:ByteArray) (b_:ByteArray):Option Int :=
(Ko a_ b_).bind fun y1 =>
 some y1
def Hx (f:File) (path:ByteArray):Option Int :=
(M6 f.Path path).bind fun y1 =>
 some y1
def Ca.j1 (files:(List File)) (path:ByteArray) (x1:Int):Option (Int×Bool) :=
(if decide (x1 < (files.length:Int)) then (at? files x1).bind fun y1 =>
(Hx y1 path).bind fun y2 =>
 some (decide (y2=0)) else some false).bind fun x2 =>
 some (x1,x2)
def Ca.l1 (files:(List File)) (path:ByteArray) (x3:Int) (x4:Int):Option (Step (Int×Int) Int) :=
 if decide (x4 < x3) then
(ckK .i64 (x4+x3)).bind fun z1 =>
(ckK .u64 z1).bind fun z2 =>
(shr? .u64 z2 1).bind fun z3 =>
(ckK .i64 z3).bind fun z4 =>
(at? files z4).bind fun y3 =>
(Hx y3 path).bind fun y4 =>
 if decide (y4 < 0) then
(ckK .i64 (z4+1)).bind fun z5 =>
 some (Step.next (x3,z5))
 else
 some (Step.next (z4,x4))
 else
 some (Step.done x4)
def Ca (files:(List File)) (path:ByteArray):Option (Int×Bool) :=
(Dm (fun s=>Ca.l1 files path s.1 s.2) ((files.length:Int),0)).bind fun r1 =>
 Ca.j1 files path r1
def E4.j1 (l_:(List ByteArray)) (y1:Int×Bool) (x1:List File):Option FileTree :=
(Gd l_).bind fun y2 =>
(at? x1 y1.1).bind fun y3 =>
(some (x1.set y1.1.toNat ({ Path:=y3.Path,Lines:=y2 }:File))).bind fun y4 =>
 some ({ Files:=y4 }:FileTree)
def E4 (t_:FileTree) (path:ByteArray) (l_:(List ByteArray)):Option FileTree :=
(Ca t_.Files path).bind fun y1 =>
 if !y1.2 then
(ins? 40 t_.Files y1.1 ([({ Path:=path,Lines:=[] }:File)]:List File)).bind fun y5 =>
 E4.j1 l_ y1 y5
 else
 E4.j1 l_ y1 t_.Files
def Eu.j1 (x1:List File):Option (Int×FileTree) :=
 some (0,({ Files:=x1 }:FileTree))
def Eu (c_:TreeChange) (t_:FileTree):Option (Int×FileTree) :=
(Ca t_.Files c_.Path).bind fun y1 =>
 if decide (c_.Kind=1) then
(Co t_.Files c_.Path (-1)).bind fun y2 =>
 if y2 then
 some (7,t_)
 else
 if decide ((t_.Files.length:Int) ≥ 24) then
 some (14,t_)
 else
(E4 t_ c_.Path c_.Lines).bind fun y3 =>
 some (0,y3)
 else
 if !y1.2 then
 some (6,t_)
 else
(at? t_.Files y1.1).bind fun y4 =>
 if decide (c_.Kind=2) then
(Ds y4.Lines c_.Lines).bind fun y5 =>
 if !y5 then
 some (19,t_)
 else
(ckK .i64 (y1.1+1)).bind fun z1 =>
(del? t_.Files y1.1 z1).bind fun y6 =>
 Eu.j1 y6
 else
 if decide (c_.Kind=3) then
(Co t_.Files c_.To y1.1).bind fun y7 =>
 if y7 then
 some (7,t_)
 else
(ckK .i64 (y1.1+1)).bind fun z2 =>
(del? t_.Files y1.1 z2).bind fun y8 =>
(E4 ({ Files:=y8 }:FileTree) c_.To y4.Lines).bind fun y9 =>
 Eu.j1 y9.Files
 else
(C2 c_.Patch y4.Lines).bind fun y10 =>
 if !(decide (y10.2.Code=0) && decide (y10.2.Index=0)) then
 some (y10.2.Code,t_)
 else
(at? t_.Files y1.1).bind fun y11 =>
(some (t_.Files.set y1.1.toNat ({ Path:=y11.Path,Lines:=y10.1 }:File))).bind fun y12 =>
 Eu.j1 y12
def C8.j1 (x1:List File):Option (FileTree×Fault) :=
 some (({ Files:=x1 }:FileTree),({ Code:=0,Index:=0 }:Fault))
def C8.l1 (p_:TreePatch) (x2:Int) (x3:List File):Option (Step (Int×(List File)) ((FileTree×Fault) ⊕ (List File))) :=
 if decide (x2 < (p_.Changes.length:Int)) then
(at? p_.Changes x2).bind fun y4 =>
(Eu y4 ({ Files:=x3 }:FileTree)).bind fun y5 =>
 if !decide (y5.1=0) then
 some (Step.done (Sum.inl (({ Files:=[] }:FileTree),({ Code:=y5.1,Index:=x2 }:Fault))))
 else
(ckK .i64 (x2+1)).bind fun z1 =>
 some (Step.next (z1,y5.2.Files))
 else
 some (Step.done (Sum.inr x3))
def C8 (p_:TreePatch) (t_:FileTree):Option (FileTree×Fault) :=
(Cf p_).bind fun y1 =>
 if !(decide (y1.Code=0) && decide (y1.Index=0)) then
 some (({ Files:=[] }:FileTree),y1)
 else
(Hm t_ (-2)).bind fun y2 =>
 if !(decide (y2.Code=0) && decide (y2.Index=0)) then
 some (({ Files:=[] }:FileTree),y2)
 else
(Ct t_).bind fun y3 =>
(Dm (fun s=>C8.l1 p_ s.1 s.2) (0,y3.Files)).bind fun r1 =>
(match r1 with
| .inl p=>some p
| .inr p=>C8.j1 p)
def K8 (a_:(List ByteArray)) (b_:(List ByteArray)):Option Fault :=
(Cu a_).bind fun y1 =>
 if !(decide (y1.Code=0) && decide (y1.Index=0)) then
 some y1
 else
(Hk b_ (-2)).bind fun y2 =>
 some y2
def Gx (i_:Int) (j:Int) (u2:(List Int)) (u3:Int):Option Int :=
(ckK .i64 (i_ * u3)).bind fun z1 =>
(ckK .i64 (z1+j)).bind fun z2 =>
(at? u2 z2).bind fun y1 =>
 some y1
def B5.j2 (x2:List Int):Option (List Int) :=
 some x2
def B5.l1 (a_:(List ByteArray)) (b_:(List ByteArray)) (z1:Int) (x1:List Int) (x3:Int) (x4:Int) (x5:List Int):Option (Step (Int×Int×(List Int)) (List Int)) :=
(if decide (x4 < (a_.length:Int)) then some true else some (decide (x3 < (b_.length:Int)))).bind fun x7 =>
 if x7 then
(if decide (x4 < (a_.length:Int)) then some (decide (x3 < (b_.length:Int))) else some false).bind fun x8 =>
(if x8 then (at? a_ x4).bind fun y2 =>
(at? b_ x3).bind fun y3 =>
 some (decide (y2=y3)) else some false).bind fun x9 =>
 if x9 then
(app? 8 x5 ([0]:List Int)).bind fun y4 =>
(ckK .i64 (x4+1)).bind fun z4 =>
(ckK .i64 (x3+1)).bind fun z5 =>
 some (Step.next (z5,z4,y4))
 else
(if decide (x3=(b_.length:Int)) then some true else (if decide (x4 < (a_.length:Int)) then (ckK .i64 (x4+1)).bind fun z6 =>
(Gx z6 x3 x1 z1).bind fun y5 =>
(ckK .i64 (x3+1)).bind fun z7 =>
(Gx x4 z7 x1 z1).bind fun y6 =>
 some (decide (y5 ≥ y6)) else some false).bind fun x11 =>
 some x11).bind fun x10 =>
 if x10 then
(app? 8 x5 ([1]:List Int)).bind fun y7 =>
(ckK .i64 (x4+1)).bind fun z8 =>
 some (Step.next (x3,z8,y7))
 else
(app? 8 x5 ([2]:List Int)).bind fun y8 =>
(ckK .i64 (x3+1)).bind fun z9 =>
 some (Step.next (z9,x4,y8))
 else
 some (Step.done x5)
def B5.j1 (a_:(List ByteArray)) (b_:(List ByteArray)) (z1:Int) (x1:List Int):Option (List Int) :=
(Dm (fun s=>B5.l1 a_ b_ z1 x1 s.1 s.2.1 s.2.2) (0,0,[])).bind fun r1 =>
 B5.j2 r1
def B5.j3 (x12:Int) (x15:List Int):Option (Step (Int×(List Int)) (List Int)) :=
(ckK .i64 (x12 - 1)).bind fun z11 =>
 some (Step.next (z11,x15))
def B5.j4 (x12:Int) (x16:List Int):Option (Step (Int×(List Int)) (List Int)) :=
 B5.j3 x12 x16
def B5.j5 (z1:Int) (x12:Int) (x17:Int) (x18:List Int) (x20:Int):Option (Step (Int×(List Int)) (List Int)) :=
(ckK .i64 (x12 * z1)).bind fun z15 =>
(ckK .i64 (z15+x17)).bind fun z16 =>
(at? x18 z16).bind fun y11 =>
(some (x18.set z16.toNat x20)).bind fun y12 =>
(ckK .i64 (x17 - 1)).bind fun z17 =>
 some (Step.next (z17,y12))
def B5.l3 (a_:(List ByteArray)) (b_:(List ByteArray)) (z1:Int) (x12:Int) (x17:Int) (x18:List Int):Option (Step (Int×(List Int)) (List Int)) :=
 if decide (x17 ≥ 0) then
(ckK .i64 (x12+1)).bind fun z13 =>
(Gx z13 x17 x18 z1).bind fun y9 =>
(ckK .i64 (x17+1)).bind fun z14 =>
(Gx x12 z14 x18 z1).bind fun y10 =>
(at? a_ x12).bind fun y13 =>
(at? b_ x17).bind fun y14 =>
 if decide (y13=y14) then
(ckK .i64 (x12+1)).bind fun z18 =>
(ckK .i64 (x17+1)).bind fun z19 =>
(Gx z18 z19 x18 z1).bind fun y15 =>
(ckK .i64 (y15+1)).bind fun z20 =>
 B5.j5 z1 x12 x17 x18 z20
 else
 B5.j5 z1 x12 x17 x18 (max y9 y10)
 else
 some (Step.done x18)
def B5.l2 (a_:(List ByteArray)) (b_:(List ByteArray)) (z1:Int) (x12:Int) (x13:List Int):Option (Step (Int×(List Int)) (List Int)) :=
 if decide (x12 ≥ 0) then
(ckK .i64 ((b_.length:Int) - 1)).bind fun z12 =>
(Dm (fun s=>B5.l3 a_ b_ z1 x12 s.1 s.2) (z12,x13)).bind fun r3 =>
 B5.j4 x12 r3
 else
 some (Step.done x13)
def B5 (a_:(List ByteArray)) (b_:(List ByteArray)):Option (List Int) :=
(ckK .i64 ((b_.length:Int)+1)).bind fun z1 =>
(ckK .i64 ((a_.length:Int)+1)).bind fun z2 =>
(ckK .i64 (z2 * z1)).bind fun z3 =>
(mk? 8 z3 (0:Int)).bind fun y1 =>
(ckK .i64 ((a_.length:Int) - 1)).bind fun z10 =>
(Dm (fun s=>B5.l2 a_ b_ z1 s.1 s.2) (z10,y1)).bind fun r2 =>
 B5.j1 a_ b_ z1 r2
def Gy (c_:Collector_diff) (n_:Int):Option Collector_diff :=
 if decide (n_ > 0) then
(ckK .i64 (c_.at_+n_)).bind fun z1 =>
 some ({ hunks:=c_.hunks,at_:=z1,open_:=false }:Collector_diff)
 else
 some c_
def Di.j1 (c_:Collector_diff) (line:ByteArray) (x1:List Hunk) (x2:Bool):Option Collector_diff :=
(ckK .i64 ((x1.length:Int) - 1)).bind fun z1 =>
(at? x1 z1).bind fun y1 =>
(app? 16 y1.Old ([line]:List ByteArray)).bind fun y2 =>
(ckK .i64 (c_.at_+1)).bind fun z2 =>
(some (x1.set z1.toNat ({ At:=y1.At,Old:=y2,New:=y1.New }:Hunk))).bind fun y3 =>
 some ({ hunks:=y3,at_:=z2,open_:=x2 }:Collector_diff)
def Di (c_:Collector_diff) (line:ByteArray):Option Collector_diff :=
 if !c_.open_ then
(app? 56 c_.hunks ([({ At:=c_.at_,Old:=[],New:=[] }:Hunk)]:List Hunk)).bind fun y4 =>
 Di.j1 c_ line y4 true
 else
 Di.j1 c_ line c_.hunks c_.open_
def Dg.j1 (c_:Collector_diff) (line:ByteArray) (x1:List Hunk) (x2:Bool):Option Collector_diff :=
(ckK .i64 ((x1.length:Int) - 1)).bind fun z1 =>
(at? x1 z1).bind fun y1 =>
(app? 16 y1.New ([line]:List ByteArray)).bind fun y2 =>
(some (x1.set z1.toNat ({ At:=y1.At,Old:=y1.Old,New:=y2 }:Hunk))).bind fun y3 =>
 some ({ hunks:=y3,at_:=c_.at_,open_:=x2 }:Collector_diff)
def Dg (c_:Collector_diff) (line:ByteArray):Option Collector_diff :=
 if !c_.open_ then
(app? 56 c_.hunks ([({ At:=c_.at_,Old:=[],New:=[] }:Hunk)]:List Hunk)).bind fun y4 =>
 Dg.j1 c_ line y4 true
 else
 Dg.j1 c_ line c_.hunks c_.open_
def C4.j1 (x1:List Hunk) (x2:Int) (x3:Bool):Option (Patch×Fault) :=
 some (({ Hunks:=x1 }:Patch),({ Code:=0,Index:=0 }:Fault))
def C4.j2 (x4:Int) (x11:Int) (x12:Int) (x13:List Hunk) (x14:Int) (x15:Bool):Option (Step (Int×Int×Int×(List Hunk)×Int×Bool) ((List Hunk)×Int×Bool)) :=
(ckK .i64 (x4+1)).bind fun z1 =>
 some (Step.next (z1,x11,x12,x13,x14,x15))
def C4.l1 (a_:(List ByteArray)) (b_:(List ByteArray)) (y2:(List Int)) (x4:Int) (x5:Int) (x6:Int) (x7:List Hunk) (x8:Int) (x9:Bool):Option (Step (Int×Int×Int×(List Hunk)×Int×Bool) ((List Hunk)×Int×Bool)) :=
 if decide (x4 < (y2.length:Int)) then
(at? y2 x4).bind fun y3 =>
 if decide (y3=0) then
(Gy ({ hunks:=x7,at_:=x8,open_:=x9 }:Collector_diff) 1).bind fun y4 =>
(ckK .i64 (x6+1)).bind fun z2 =>
(ckK .i64 (x5+1)).bind fun z3 =>
 C4.j2 x4 z3 z2 y4.hunks y4.at_ y4.open_
 else
 if decide (y3=1) then
(at? a_ x6).bind fun y5 =>
(Di ({ hunks:=x7,at_:=x8,open_:=x9 }:Collector_diff) y5).bind fun y6 =>
(ckK .i64 (x6+1)).bind fun z4 =>
 C4.j2 x4 x5 z4 y6.hunks y6.at_ y6.open_
 else
(at? b_ x5).bind fun y7 =>
(Dg ({ hunks:=x7,at_:=x8,open_:=x9 }:Collector_diff) y7).bind fun y8 =>
(ckK .i64 (x5+1)).bind fun z5 =>
 C4.j2 x4 z5 x6 y8.hunks y8.at_ y8.open_
 else
 some (Step.done (x7,x8,x9))
def C4 (a_:(List ByteArray)) (b_:(List ByteArray)):Option (Patch×Fault) :=
(K8 a_ b_).bind fun y1 =>
 if !(decide (y1.Code=0) && decide (y1.Index=0)) then
 some (({ Hunks:=[] }:Patch),y1)
 else
(B5 a_ b_).bind fun y2 =>
(Dm (fun s=>C4.l1 a_ b_ y2 s.1 s.2.1 s.2.2.1 s.2.2.2.1 s.2.2.2.2.1 s.2.2.2.2.2) (0,0,0,[],0,false)).bind fun r1 =>
 C4.j1 r1.1 r1.2.1 r1.2.2
def Ka (h_:Hunk):Option Int :=
(ckK .i64 ((h_.New.length:Int) - (h_.Old.length:Int))).bind fun z1 =>
 some z1
def B2 (code:Int) (index:Int):Option Fault :=
 some ({ Code:=code,Index:=index }:Fault)
def Bs.body (rec_:ByteArray→ByteArray→Option Bool) (a_:ByteArray) (b_:ByteArray):Option Bool :=
 if decide ((a_.size:Int) > (b_.size:Int)) then
(rec_ b_ a_).bind fun y1 =>
 some y1
 else
(scut? b_ 0 (a_.size:Int)).bind fun y2 =>
(if decide (y2=a_) then (if decide ((a_.size:Int)=(b_.size:Int)) then some true else (sAt? b_ (a_.size:Int)).bind fun y3 =>
 some (decide (y3=47))).bind fun x2 =>
 some x2 else some false).bind fun x1 =>
 some x1
def Bs.m:Nat→ByteArray→ByteArray→Option Bool
| 0=>fun _ _=>Option.none
| k+1=>Bs.body (Bs.m k)
def Bs (a_:ByteArray) (b_:ByteArray):Option Bool:=Bs.m (2) a_ b_
def Gu (c_:Int):Option Bool :=
(if decide (c_ ≥ 97) then some (decide (c_≤122)) else some false).bind fun x1 =>
(if x1 then some true else (if decide (c_ ≥ 65) then some (decide (c_≤90)) else some false).bind fun x3 =>
 some x3).bind fun x2 =>
(if x2 then some true else (if decide (c_ ≥ 48) then some (decide (c_≤57)) else some false).bind fun x5 =>
 some x5).bind fun x4 =>
(if x4 then some true else some (decide (c_=46))).bind fun x6 =>
(if x6 then some true else some (decide (c_=95))).bind fun x7 =>
(if x7 then some true else some (decide (c_=45))).bind fun x8 =>
 some x8
def Be.j1:Option Bool :=
 some true
def Be.j2 (x1:Int) (x4:Int):Option (Step (Int×Int) (Bool ⊕ Unit)) :=
(ckK .i64 (x1 - 1)).bind fun z2 =>
 some (Step.next (z2,x4))
def Be.l1 (s_:ByteArray) (x1:Int) (x2:Int):Option (Step (Int×Int) (Bool ⊕ Unit)) :=
 if decide (x1 ≥ (-1)) then
(if decide (x1 ≥ 0) then (sAt? s_ x1).bind fun y1 =>
 some (!decide (y1=47)) else some false).bind fun x5 =>
 if x5 then
(sAt? s_ x1).bind fun y2 =>
(Gu y2).bind fun y3 =>
 if !y3 then
 some (Step.done (Sum.inl false))
 else
 Be.j2 x1 x2
 else
(ckK .i64 (x1+1)).bind fun z3 =>
(scut? s_ z3 x2).bind fun y4 =>
(if decide (y4=(⟨#[]⟩:ByteArray)) then some true else some (decide (y4=(⟨#[46]⟩:ByteArray)))).bind fun x6 =>
(if x6 then some true else some (decide (y4=(⟨#[46,46]⟩:ByteArray)))).bind fun x7 =>
 if x7 then
 some (Step.done (Sum.inl false))
 else
 Be.j2 x1 x1
 else
 some (Step.done (Sum.inr ()))
def Be (s_:ByteArray):Option Bool :=
 if decide ((s_.size:Int) > 60) then
 some false
 else
(ckK .i64 ((s_.size:Int) - 1)).bind fun z1 =>
(Dm (fun s=>Be.l1 s_ s.1 s.2) (z1,(s_.size:Int))).bind fun r1 =>
(match r1 with
| .inl p=>some p
| .inr _=>Be.j1)
def A1.j1:Option Fault :=
 some ({ Code:=0,Index:=0 }:Fault)
def A1.j2 (x1:Int):Option (Step Int (Fault ⊕ Unit)) :=
(ckK .i64 (x1+1)).bind fun z1 =>
 some (Step.next z1)
def A1.j3 (x1:Int):Option (Step Int (Fault ⊕ Unit)) :=
 A1.j2 x1
def A1.l2 (l_:(List ByteArray)) (x1:Int) (x3:Int):Option (Step Int (Fault ⊕ Unit)) :=
(at? l_ x1).bind fun y4 =>
 if decide (x3 < (y4.size:Int)) then
(at? l_ x1).bind fun y5 =>
(sAt? y5 x3).bind fun y6 =>
 if decide (y6=10) then
(B2 5 x1).bind fun y7 =>
 some (Step.done (Sum.inl y7))
 else
(ckK .i64 (x3+1)).bind fun z2 =>
 some (Step.next z2)
 else
 some (Step.done (Sum.inr ()))
def A1.l1 (l_:(List ByteArray)) (x1:Int):Option (Step Int (Fault ⊕ Unit)) :=
 if decide (x1 < (l_.length:Int)) then
(at? l_ x1).bind fun y2 =>
 if decide ((y2.size:Int) > 80) then
(B2 2 x1).bind fun y3 =>
 some (Step.done (Sum.inl y3))
 else
(Dm (fun s=>A1.l2 l_ x1 s) 0).bind fun r2 =>
(match r2 with
| .inl p=>some (Step.done (Sum.inl p))
| .inr _=>A1.j3 x1)
 else
 some (Step.done (Sum.inr ()))
def A1 (l_:(List ByteArray)):Option Fault :=
 if decide ((l_.length:Int) > 120) then
(B2 2 (-1)).bind fun y1 =>
 some y1
 else
(Dm (fun s=>A1.l1 l_ s) 0).bind fun r1 =>
(match r1 with
| .inl p=>some p
| .inr _=>A1.j1)
def Du (l_:(List ByteArray)):Option Int :=
(A1 l_).bind fun y1 =>
 some y1.Code
def A8.j1:Option Fault :=
 some ({ Code:=0,Index:=0 }:Fault)
def A8.j2 (x1:Int):Option (Step Int (Fault ⊕ Unit)) :=
(ckK .i64 (x1+1)).bind fun z1 =>
 some (Step.next z1)
def A8.j3 (x1:Int) (y2:File):Option (Step Int (Fault ⊕ Unit)) :=
(Du y2.Lines).bind fun y7 =>
 if !decide (y7=0) then
(B2 y7 x1).bind fun y8 =>
 some (Step.done (Sum.inl y8))
 else
 A8.j2 x1
def A8.l2 (t_:FileTree) (x1:Int) (y2:File) (x4:Int):Option (Step Int (Fault ⊕ Unit)) :=
 if decide (x4 < x1) then
(at? t_.Files x4).bind fun y9 =>
(Bs y9.Path y2.Path).bind fun y10 =>
 if y10 then
(B2 7 x1).bind fun y11 =>
 some (Step.done (Sum.inl y11))
 else
(ckK .i64 (x4+1)).bind fun z3 =>
 some (Step.next z3)
 else
 some (Step.done (Sum.inr ()))
def A8.l1 (t_:FileTree) (x1:Int):Option (Step Int (Fault ⊕ Unit)) :=
 if decide (x1 < (t_.Files.length:Int)) then
(at? t_.Files x1).bind fun y2 =>
(Be y2.Path).bind fun y3 =>
 if !y3 then
(B2 12 x1).bind fun y4 =>
 some (Step.done (Sum.inl y4))
 else
(if decide (x1 > 0) then (ckK .i64 (x1 - 1)).bind fun z2 =>
(at? t_.Files z2).bind fun y5 =>
 some (sLt y2.Path y5.Path || decide (y2.Path=y5.Path)) else some false).bind fun x3 =>
 if x3 then
(B2 5 x1).bind fun y6 =>
 some (Step.done (Sum.inl y6))
 else
(Dm (fun s=>A8.l2 t_ x1 y2 s) 0).bind fun r2 =>
(match r2 with
| .inl p=>some (Step.done (Sum.inl p))
| .inr _=>A8.j3 x1 y2)
 else
 some (Step.done (Sum.inr ()))
def A8 (t_:FileTree):Option Fault :=
 if decide ((t_.Files.length:Int) > 24) then
(B2 2 (-1)).bind fun y1 =>
 some y1
 else
(Dm (fun s=>A8.l1 t_ s) 0).bind fun r1 =>
(match r1 with
| .inl p=>some p
| .inr _=>A8.j1)
def Ey (h_:Hunk):Option Int :=
(ckK .i64 (h_.At+(h_.Old.length:Int))).bind fun z1 =>
 some z1
def Bt.j1:Option Fault :=
 some ({ Code:=0,Index:=0 }:Fault)
def Bt.l1 (p_:Patch) (x1:Int):Option (Step Int (Fault ⊕ Unit)) :=
 if decide (x1 < (p_.Hunks.length:Int)) then
(at? p_.Hunks x1).bind fun y2 =>
(if decide (y2.At < 0) then some true else some (decide (y2.At > 120))).bind fun x3 =>
 if x3 then
(B2 3 x1).bind fun y3 =>
 some (Step.done (Sum.inl y3))
 else
(Du y2.Old).bind fun y4 =>
 if !decide (y4=0) then
(B2 y4 x1).bind fun y5 =>
 some (Step.done (Sum.inl y5))
 else
(Du y2.New).bind fun y6 =>
 if !decide (y6=0) then
(B2 y6 x1).bind fun y7 =>
 some (Step.done (Sum.inl y7))
 else
(ckK .i64 ((y2.Old.length:Int)+(y2.New.length:Int))).bind fun z1 =>
(if decide (z1=0) then some true else (if decide (x1 > 0) then (ckK .i64 (x1 - 1)).bind fun z2 =>
(at? p_.Hunks z2).bind fun y8 =>
(Ey y8).bind fun y9 =>
 some (decide (y2.At≤y9)) else some false).bind fun x5 =>
 some x5).bind fun x4 =>
 if x4 then
(B2 5 x1).bind fun y10 =>
 some (Step.done (Sum.inl y10))
 else
(Ey y2).bind fun y11 =>
 if decide (y11 > 120) then
(B2 3 x1).bind fun y12 =>
 some (Step.done (Sum.inl y12))
 else
(ckK .i64 (x1+1)).bind fun z3 =>
 some (Step.next z3)
 else
 some (Step.done (Sum.inr ()))
def Bt (p_:Patch):Option Fault :=
 if decide ((p_.Hunks.length:Int) > 130) then
(B2 2 (-1)).bind fun y1 =>
 some y1
 else
(Dm (fun s=>Bt.l1 p_ s) 0).bind fun r1 =>
(match r1 with
| .inl p=>some p
| .inr _=>Bt.j1)
def Ep (c_:TreeChange):Option Int :=
(if !(decide (c_.Kind=1)) then some (!(decide (c_.Kind=2))) else some false).bind fun x1 =>
(if x1 then some (!(decide (c_.Kind=3))) else some false).bind fun x2 =>
(if x2 then some (!(decide (c_.Kind=4))) else some false).bind fun x3 =>
 if x3 then
 some 4
 else
(Be c_.Path).bind fun y1 =>
(if !y1 then some true else (if decide (c_.Kind=3) then (Be c_.To).bind fun y2 =>
 some !y2 else some false).bind fun x5 =>
 some x5).bind fun x4 =>
 if x4 then
 some 12
 else
(if !(decide (c_.Kind=3)) then some (!decide (c_.To=(⟨#[]⟩:ByteArray))) else some false).bind fun x6 =>
(if x6 then some true else (if decide (c_.Kind=3) then (Bs c_.Path c_.To).bind fun y3 =>
 some y3 else some false).bind fun x8 =>
 some x8).bind fun x7 =>
(if x7 then some true else (if !(decide (c_.Kind=1)) then some (!(decide (c_.Kind=2))) else some false).bind fun x10 =>
(if x10 then some (decide ((c_.Lines.length:Int) > 0)) else some false).bind fun x11 =>
 some x11).bind fun x9 =>
(if x9 then some true else (if decide (c_.Kind=4) then some (decide ((c_.Patch.Hunks.length:Int)=0)) else some false).bind fun x13 =>
 some x13).bind fun x12 =>
(if x12 then some true else (if !(decide (c_.Kind=4)) then some (decide ((c_.Patch.Hunks.length:Int) > 0)) else some false).bind fun x15 =>
 some x15).bind fun x14 =>
 if x14 then
 some 5
 else
(Du c_.Lines).bind fun y4 =>
 if !decide (y4=0) then
 some y4
 else
(Bt c_.Patch).bind fun y5 =>
 some y5.Code
def Bv.j1:Option Fault :=
 some ({ Code:=0,Index:=0 }:Fault)
def Bv.l1 (p_:TreePatch) (x1:Int):Option (Step Int (Fault ⊕ Unit)) :=
 if decide (x1 < (p_.Changes.length:Int)) then
(at? p_.Changes x1).bind fun y2 =>
(Ep y2).bind fun y3 =>
 if !decide (y3=0) then
(B2 y3 x1).bind fun y4 =>
 some (Step.done (Sum.inl y4))
 else
(ckK .i64 (x1+1)).bind fun z1 =>
 some (Step.next z1)
 else
 some (Step.done (Sum.inr ()))
def Bv (p_:TreePatch):Option Fault :=
 if decide ((p_.Changes.length:Int) > 30) then
(B2 2 (-1)).bind fun y1 =>
 some y1
 else
(Dm (fun s=>Bv.l1 p_ s) 0).bind fun r1 =>
(match r1 with
| .inl p=>some p
| .inr _=>Bv.j1)
def Cc.j1:Option Int :=
 some (-1)
def Cc.l1 (t_:FileTree) (path:ByteArray) (x1:Int):Option (Step Int (Int ⊕ Unit)) :=
 if decide (x1 < (t_.Files.length:Int)) then
(at? t_.Files x1).bind fun y1 =>
 if decide (y1.Path=path) then
 some (Step.done (Sum.inl x1))
 else
(ckK .i64 (x1+1)).bind fun z1 =>
 some (Step.next z1)
 else
 some (Step.done (Sum.inr ()))
def Cc (t_:FileTree) (path:ByteArray):Option Int :=
(Dm (fun s=>Cc.l1 t_ path s) 0).bind fun r1 =>
(match r1 with
| .inl p=>some p
| .inr _=>Cc.j1)
def Ce.j1:Option Bool :=
 some true
def Ce.l1 (a_:(List ByteArray)) (b_:(List ByteArray)) (x1:Int):Option (Step Int (Bool ⊕ Unit)) :=
 if decide (x1 < (a_.length:Int)) then
(at? a_ x1).bind fun y1 =>
(at? b_ x1).bind fun y2 =>
 if !decide (y1=y2) then
 some (Step.done (Sum.inl false))
 else
(ckK .i64 (x1+1)).bind fun z1 =>
 some (Step.next z1)
 else
 some (Step.done (Sum.inr ()))
def Ce (a_:(List ByteArray)) (b_:(List ByteArray)):Option Bool :=
 if !decide ((a_.length:Int)=(b_.length:Int)) then
 some false
 else
(Dm (fun s=>Ce.l1 a_ b_ s) 0).bind fun r1 =>
(match r1 with
| .inl p=>some p
| .inr _=>Ce.j1)
def Bh.j1 (x1:List Hunk):Option Patch :=
 some ({ Hunks:=x1 }:Patch)
def Bh.j2 (x2:Int) (x7:Bool) (x8:Int) (x9:List Hunk):Option (Step (Int×Bool×Int×(List Hunk)) (List Hunk)) :=
(ckK .i64 (x2+1)).bind fun z1 =>
 some (Step.next (z1,x7,x8,x9))
def Bh.j3 (l_:(List Step_changeforgeref1)) (x2:Int) (x4:Int) (x10:Bool) (x11:List Hunk):Option (Step (Int×Bool×Int×(List Hunk)) (List Hunk)) :=
(ckK .i64 ((x11.length:Int) - 1)).bind fun z3 =>
(at? x11 z3).bind fun y2 =>
(at? l_ x2).bind fun y3 =>
 if decide (y3.Kind=1) then
(at? l_ x2).bind fun y4 =>
(app? 16 y2.Old ([y4.Text]:List ByteArray)).bind fun y5 =>
(ckK .i64 (x4+1)).bind fun z4 =>
(some (x11.set z3.toNat ({ At:=y2.At,Old:=y5,New:=y2.New }:Hunk))).bind fun y6 =>
 Bh.j2 x2 x10 z4 y6
 else
(at? l_ x2).bind fun y7 =>
(app? 16 y2.New ([y7.Text]:List ByteArray)).bind fun y8 =>
(some (x11.set z3.toNat ({ At:=y2.At,Old:=y2.Old,New:=y8 }:Hunk))).bind fun y9 =>
 Bh.j2 x2 x10 x4 y9
def Bh.l1 (l_:(List Step_changeforgeref1)) (x2:Int) (x3:Bool) (x4:Int) (x5:List Hunk):Option (Step (Int×Bool×Int×(List Hunk)) (List Hunk)) :=
 if decide (x2 < (l_.length:Int)) then
(at? l_ x2).bind fun y1 =>
 if decide (y1.Kind=0) then
(ckK .i64 (x4+1)).bind fun z2 =>
 Bh.j2 x2 false z2 x5
 else
 if !x3 then
(app? 56 x5 ([({ At:=x4,Old:=[],New:=[] }:Hunk)]:List Hunk)).bind fun y10 =>
 Bh.j3 l_ x2 x4 true y10
 else
 Bh.j3 l_ x2 x4 x3 x5
 else
 some (Step.done x5)
def Bh (l_:(List Step_changeforgeref1)):Option Patch :=
(Dm (fun s=>Bh.l1 l_ s.1 s.2.1 s.2.2.1 s.2.2.2) (0,false,0,[])).bind fun r1 =>
 Bh.j1 r1
def Aq.j1 (x1:List (List Int)):Option (List (List Int)) :=
 some x1
def Aq.j2 (x2:Int) (x5:List (List Int)):Option (Step (Int×(List (List Int))) (List (List Int))) :=
(ckK .i64 (x2 - 1)).bind fun z2 =>
 some (Step.next (z2,x5))
def Aq.j3 (x2:Int) (x6:List (List Int)):Option (Step (Int×(List (List Int))) (List (List Int))) :=
 Aq.j2 x2 x6
def Aq.j5 (x2:Int) (x7:Int) (x12:Int) (x13:List (List Int)):Option (Step (Int×(List (List Int))) (List (List Int))) :=
(at? x13 x2).bind fun y8 =>
(at? y8 x7).bind fun y9 =>
(some (y8.set x7.toNat x12)).bind fun y10 =>
(ckK .i64 (x7 - 1)).bind fun z6 =>
(some (x13.set x2.toNat y10)).bind fun y11 =>
 some (Step.next (z6,y11))
def Aq.j4 (a_:(List ByteArray)) (b_:(List ByteArray)) (x2:Int) (x7:Int) (x10:Int) (x11:List (List Int)):Option (Step (Int×(List (List Int))) (List (List Int))) :=
(at? a_ x7).bind fun y12 =>
(at? b_ x2).bind fun y13 =>
(if decide (y12=y13) then (ckK .i64 (x2+1)).bind fun z7 =>
(at? x11 z7).bind fun y14 =>
(ckK .i64 (x7+1)).bind fun z8 =>
(at? y14 z8).bind fun y15 =>
(ckK .i64 (y15+1)).bind fun z9 =>
 some (decide (z9 > x10)) else some false).bind fun x14 =>
 if x14 then
(ckK .i64 (x2+1)).bind fun z10 =>
(at? x11 z10).bind fun y16 =>
(ckK .i64 (x7+1)).bind fun z11 =>
(at? y16 z11).bind fun y17 =>
(ckK .i64 (y17+1)).bind fun z12 =>
 Aq.j5 x2 x7 z12 x11
 else
 Aq.j5 x2 x7 x10 x11
def Aq.l2 (a_:(List ByteArray)) (b_:(List ByteArray)) (x2:Int) (x7:Int) (x8:List (List Int)):Option (Step (Int×(List (List Int))) (List (List Int))) :=
 if decide (x7 ≥ 0) then
(ckK .i64 (x2+1)).bind fun z5 =>
(at? x8 z5).bind fun y6 =>
(at? y6 x7).bind fun y7 =>
(at? x8 x2).bind fun y18 =>
(ckK .i64 (x7+1)).bind fun z13 =>
(at? y18 z13).bind fun y19 =>
 if decide (y19 > y7) then
(ckK .i64 (x7+1)).bind fun z14 =>
(at? y18 z14).bind fun y20 =>
 Aq.j4 a_ b_ x2 x7 y20 x8
 else
 Aq.j4 a_ b_ x2 x7 y7 x8
 else
 some (Step.done x8)
def Aq.l1 (a_:(List ByteArray)) (b_:(List ByteArray)) (x2:Int) (x3:List (List Int)):Option (Step (Int×(List (List Int))) (List (List Int))) :=
 if decide (x2 ≥ 0) then
(ckK .i64 ((a_.length:Int)+1)).bind fun z3 =>
(mk? 8 z3 (0:Int)).bind fun y2 =>
(at? x3 x2).bind fun y3 =>
 if decide (x2=(b_.length:Int)) then
(some (x3.set x2.toNat y2)).bind fun y4 =>
 Aq.j2 x2 y4
 else
(ckK .i64 ((a_.length:Int) - 1)).bind fun z4 =>
(some (x3.set x2.toNat y2)).bind fun y5 =>
(Dm (fun s=>Aq.l2 a_ b_ x2 s.1 s.2) (z4,y5)).bind fun r2 =>
 Aq.j3 x2 r2
 else
 some (Step.done x3)
def Aq (a_:(List ByteArray)) (b_:(List ByteArray)):Option (List (List Int)) :=
(ckK .i64 ((b_.length:Int)+1)).bind fun z1 =>
(mk? 24 z1 ([]:List Int)).bind fun y1 =>
(Dm (fun s=>Aq.l1 a_ b_ s.1 s.2) ((b_.length:Int),y1)).bind fun r1 =>
 Aq.j1 r1
def B0.j1 (x1:List Step_changeforgeref1):Option (List Step_changeforgeref1) :=
 some x1
def B0.l1 (a_:(List ByteArray)) (b_:(List ByteArray)) (y1:(List (List Int))) (x2:Int) (x3:Int) (x4:List Step_changeforgeref1):Option (Step (Int×Int×(List Step_changeforgeref1)) (List Step_changeforgeref1)) :=
(if decide (x3 < (a_.length:Int)) then some true else some (decide (x2 < (b_.length:Int)))).bind fun x6 =>
 if x6 then
(if decide (x3 < (a_.length:Int)) then some (decide (x2 < (b_.length:Int))) else some false).bind fun x7 =>
(if x7 then (at? a_ x3).bind fun y2 =>
(at? b_ x2).bind fun y3 =>
 some (decide (y2=y3)) else some false).bind fun x8 =>
 if x8 then
(at? a_ x3).bind fun y4 =>
(app? 24 x4 ([({ Kind:=0,Text:=y4 }:Step_changeforgeref1)]:List Step_changeforgeref1)).bind fun y5 =>
(ckK .i64 (x3+1)).bind fun z1 =>
(ckK .i64 (x2+1)).bind fun z2 =>
 some (Step.next (z2,z1,y5))
 else
(if decide (x2=(b_.length:Int)) then some true else (if decide (x3 < (a_.length:Int)) then (at? y1 x2).bind fun y6 =>
(ckK .i64 (x3+1)).bind fun z3 =>
(at? y6 z3).bind fun y7 =>
(ckK .i64 (x2+1)).bind fun z4 =>
(at? y1 z4).bind fun y8 =>
(at? y8 x3).bind fun y9 =>
 some (decide (y7 ≥ y9)) else some false).bind fun x10 =>
 some x10).bind fun x9 =>
 if x9 then
(at? a_ x3).bind fun y10 =>
(app? 24 x4 ([({ Kind:=1,Text:=y10 }:Step_changeforgeref1)]:List Step_changeforgeref1)).bind fun y11 =>
(ckK .i64 (x3+1)).bind fun z5 =>
 some (Step.next (x2,z5,y11))
 else
(at? b_ x2).bind fun y12 =>
(app? 24 x4 ([({ Kind:=2,Text:=y12 }:Step_changeforgeref1)]:List Step_changeforgeref1)).bind fun y13 =>
(ckK .i64 (x2+1)).bind fun z6 =>
 some (Step.next (z6,x3,y13))
 else
 some (Step.done x4)
def B0 (a_:(List ByteArray)) (b_:(List ByteArray)):Option (List Step_changeforgeref1) :=
(Aq a_ b_).bind fun y1 =>
(Dm (fun s=>B0.l1 a_ b_ y1 s.1 s.2.1 s.2.2) (0,0,[])).bind fun r1 =>
 B0.j1 r1
def Ga (a_:(List ByteArray)) (b_:(List ByteArray)):Option Patch :=
(B0 a_ b_).bind fun y1 =>
(Bh y1).bind fun y2 =>
 some y2
def Bz.j1:Option Bool :=
 some true
def Bz.l1 (a_:(List ByteArray)) (b_:(List ByteArray)) (x1:Int):Option (Step Int (Bool ⊕ Unit)) :=
 if decide (x1 < (a_.length:Int)) then
(at? a_ x1).bind fun y1 =>
(at? b_ x1).bind fun y2 =>
 if !decide (y1=y2) then
 some (Step.done (Sum.inl false))
 else
(ckK .i64 (x1+1)).bind fun z1 =>
 some (Step.next z1)
 else
 some (Step.done (Sum.inr ()))
def Bz (a_:(List ByteArray)) (b_:(List ByteArray)):Option Bool :=
 if !decide ((a_.length:Int)=(b_.length:Int)) then
 some false
 else
(Dm (fun s=>Bz.l1 a_ b_ s) 0).bind fun r1 =>
(match r1 with
| .inl p=>some p
| .inr _=>Bz.j1)
def Cm.j1:Option Bool :=
 some true
def Cm.l1 (a_:FileTree) (b_:FileTree) (x1:Int):Option (Step Int (Bool ⊕ Unit)) :=
 if decide (x1 < (a_.Files.length:Int)) then
(at? a_.Files x1).bind fun y1 =>
(at? b_.Files x1).bind fun y2 =>
(if !decide (y1.Path=y2.Path) then some true else (at? a_.Files x1).bind fun y3 =>
(at? b_.Files x1).bind fun y4 =>
(Bz y3.Lines y4.Lines).bind fun y5 =>
 some !y5).bind fun x3 =>
 if x3 then
 some (Step.done (Sum.inl false))
 else
(ckK .i64 (x1+1)).bind fun z1 =>
 some (Step.next z1)
 else
 some (Step.done (Sum.inr ()))
def Cm (a_:FileTree) (b_:FileTree):Option Bool :=
 if !decide ((a_.Files.length:Int)=(b_.Files.length:Int)) then
 some false
 else
(Dm (fun s=>Cm.l1 a_ b_ s) 0).bind fun r1 =>
(match r1 with
| .inl p=>some p
| .inr _=>Cm.j1)
def Dh.j1 (x1:List Hunk):Option Patch :=
 some ({ Hunks:=x1 }:Patch)
def Dh.l1 (p_:Patch) (x2:Int) (x3:List Hunk):Option (Step (Int×(List Hunk)) (List Hunk)) :=
 if decide (x2 < (p_.Hunks.length:Int)) then
(at? p_.Hunks x2).bind fun y1 =>
(Gd y1.Old).bind fun y2 =>
(Gd y1.New).bind fun y3 =>
(app? 56 x3 ([({ At:=y1.At,Old:=y2,New:=y3 }:Hunk)]:List Hunk)).bind fun y4 =>
(ckK .i64 (x2+1)).bind fun z1 =>
 some (Step.next (z1,y4))
 else
 some (Step.done x3)
def Dh (p_:Patch):Option Patch :=
(Dm (fun s=>Dh.l1 p_ s.1 s.2) (0,[])).bind fun r1 =>
 Dh.j1 r1
def G1 (c_:TreeChange):Option TreeChange :=
(Gd c_.Lines).bind fun y1 =>
(Dh c_.Patch).bind fun y2 =>
 some ({ Kind:=c_.Kind,Path:=c_.Path,To:=c_.To,Lines:=y1,Patch:=y2 }:TreeChange)
def K1 (p_:Patch):Option (Patch×Fault) :=
(Ch p_).bind fun y1 =>
 if !(decide (y1.Code=0) && decide (y1.Index=0)) then
 some (({ Hunks:=[] }:Patch),({ Code:=10,Index:=(-1) }:Fault))
 else
 some (p_,({ Code:=0,Index:=0 }:Fault))
def Cd.j1:Option Bool :=
 some true
def Cd.l1 (a_:Patch) (b_:Patch) (x1:Int):Option (Step Int (Bool ⊕ Unit)) :=
 if decide (x1 < (a_.Hunks.length:Int)) then
(at? a_.Hunks x1).bind fun y1 =>
(at? b_.Hunks x1).bind fun y2 =>
(if !decide (y1.At=y2.At) then some true else (at? a_.Hunks x1).bind fun y3 =>
(at? b_.Hunks x1).bind fun y4 =>
(Bz y3.Old y4.Old).bind fun y5 =>
 some !y5).bind fun x3 =>
(if x3 then some true else (at? a_.Hunks x1).bind fun y6 =>
(at? b_.Hunks x1).bind fun y7 =>
(Bz y6.New y7.New).bind fun y8 =>
 some !y8).bind fun x4 =>
 if x4 then
 some (Step.done (Sum.inl false))
 else
(ckK .i64 (x1+1)).bind fun z1 =>
 some (Step.next z1)
 else
 some (Step.done (Sum.inr ()))
def Cd (a_:Patch) (b_:Patch):Option Bool :=
 if !decide ((a_.Hunks.length:Int)=(b_.Hunks.length:Int)) then
 some false
 else
(Dm (fun s=>Cd.l1 a_ b_ s) 0).bind fun r1 =>
(match r1 with
| .inl p=>some p
| .inr _=>Cd.j1)
def En (a_:TreeChange) (b_:TreeChange):Option Bool :=
(if decide (a_.Kind=b_.Kind) then some (decide (a_.Path=b_.Path)) else some false).bind fun x1 =>
(if x1 then some (decide (a_.To=b_.To)) else some false).bind fun x2 =>
(if x2 then (Bz a_.Lines b_.Lines).bind fun y1 =>
 some y1 else some false).bind fun x3 =>
(if x3 then (Cd a_.Patch b_.Patch).bind fun y2 =>
 some y2 else some false).bind fun x4 =>
 some x4
def He (path:ByteArray) (l_:(List ByteArray)):Option FileTree :=
 some ({ Files:=([({ Path:=path,Lines:=l_ }:File)]:List File) }:FileTree)
def Hj (c_:TreeChange):Option TreePatch :=
 some ({ Changes:=([c_]:List TreeChange) }:TreePatch)
def Cz.j1 (x1:List Hunk):Option (Patch×Fault) :=
(K1 ({ Hunks:=x1 }:Patch)).bind fun y3 =>
 some (y3.1,y3.2)
def Cz.l1 (y2:Patch) (x2:Int) (x3:Int) (x4:List Hunk):Option (Step (Int×Int×(List Hunk)) (List Hunk)) :=
 if decide (x2 < (y2.Hunks.length:Int)) then
(at? x4 x2).bind fun y4 =>
(Ka y4).bind fun y5 =>
(ckK .i64 (y4.At+x3)).bind fun z1 =>
(some (x4.set x2.toNat ({ At:=z1,Old:=y4.Old,New:=y4.New }:Hunk))).bind fun y6 =>
(some (y6.set x2.toNat ({ At:=({ At:=z1,Old:=y4.Old,New:=y4.New }:Hunk).At,Old:=y4.New,New:=({ At:=z1,Old:=y4.Old,New:=y4.New }:Hunk).New }:Hunk))).bind fun y7 =>
(some (y7.set x2.toNat ({ At:=({ At:=({ At:=z1,Old:=y4.Old,New:=y4.New }:Hunk).At,Old:=y4.New,New:=({ At:=z1,Old:=y4.Old,New:=y4.New }:Hunk).New }:Hunk).At,Old:=({ At:=({ At:=z1,Old:=y4.Old,New:=y4.New }:Hunk).At,Old:=y4.New,New:=({ At:=z1,Old:=y4.Old,New:=y4.New }:Hunk).New }:Hunk).Old,New:=y4.Old }:Hunk))).bind fun y8 =>
(ckK .i64 (x3+y5)).bind fun z2 =>
(ckK .i64 (x2+1)).bind fun z3 =>
 some (Step.next (z3,z2,y8))
 else
 some (Step.done x4)
def Cz (p_:Patch):Option (Patch×Fault) :=
(Ch p_).bind fun y1 =>
 if !(decide (y1.Code=0) && decide (y1.Index=0)) then
 some (({ Hunks:=[] }:Patch),y1)
 else
(Dh p_).bind fun y2 =>
(Dm (fun s=>Cz.l1 y2 s.1 s.2.1 s.2.2) (0,0,y2.Hunks)).bind fun r1 =>
 Cz.j1 r1
def Cb.j1 (x1:List TreeChange):Option (TreePatch×Fault) :=
 some (({ Changes:=x1 }:TreePatch),({ Code:=0,Index:=0 }:Fault))
def Cb.j2 (x2:Int) (x3:List TreeChange) (y3:TreeChange) (x5:Int) (x6:ByteArray) (x7:ByteArray) (x8:List Hunk):Option (Step (Int×(List TreeChange)) ((TreePatch×Fault) ⊕ (List TreeChange))) :=
(app? 88 x3 ([({ Kind:=x5,Path:=x6,To:=x7,Lines:=y3.Lines,Patch:=({ Hunks:=x8 }:Patch) }:TreeChange)]:List TreeChange)).bind fun y4 =>
(ckK .i64 (x2 - 1)).bind fun z2 =>
 some (Step.next (z2,y4))
def Cb.l1 (p_:TreePatch) (x2:Int) (x3:List TreeChange):Option (Step (Int×(List TreeChange)) ((TreePatch×Fault) ⊕ (List TreeChange))) :=
 if decide (x2 ≥ 0) then
(at? p_.Changes x2).bind fun y2 =>
(G1 y2).bind fun y3 =>
 if decide (y2.Kind=1) then
 Cb.j2 x2 x3 y3 2 y3.Path y3.To y3.Patch.Hunks
 else
 if decide (y2.Kind=2) then
 Cb.j2 x2 x3 y3 1 y3.Path y3.To y3.Patch.Hunks
 else
 if decide (y2.Kind=3) then
 Cb.j2 x2 x3 y3 y3.Kind y2.To y2.Path y3.Patch.Hunks
 else
(Cz y2.Patch).bind fun y5 =>
 if !(decide (y5.2.Code=0) && decide (y5.2.Index=0)) then
 some (Step.done (Sum.inl (({ Changes:=[] }:TreePatch),({ Code:=y5.2.Code,Index:=x2 }:Fault))))
 else
 Cb.j2 x2 x3 y3 y3.Kind y3.Path y3.To y5.1.Hunks
 else
 some (Step.done (Sum.inr x3))
def Cb (p_:TreePatch):Option (TreePatch×Fault) :=
(Cf p_).bind fun y1 =>
 if !(decide (y1.Code=0) && decide (y1.Index=0)) then
 some (({ Changes:=[] }:TreePatch),y1)
 else
(ckK .i64 ((p_.Changes.length:Int) - 1)).bind fun z1 =>
(Dm (fun s=>Cb.l1 p_ s.1 s.2) (z1,[])).bind fun r1 =>
(match r1 with
| .inl p=>some p
| .inr p=>Cb.j1 p)
def Gf (h_:Hunk):Option Int :=
(ckK .i64 ((h_.New.length:Int) - (h_.Old.length:Int))).bind fun z1 =>
 some z1
def Hv (p_:Patch):Option (Patch×Fault) :=
(Bt p_).bind fun y1 =>
 if !decide (y1.Code=0) then
(B2 10 (-1)).bind fun y2 =>
 some (({ Hunks:=[] }:Patch),y2)
 else
 some (p_,({ Code:=0,Index:=0 }:Fault))
def Bb.j1 (x1:List Hunk):Option (Patch×Fault) :=
(Hv ({ Hunks:=x1 }:Patch)).bind fun y2 =>
 some (y2.1,y2.2)
def Bb.j2 (x2:Int) (x5:List Hunk):Option (Step (Int×(List Hunk)) (List Hunk)) :=
(ckK .i64 (x2+1)).bind fun z1 =>
 some (Step.next (z1,x5))
def Bb.j3 (p_:Patch) (x2:Int) (x3:List Hunk) (x6:Int):Option (Step (Int×(List Hunk)) (List Hunk)) :=
(at? p_.Hunks x2).bind fun y4 =>
(at? p_.Hunks x2).bind fun y5 =>
(app? 56 x3 ([({ At:=x6,Old:=y4.New,New:=y5.Old }:Hunk)]:List Hunk)).bind fun y6 =>
 Bb.j2 x2 y6
def Bb.l2 (p_:Patch) (x2:Int) (x7:Int) (x8:Int):Option (Step (Int×Int) Int) :=
 if decide (x7 < x2) then
(at? p_.Hunks x7).bind fun y7 =>
(Gf y7).bind fun y8 =>
(ckK .i64 (x8+y8)).bind fun z2 =>
(ckK .i64 (x7+1)).bind fun z3 =>
 some (Step.next (z3,z2))
 else
 some (Step.done x8)
def Bb.l1 (p_:Patch) (x2:Int) (x3:List Hunk):Option (Step (Int×(List Hunk)) (List Hunk)) :=
 if decide (x2 < (p_.Hunks.length:Int)) then
(at? p_.Hunks x2).bind fun y3 =>
(Dm (fun s=>Bb.l2 p_ x2 s.1 s.2) (0,y3.At)).bind fun r2 =>
 Bb.j3 p_ x2 x3 r2
 else
 some (Step.done x3)
def Bb (p_:Patch):Option (Patch×Fault) :=
(Bt p_).bind fun y1 =>
 if !decide (y1.Code=0) then
 some (({ Hunks:=[] }:Patch),y1)
 else
(Dm (fun s=>Bb.l1 p_ s.1 s.2) (0,[])).bind fun r1 =>
 Bb.j1 r1
def A0.j1 (x1:List TreeChange):Option (TreePatch×Fault) :=
 some (({ Changes:=x1 }:TreePatch),({ Code:=0,Index:=0 }:Fault))
def A0.j5 (x2:Int) (x3:List TreeChange) (y2:TreeChange) (x6:Int) (x7:ByteArray) (x8:ByteArray) (x9:List Hunk):Option (Step (Int×(List TreeChange)) ((TreePatch×Fault) ⊕ (List TreeChange))) :=
(app? 88 x3 ([({ Kind:=x6,Path:=x7,To:=x8,Lines:=y2.Lines,Patch:=({ Hunks:=x9 }:Patch) }:TreeChange)]:List TreeChange)).bind fun y3 =>
(ckK .i64 (x2 - 1)).bind fun z2 =>
 some (Step.next (z2,y3))
def A0.j4 (x2:Int) (x3:List TreeChange) (y2:TreeChange) (x6:Int) (x7:ByteArray) (x8:ByteArray):Option (Step (Int×(List TreeChange)) ((TreePatch×Fault) ⊕ (List TreeChange))) :=
 if decide (y2.Kind=4) then
(Bb y2.Patch).bind fun y4 =>
 if !decide (y4.2.Code=0) then
(B2 y4.2.Code x2).bind fun y5 =>
 some (Step.done (Sum.inl (({ Changes:=[] }:TreePatch),y5)))
 else
 A0.j5 x2 x3 y2 x6 x7 x8 y4.1.Hunks
 else
 A0.j5 x2 x3 y2 x6 x7 x8 y2.Patch.Hunks
def A0.j3 (x2:Int) (x3:List TreeChange) (y2:TreeChange) (x6:Int):Option (Step (Int×(List TreeChange)) ((TreePatch×Fault) ⊕ (List TreeChange))) :=
 if decide (y2.Kind=3) then
 A0.j4 x2 x3 y2 x6 y2.To y2.Path
 else
 A0.j4 x2 x3 y2 x6 y2.Path y2.To
def A0.j2 (x2:Int) (x3:List TreeChange) (y2:TreeChange) (x5:Int):Option (Step (Int×(List TreeChange)) ((TreePatch×Fault) ⊕ (List TreeChange))) :=
 if decide (y2.Kind=2) then
 A0.j3 x2 x3 y2 1
 else
 A0.j3 x2 x3 y2 x5
def A0.l1 (p_:TreePatch) (x2:Int) (x3:List TreeChange):Option (Step (Int×(List TreeChange)) ((TreePatch×Fault) ⊕ (List TreeChange))) :=
 if decide (x2 ≥ 0) then
(at? p_.Changes x2).bind fun y2 =>
 if decide (y2.Kind=1) then
 A0.j2 x2 x3 y2 2
 else
 A0.j2 x2 x3 y2 y2.Kind
 else
 some (Step.done (Sum.inr x3))
def A0 (p_:TreePatch):Option (TreePatch×Fault) :=
(Bv p_).bind fun y1 =>
 if !decide (y1.Code=0) then
 some (({ Changes:=[] }:TreePatch),y1)
 else
(ckK .i64 ((p_.Changes.length:Int) - 1)).bind fun z1 =>
(Dm (fun s=>A0.l1 p_ s.1 s.2) (z1,[])).bind fun r1 =>
(match r1 with
| .inl p=>some p
| .inr p=>A0.j1 p)
def Bq.j2 (x2:List TreeChange):Option (List TreeChange) :=
 some x2
def Bq.l1 (slices:(List (List TreeChange))) (x3:Int) (x4:List TreeChange):Option (Step (Int×(List TreeChange)) (List TreeChange)) :=
 if decide (x3 < (slices.length:Int)) then
(at? slices x3).bind fun y2 =>
(app? 88 x4 y2).bind fun y3 =>
(ckK .i64 (x3+1)).bind fun z1 =>
 some (Step.next (z1,y3))
 else
 some (Step.done x4)
def Bq.j1 (slices:(List (List TreeChange))) (x1:Int):Option (List TreeChange) :=
(grow0 TreeChange 88 x1).bind fun y1 =>
(Dm (fun s=>Bq.l1 slices s.1 s.2) (0,y1)).bind fun r1 =>
 Bq.j2 r1
def Bq.j3 (x6:Int) (x9:Int):Option (Step (Int×Int) Int) :=
(ckK .i64 (x6+1)).bind fun z2 =>
 some (Step.next (z2,x9))
def Bq.l2 (slices:(List (List TreeChange))) (x6:Int) (x7:Int):Option (Step (Int×Int) Int) :=
 if decide (x6 < (slices.length:Int)) then
(at? slices x6).bind fun y4 =>
(ckK .i64 (x7+(y4.length:Int))).bind fun z3 =>
 if decide (z3 < 0) then
 Option.none
 else
 Bq.j3 x6 z3
 else
 some (Step.done x7)
def Bq (slices:(List (List TreeChange))):Option (List TreeChange) :=
(Dm (fun s=>Bq.l2 slices s.1 s.2) (0,0)).bind fun r2 =>
 Bq.j1 slices r2
def Bk.j2 (x1:List TreeChange) (x2:List TreeChange) (x3:List TreeChange):Option (TreePatch×Fault) :=
(Bq ([x2,x1,x3]:List (List TreeChange))).bind fun y3 =>
 if decide ((y3.length:Int) > 30) then
 some (({ Changes:=[] }:TreePatch),({ Code:=10,Index:=(-1) }:Fault))
 else
 some (({ Changes:=y3 }:TreePatch),({ Code:=0,Index:=0 }:Fault))
def Bk.j3 (x4:Int) (x7:List TreeChange):Option (Step (Int×(List TreeChange)) (List TreeChange)) :=
(ckK .i64 (x4+1)).bind fun z1 =>
 some (Step.next (z1,x7))
def Bk.l1 (old_:FileTree) (newer:FileTree) (x4:Int) (x5:List TreeChange):Option (Step (Int×(List TreeChange)) (List TreeChange)) :=
 if decide (x4 < (newer.Files.length:Int)) then
(at? newer.Files x4).bind fun y4 =>
(Ca old_.Files y4.Path).bind fun y5 =>
 if !y5.2 then
(Gd y4.Lines).bind fun y6 =>
(app? 88 x5 ([({ Kind:=1,Path:=y4.Path,To:=ByteArray.empty,Lines:=y6,Patch:=({ Hunks:=[] }:Patch) }:TreeChange)]:List TreeChange)).bind fun y7 =>
 Bk.j3 x4 y7
 else
 Bk.j3 x4 x5
 else
 some (Step.done x5)
def Bk.j1 (old_:FileTree) (newer:FileTree) (x1:List TreeChange) (x2:List TreeChange):Option (TreePatch×Fault) :=
(Dm (fun s=>Bk.l1 old_ newer s.1 s.2) (0,[])).bind fun r1 =>
 Bk.j2 x1 x2 r1
def Bk.j4 (x8:Int) (x12:List TreeChange) (x13:List TreeChange):Option (Step (Int×(List TreeChange)×(List TreeChange)) ((List TreeChange)×(List TreeChange))) :=
(ckK .i64 (x8+1)).bind fun z2 =>
 some (Step.next (z2,x13,x12))
def Bk.j5 (x8:Int) (x9:List TreeChange) (x10:List TreeChange) (y8:File) (y13:Patch×Fault):Option (Step (Int×(List TreeChange)×(List TreeChange)) ((List TreeChange)×(List TreeChange))) :=
 if decide ((y13.1.Hunks.length:Int) > 0) then
(app? 88 x9 ([({ Kind:=4,Path:=y8.Path,To:=ByteArray.empty,Lines:=[],Patch:=y13.1 }:TreeChange)]:List TreeChange)).bind fun y14 =>
 Bk.j4 x8 x10 y14
 else
 Bk.j4 x8 x10 x9
def Bk.l2 (old_:FileTree) (newer:FileTree) (x8:Int) (x9:List TreeChange) (x10:List TreeChange):Option (Step (Int×(List TreeChange)×(List TreeChange)) ((List TreeChange)×(List TreeChange))) :=
 if decide (x8 < (old_.Files.length:Int)) then
(at? old_.Files x8).bind fun y8 =>
(Ca newer.Files y8.Path).bind fun y9 =>
 if !y9.2 then
(Gd y8.Lines).bind fun y10 =>
(app? 88 x10 ([({ Kind:=2,Path:=y8.Path,To:=ByteArray.empty,Lines:=y10,Patch:=({ Hunks:=[] }:Patch) }:TreeChange)]:List TreeChange)).bind fun y11 =>
 Bk.j4 x8 y11 x9
 else
(at? newer.Files y9.1).bind fun y12 =>
(C4 y8.Lines y12.Lines).bind fun y13 =>
 Bk.j5 x8 x9 x10 y8 y13
 else
 some (Step.done (x9,x10))
def Bk (old_:FileTree) (newer:FileTree):Option (TreePatch×Fault) :=
(C0 old_).bind fun y1 =>
 if !(decide (y1.Code=0) && decide (y1.Index=0)) then
 some (({ Changes:=[] }:TreePatch),y1)
 else
(Hm newer (-2)).bind fun y2 =>
 if !(decide (y2.Code=0) && decide (y2.Index=0)) then
 some (({ Changes:=[] }:TreePatch),y2)
 else
(Dm (fun s=>Bk.l2 old_ newer s.1 s.2.1 s.2.2) (0,[],[])).bind fun r2 =>
 Bk.j1 old_ newer r2.1 r2.2
def Dp.j1 (x1:Int) (x2:Int):Option Fault :=
 some ({ Code:=x1,Index:=x2 }:Fault)
def Dp (a_:FileTree) (b_:FileTree):Option Fault :=
(A8 a_).bind fun y1 =>
(if decide (y1.Code=0) then (A8 b_).bind fun y2 =>
 some (!decide (y2.Code=0)) else some false).bind fun x3 =>
 if x3 then
(A8 b_).bind fun y3 =>
(B2 y3.Code (-2)).bind fun y4 =>
 Dp.j1 y4.Code y4.Index
 else
 Dp.j1 y1.Code y1.Index
def Al.j3 (x3:List TreeChange):Option (TreePatch×Fault) :=
 if decide ((x3.length:Int) > 30) then
(B2 10 (-1)).bind fun y2 =>
 some (({ Changes:=[] }:TreePatch),y2)
 else
 some (({ Changes:=x3 }:TreePatch),({ Code:=0,Index:=0 }:Fault))
def Al.j4 (x4:Int) (x7:List TreeChange):Option (Step (Int×(List TreeChange)) (List TreeChange)) :=
(ckK .i64 (x4+1)).bind fun z1 =>
 some (Step.next (z1,x7))
def Al.l1 (a_:FileTree) (b_:FileTree) (x4:Int) (x5:List TreeChange):Option (Step (Int×(List TreeChange)) (List TreeChange)) :=
 if decide (x4 < (b_.Files.length:Int)) then
(at? b_.Files x4).bind fun y3 =>
(Cc a_ y3.Path).bind fun y4 =>
 if decide (y4 < 0) then
(at? b_.Files x4).bind fun y5 =>
(at? b_.Files x4).bind fun y6 =>
(app? 88 x5 ([({ Kind:=1,Path:=y5.Path,To:=ByteArray.empty,Lines:=y6.Lines,Patch:=({ Hunks:=[] }:Patch) }:TreeChange)]:List TreeChange)).bind fun y7 =>
 Al.j4 x4 y7
 else
 Al.j4 x4 x5
 else
 some (Step.done x5)
def Al.j2 (a_:FileTree) (b_:FileTree) (x2:List TreeChange):Option (TreePatch×Fault) :=
(Dm (fun s=>Al.l1 a_ b_ s.1 s.2) (0,x2)).bind fun r1 =>
 Al.j3 r1
def Al.j5 (x8:Int) (x11:List TreeChange):Option (Step (Int×(List TreeChange)) (List TreeChange)) :=
(ckK .i64 (x8+1)).bind fun z2 =>
 some (Step.next (z2,x11))
def Al.l2 (a_:FileTree) (b_:FileTree) (x8:Int) (x9:List TreeChange):Option (Step (Int×(List TreeChange)) (List TreeChange)) :=
 if decide (x8 < (b_.Files.length:Int)) then
(at? b_.Files x8).bind fun y8 =>
(Cc a_ y8.Path).bind fun y9 =>
(if decide (y9 ≥ 0) then (at? a_.Files y9).bind fun y10 =>
(at? b_.Files x8).bind fun y11 =>
(Ce y10.Lines y11.Lines).bind fun y12 =>
 some !y12 else some false).bind fun x12 =>
 if x12 then
(at? b_.Files x8).bind fun y13 =>
(at? a_.Files y9).bind fun y14 =>
(at? b_.Files x8).bind fun y15 =>
(Ga y14.Lines y15.Lines).bind fun y16 =>
(app? 88 x9 ([({ Kind:=4,Path:=y13.Path,To:=ByteArray.empty,Lines:=[],Patch:=y16 }:TreeChange)]:List TreeChange)).bind fun y17 =>
 Al.j5 x8 y17
 else
 Al.j5 x8 x9
 else
 some (Step.done x9)
def Al.j1 (a_:FileTree) (b_:FileTree) (x1:List TreeChange):Option (TreePatch×Fault) :=
(Dm (fun s=>Al.l2 a_ b_ s.1 s.2) (0,x1)).bind fun r2 =>
 Al.j2 a_ b_ r2
def Al.j6 (x13:Int) (x16:List TreeChange):Option (Step (Int×(List TreeChange)) (List TreeChange)) :=
(ckK .i64 (x13+1)).bind fun z3 =>
 some (Step.next (z3,x16))
def Al.l3 (a_:FileTree) (b_:FileTree) (x13:Int) (x14:List TreeChange):Option (Step (Int×(List TreeChange)) (List TreeChange)) :=
 if decide (x13 < (a_.Files.length:Int)) then
(at? a_.Files x13).bind fun y18 =>
(Cc b_ y18.Path).bind fun y19 =>
 if decide (y19 < 0) then
(at? a_.Files x13).bind fun y20 =>
(at? a_.Files x13).bind fun y21 =>
(app? 88 x14 ([({ Kind:=2,Path:=y20.Path,To:=ByteArray.empty,Lines:=y21.Lines,Patch:=({ Hunks:=[] }:Patch) }:TreeChange)]:List TreeChange)).bind fun y22 =>
 Al.j6 x13 y22
 else
 Al.j6 x13 x14
 else
 some (Step.done x14)
def Al (a_:FileTree) (b_:FileTree):Option (TreePatch×Fault) :=
(Dp a_ b_).bind fun y1 =>
 if !decide (y1.Code=0) then
 some (({ Changes:=[] }:TreePatch),y1)
 else
(Dm (fun s=>Al.l3 a_ b_ s.1 s.2) (0,[])).bind fun r3 =>
 Al.j1 a_ b_ r3
def Br.j1:Option Bool :=
 some true
def Br.l1 (a_:TreePatch) (b_:TreePatch) (x1:Int):Option (Step Int (Bool ⊕ Unit)) :=
 if decide (x1 < (a_.Changes.length:Int)) then
(at? a_.Changes x1).bind fun y1 =>
(at? b_.Changes x1).bind fun y2 =>
(En y1 y2).bind fun y3 =>
 if !y3 then
 some (Step.done (Sum.inl false))
 else
(ckK .i64 (x1+1)).bind fun z1 =>
 some (Step.next z1)
 else
 some (Step.done (Sum.inr ()))
def Br (a_:TreePatch) (b_:TreePatch):Option Bool :=
 if !decide ((a_.Changes.length:Int)=(b_.Changes.length:Int)) then
 some false
 else
(Dm (fun s=>Br.l1 a_ b_ s) 0).bind fun r1 =>
(match r1 with
| .inl p=>some p
| .inr _=>Br.j1)
def De.j1 (x1:Bool):Option Bool :=
 some x1
def De:Option Bool :=
(Hj ({ Kind:=3,Path:=(⟨#[97]⟩:ByteArray),To:=(⟨#[98]⟩:ByteArray),Lines:=[],Patch:=({ Hunks:=[] }:Patch) }:TreeChange)).bind fun y1 =>
(He (⟨#[97]⟩:ByteArray) ([(⟨#[120]⟩:ByteArray)]:List ByteArray)).bind fun y2 =>
(C8 y1 y2).bind fun y3 =>
 if decide (y3.2.Code=0) then
(He (⟨#[98]⟩:ByteArray) ([(⟨#[120]⟩:ByteArray)]:List ByteArray)).bind fun y4 =>
(Cm y3.1 y4).bind fun y5 =>
 if y5 then
(Ay (⟨#[97,47,98,46,103,111]⟩:ByteArray)).bind fun y6 =>
 if y6 then
(Ay (⟨#[47,97]⟩:ByteArray)).bind fun y7 =>
 De.j1 !y7
 else
 De.j1 false
 else
 De.j1 false
 else
 De.j1 false
def Dv (p_:TreePatch) (a_:FileTree) (b_:FileTree):Option Bool :=
(Cb p_).bind fun y1 =>
(A0 p_).bind fun y2 =>
(Bk a_ b_).bind fun y3 =>
(Al a_ b_).bind fun y4 =>
(Br y1.1 y2.1).bind fun y5 =>
(if y5 then some (decide (y1.2.Code=y2.2.Code) && decide (y1.2.Index=y2.2.Index)) else some false).bind fun x1 =>
(if x1 then (Br y3.1 y4.1).bind fun y6 =>
 some y6 else some false).bind fun x2 =>
(if x2 then some (decide (y3.2.Code=y4.2.Code) && decide (y3.2.Index=y4.2.Index)) else some false).bind fun x3 =>
(if x3 then (De).bind fun y7 =>
 some y7 else some false).bind fun x4 =>
 some x4
def Ea.j1 (x1:Int):Option (Int×Fault) :=
 some (x1,({ Code:=0,Index:=0 }:Fault))
def Ea.j2 (x2:Int) (x5:Int):Option (Step (Int×Int) Int) :=
(ckK .i64 (x2+1)).bind fun z1 =>
 some (Step.next (z1,x5))
def Ea.l1 (y2:(List Int)) (x2:Int) (x3:Int):Option (Step (Int×Int) Int) :=
 if decide (x2 < (y2.length:Int)) then
(at? y2 x2).bind fun y3 =>
 if !decide (y3=0) then
(ckK .i64 (x3+1)).bind fun z2 =>
 Ea.j2 x2 z2
 else
 Ea.j2 x2 x3
 else
 some (Step.done x3)
def Ea (a_:(List ByteArray)) (b_:(List ByteArray)):Option (Int×Fault) :=
(K8 a_ b_).bind fun y1 =>
 if !(decide (y1.Code=0) && decide (y1.Index=0)) then
 some (0,y1)
 else
(B5 a_ b_).bind fun y2 =>
(Dm (fun s=>Ea.l1 y2 s.1 s.2) (0,0)).bind fun r1 =>
 Ea.j1 r1
def Om (a_:(List ByteArray)) (b_:(List ByteArray)):Option (Int×Fault) :=
(Ea a_ b_).bind fun y1 =>
 if !(decide (y1.2.Code=0) && decide (y1.2.Index=0)) then
 some (0,y1.2)
 else
(ckK .i64 ((a_.length:Int)+(b_.length:Int))).bind fun z1 =>
 if decide (z1=0) then
 some (100,({ Code:=0,Index:=0 }:Fault))
 else
(ckK .i64 (z1 - y1.1)).bind fun z2 =>
(ckK .i64 (100 * z2)).bind fun z3 =>
(quo? .i64 z3 z1).bind fun z4 =>
 some (z4,({ Code:=0,Index:=0 }:Fault))
end Go.Dc
