import Derived.Test.YtkcnbopeghkdlaaGreatDoorDcTy
import Derived.Test.YtkcnbopeghkdlaaGreatDoorDcR
import Derived.Test.YtkcnbopeghkdlaaGreatDoorDcRS
noncomputable section
namespace Go.Dc
open Go
set_option linter.unusedVariables false
def O0 (n_:Int):Option Bool :=
(if decide (n_ ≥ 1) then some (decide (n_≤1000000000)) else some false).bind fun x1 =>
 some x1
def Lp (s_:ByteArray) (c_:Int):Option Int :=
 some (idxB s_ c_)
def Tk (s_:ByteArray):Option Int :=
 if decide ((⟨#[47]⟩:ByteArray)=s_) then
 some 0
 else
(sAt? (⟨#[47]⟩:ByteArray) 0).bind fun y1 =>
(Lp s_ y1).bind fun y2 =>
 some y2
def Uj (s_:ByteArray):Option Int :=
(Tk s_).bind fun y1 =>
 some y1
def Mx (c_:Int):Option Bool :=
(if decide (c_ ≥ 97) then some (decide (c_≤122)) else some false).bind fun x1 =>
(if x1 then some true else (if decide (c_ ≥ 65) then some (decide (c_≤90)) else some false).bind fun x3 =>
 some x3).bind fun x2 =>
(if x2 then some true else (if decide (c_ ≥ 48) then some (decide (c_≤57)) else some false).bind fun x5 =>
 some x5).bind fun x4 =>
(if x4 then some true else some (decide (c_=46))).bind fun x6 =>
(if x6 then some true else some (decide (c_=95))).bind fun x7 =>
(if x7 then some true else some (decide (c_=45))).bind fun x8 =>
 some x8
def A8.j2:Option Bool :=
 some false
def A8.j3:Option Bool :=
 some true
def A8.j4:Option Bool :=
 A8.j3
def A8.l1 (x1:ByteArray) (x4:Int):Option (Step Int (Unit ⊕ Unit)) :=
 if decide (x4 < (x1.size:Int)) then
(sAt? x1 x4).bind fun y1 =>
(Mx y1).bind fun y2 =>
 if !y2 then
 some (Step.done (Sum.inl ()))
 else
(ckK .i64 (x4+1)).bind fun z1 =>
 some (Step.next z1)
 else
 some (Step.done (Sum.inr ()))
def A8.j1 (x1:ByteArray):Option Bool :=
(if decide (x1=(⟨#[]⟩:ByteArray)) then some true else some (decide (x1=(⟨#[46]⟩:ByteArray)))).bind fun x2 =>
(if x2 then some true else some (decide (x1=(⟨#[46,46]⟩:ByteArray)))).bind fun x3 =>
 if x3 then
 A8.j2
 else
(Gk (fun s=>A8.l1 x1 s) 0).bind fun r1 =>
(match r1 with
| .inl _=>A8.j2
| .inr _=>A8.j4)
def A8.j5:Option (Step ByteArray (Bool ⊕ ByteArray)) :=
 some (Step.done (Sum.inl false))
def A8.j6 (x6:ByteArray) (y3:Int):Option (Step ByteArray (Bool ⊕ ByteArray)) :=
(ckK .i64 (y3+1)).bind fun z3 =>
(scut? x6 z3 (x6.size:Int)).bind fun y5 =>
 some (Step.next y5)
def A8.j7 (x6:ByteArray) (y3:Int):Option (Step ByteArray (Bool ⊕ ByteArray)) :=
 A8.j6 x6 y3
def A8.l3 (y4:ByteArray) (x10:Int):Option (Step Int (Unit ⊕ Unit)) :=
 if decide (x10 < (y4.size:Int)) then
(sAt? y4 x10).bind fun y6 =>
(Mx y6).bind fun y7 =>
 if !y7 then
 some (Step.done (Sum.inl ()))
 else
(ckK .i64 (x10+1)).bind fun z4 =>
 some (Step.next z4)
 else
 some (Step.done (Sum.inr ()))
def A8.l2 (x6:ByteArray):Option (Step ByteArray (Bool ⊕ ByteArray)) :=
(Uj x6).bind fun y3 =>
 if decide (y3 < 0) then
 some (Step.done (Sum.inr x6))
 else
(ckK .i64 (y3+0)).bind fun z2 =>
(scut? x6 0 z2).bind fun y4 =>
(if decide (y4=(⟨#[]⟩:ByteArray)) then some true else some (decide (y4=(⟨#[46]⟩:ByteArray)))).bind fun x8 =>
(if x8 then some true else some (decide (y4=(⟨#[46,46]⟩:ByteArray)))).bind fun x9 =>
 if x9 then
 A8.j5
 else
(Gk (fun s=>A8.l3 y4 s) 0).bind fun r3 =>
(match r3 with
| .inl _=>A8.j5
| .inr _=>A8.j7 x6 y3)
def A8 (path:ByteArray):Option Bool :=
 if decide ((path.size:Int) > 60) then
 some false
 else
(Gk (fun s=>A8.l2 s) path).bind fun r2 =>
(match r2 with
| .inl p=>some p
| .inr p=>A8.j1 p)
def Oa (s_:ByteArray) (prefix_:ByteArray):Option Bool :=
(if decide ((s_.size:Int) ≥ (prefix_.size:Int)) then (scut? s_ 0 (prefix_.size:Int)).bind fun y1 =>
 some (decide (y1=prefix_)) else some false).bind fun x1 =>
 some x1
def Na (s_:ByteArray) (prefix_:ByteArray):Option Bool :=
(Oa s_ prefix_).bind fun y1 =>
 some y1
def Ln (a_:ByteArray) (b_:ByteArray):Option Bool :=
(if decide (a_=b_) then some true else (cat? b_ (⟨#[47]⟩:ByteArray)).bind fun z1 =>
(Na a_ z1).bind fun y1 =>
 some y1).bind fun x1 =>
(if x1 then some true else (cat? a_ (⟨#[47]⟩:ByteArray)).bind fun z2 =>
(Na b_ z2).bind fun y2 =>
 some y2).bind fun x2 =>
 some x2
def Om (s_:ByteArray) (c_:Int):Option Int :=
(Lp s_ c_).bind fun y1 =>
 some y1
def Ez.j1:Option Fault :=
 some ({ Code:=0,Index:=0 }:Fault)
def Ez.l1 (lines:Ag) (x1:Int):Option (Step Int (Fault ⊕ Unit)) :=
 if decide (x1 < (lines.length:Int)) then
(at? lines x1).bind fun y1 =>
 if decide ((y1.size:Int) > 80) then
 some (Step.done (Sum.inl ({ Code:=2,Index:=x1 }:Fault)))
 else
(Om y1 10).bind fun y2 =>
 if decide (y2 ≥ 0) then
 some (Step.done (Sum.inl ({ Code:=5,Index:=x1 }:Fault)))
 else
(ckK .i64 (x1+1)).bind fun z1 =>
 some (Step.next z1)
 else
 some (Step.done (Sum.inr ()))
def Ez (lines:Ag):Option Fault :=
 if decide ((lines.length:Int) > 120) then
 some ({ Code:=2,Index:=(-1) }:Fault)
 else
(Gk (fun s=>Ez.l1 lines s) 0).bind fun r1 =>
(match r1 with
| .inl p=>some p
| .inr _=>Ez.j1)
def My (h_:Hunk):Option Int :=
(ckK .i64 (h_.At+(h_.Old.length:Int))).bind fun z1 =>
 some z1
def G4.j1 (h_:Hunk) (end_:Int):Option Int :=
(ckK .i64 ((h_.Old.length:Int)+(h_.New.length:Int))).bind fun z1 =>
(if decide (z1=0) then some true else some (decide (h_.At≤end_))).bind fun x2 =>
 if x2 then
 some 5
 else
(My h_).bind fun y1 =>
 if decide (y1 > 120) then
 some 3
 else
 some 0
def G4.l1 (h_:Hunk) (x3:Int):Option (Step Int (Int ⊕ Unit)) :=
 if decide (x3 < 2) then
(at? ([h_.Old,h_.New]:List Ag) x3).bind fun y2 =>
(Ez y2).bind fun y3 =>
 if !(decide (y3.Code=0) && decide (y3.Index=0)) then
 some (Step.done (Sum.inl y3.Code))
 else
(ckK .i64 (x3+1)).bind fun z2 =>
 some (Step.next z2)
 else
 some (Step.done (Sum.inr ()))
def G4 (h_:Hunk) (end_:Int):Option Int :=
(if decide (h_.At < 0) then some true else some (decide (h_.At > 120))).bind fun x1 =>
 if x1 then
 some 3
 else
(Gk (fun s=>G4.l1 h_ s) 0).bind fun r1 =>
(match r1 with
| .inl p=>some p
| .inr _=>G4.j1 h_ end_)
def Em.j1:Option Fault :=
 some ({ Code:=0,Index:=0 }:Fault)
def Em.l1 (p_:Patch) (x1:Int) (x2:Int):Option (Step (Int×Int) (Fault ⊕ Unit)) :=
 if decide (x1 < (p_.Hunks.length:Int)) then
(at? p_.Hunks x1).bind fun y1 =>
(G4 y1 x2).bind fun y2 =>
 if !decide (y2=0) then
 some (Step.done (Sum.inl ({ Code:=y2,Index:=x1 }:Fault)))
 else
(My y1).bind fun y3 =>
(ckK .i64 (x1+1)).bind fun z1 =>
 some (Step.next (z1,y3))
 else
 some (Step.done (Sum.inr ()))
def Em (p_:Patch):Option Fault :=
 if decide ((p_.Hunks.length:Int) > 130) then
 some ({ Code:=2,Index:=(-1) }:Fault)
 else
(Gk (fun s=>Em.l1 p_ s.1 s.2) (0,(-1))).bind fun r1 =>
(match r1 with
| .inl p=>some p
| .inr _=>Em.j1)
def Tb (c_:TreeChange):Option Int :=
(if decide (c_.Kind < 1) then some true else some (decide (c_.Kind > 4))).bind fun x1 =>
 if x1 then
 some 4
 else
(A8 c_.Path).bind fun y1 =>
(if !y1 then some true else (if decide (c_.Kind=3) then (A8 c_.To).bind fun y2 =>
 some !y2 else some false).bind fun x3 =>
 some x3).bind fun x2 =>
 if x2 then
 some 12
 else
(if !(decide (c_.Kind=3)) then some (!decide (c_.To=(⟨#[]⟩:ByteArray))) else some false).bind fun x4 =>
(if x4 then some true else (if decide (c_.Kind=3) then (Ln c_.Path c_.To).bind fun y3 =>
 some y3 else some false).bind fun x6 =>
 some x6).bind fun x5 =>
 if x5 then
 some 5
 else
(if decide ((c_.Lines.length:Int) > 0) then (if decide (c_.Kind=4) then some true else some (decide (c_.Kind=3))).bind fun x8 =>
 some x8 else some false).bind fun x7 =>
 if x7 then
 some 5
 else
 if !decide (decide (c_.Kind=4)=decide ((c_.Patch.Hunks.length:Int) > 0)) then
 some 5
 else
(Ez c_.Lines).bind fun y4 =>
 if !(decide (y4.Code=0) && decide (y4.Index=0)) then
 some y4.Code
 else
(Em c_.Patch).bind fun y5 =>
 some y5.Code
def Dy.j1:Option Fault :=
 some ({ Code:=0,Index:=0 }:Fault)
def Dy.l1 (p_:TreePatch) (x1:Int):Option (Step Int (Fault ⊕ Unit)) :=
 if decide (x1 < (p_.Changes.length:Int)) then
(at? p_.Changes x1).bind fun y1 =>
(Tb y1).bind fun y2 =>
 if !decide (y2=0) then
 some (Step.done (Sum.inl ({ Code:=y2,Index:=x1 }:Fault)))
 else
(ckK .i64 (x1+1)).bind fun z1 =>
 some (Step.next z1)
 else
 some (Step.done (Sum.inr ()))
def Dy (p_:TreePatch):Option Fault :=
 if decide ((p_.Changes.length:Int) > 30) then
 some ({ Code:=2,Index:=(-1) }:Fault)
 else
(Gk (fun s=>Dy.l1 p_ s) 0).bind fun r1 =>
(match r1 with
| .inl p=>some p
| .inr _=>Dy.j1)
def D9.j2 (e_:ForgeEvent) (developers:Int) (x3:Bool):Option Int :=
 if x3 then
(if decide (e_.User < 0) then some true else some (decide (e_.User ≥ developers))).bind fun x4 =>
(if x4 then some true else (if decide (e_.Kind=3) then (O0 e_.Key).bind fun y1 =>
 some !y1 else some false).bind fun x6 =>
 some x6).bind fun x5 =>
 if x5 then
 some 3
 else
 if decide (e_.Kind=2) then
(Dy e_.Patch).bind fun y2 =>
 some y2.Code
 else
 some 0
 else
 some 4
def D9.j1 (e_:ForgeEvent) (developers:Int) (x1:Bool):Option Int :=
 if x1 then
(if decide (e_.N < 0) then some true else some (decide (e_.N > 1000000000))).bind fun x2 =>
 if x2 then
 some 3
 else
 some 0
 else
 if decide (e_.Kind=1) then
 D9.j2 e_ developers (decide (e_.Kind=1))
 else
 if decide (e_.Kind=2) then
 D9.j2 e_ developers (decide (e_.Kind=2))
 else
 if decide (e_.Kind=3) then
 D9.j2 e_ developers (decide (e_.Kind=3))
 else
 D9.j2 e_ developers (decide (e_.Kind=8))
def D9 (e_:ForgeEvent) (developers:Int):Option Int :=
 if decide (e_.Kind=4) then
 D9.j1 e_ developers (decide (e_.Kind=4))
 else
 if decide (e_.Kind=5) then
 D9.j1 e_ developers (decide (e_.Kind=5))
 else
 if decide (e_.Kind=6) then
 D9.j1 e_ developers (decide (e_.Kind=6))
 else
 D9.j1 e_ developers (decide (e_.Kind=7))
def Ek.j2:Option Fault :=
 some ({ Code:=0,Index:=0 }:Fault)
def Ek.l1 (keys:(List Int)) (events:B1) (x2:Int):Option (Step Int (Fault ⊕ Unit)) :=
 if decide (x2 < (events.length:Int)) then
(at? events x2).bind fun y1 =>
(D9 y1 (keys.length:Int)).bind fun y2 =>
 if !decide (y2=0) then
 some (Step.done (Sum.inl ({ Code:=y2,Index:=x2 }:Fault)))
 else
(ckK .i64 (x2+1)).bind fun z1 =>
 some (Step.next z1)
 else
 some (Step.done (Sum.inr ()))
def Ek.j1 (keys:(List Int)) (events:B1):Option Fault :=
 if decide ((events.length:Int) > 40) then
 some ({ Code:=2,Index:=(-1) }:Fault)
 else
(Gk (fun s=>Ek.l1 keys events s) 0).bind fun r1 =>
(match r1 with
| .inl p=>some p
| .inr _=>Ek.j2)
def Ek.l2 (keys:(List Int)) (x4:Int):Option (Step Int (Fault ⊕ Unit)) :=
 if decide (x4 < (keys.length:Int)) then
(at? keys x4).bind fun y3 =>
(O0 y3).bind fun y4 =>
 if !y4 then
(ckK .i64 ((-3) - x4)).bind fun z2 =>
 some (Step.done (Sum.inl ({ Code:=3,Index:=z2 }:Fault)))
 else
(ckK .i64 (x4+1)).bind fun z3 =>
 some (Step.next z3)
 else
 some (Step.done (Sum.inr ()))
def Ek (keys:(List Int)) (events:B1):Option Fault :=
(if decide ((keys.length:Int)=0) then some true else some (decide ((keys.length:Int) > 4))).bind fun x1 =>
 if x1 then
 some ({ Code:=9,Index:=(-2) }:Fault)
 else
(Gk (fun s=>Ek.l2 keys s) 0).bind fun r2 =>
(match r2 with
| .inl p=>some p
| .inr _=>Ek.j1 keys events)
def Kz (s_:State_forge):Option FileTree :=
(ckK .i64 ((s_.versions.length:Int) - 1)).bind fun z1 =>
(at? s_.versions z1).bind fun y1 =>
 some y1
def Ho.j1:Option Bool :=
 some true
def Ho.l1 (s1_:Ag) (s2_:Ag) (x1:Int):Option (Step Int (Bool ⊕ Unit)) :=
 if decide (x1 < (s1_.length:Int)) then
(at? s1_ x1).bind fun y1 =>
(at? s2_ x1).bind fun y2 =>
 if !decide (y1=y2) then
 some (Step.done (Sum.inl false))
 else
(ckK .i64 (x1+1)).bind fun z1 =>
 some (Step.next z1)
 else
 some (Step.done (Sum.inr ()))
def Ho (s1_:Ag) (s2_:Ag):Option Bool :=
 if !decide ((s1_.length:Int)=(s2_.length:Int)) then
 some false
 else
(Gk (fun s=>Ho.l1 s1_ s2_ s) 0).bind fun r1 =>
(match r1 with
| .inl p=>some p
| .inr _=>Ho.j1)
def Ox (x_:File) (y:File):Option Bool :=
(if decide (x_.Path=y.Path) then (Ho x_.Lines y.Lines).bind fun y1 =>
 some y1 else some false).bind fun x1 =>
 some x1
def Gp.j1 (x1:Bool):Option Bool :=
 some x1
def Gp.j2:Option Bool :=
 Gp.j1 true
def Gp.l1 (a_:FileTree) (b_:FileTree) (x2:Int):Option (Step Int (Bool ⊕ Unit)) :=
 if decide (x2 < (a_.Files.length:Int)) then
(at? a_.Files x2).bind fun y1 =>
(at? b_.Files x2).bind fun y2 =>
(Ox y1 y2).bind fun y3 =>
 if !y3 then
 some (Step.done (Sum.inl false))
 else
(ckK .i64 (x2+1)).bind fun z1 =>
 some (Step.next z1)
 else
 some (Step.done (Sum.inr ()))
def Gp (a_:FileTree) (b_:FileTree):Option Bool :=
 if !decide ((a_.Files.length:Int)=(b_.Files.length:Int)) then
 Gp.j1 false
 else
(Gk (fun s=>Gp.l1 a_ b_ s) 0).bind fun r1 =>
(match r1 with
| .inl p=>Gp.j1 p
| .inr _=>Gp.j2)
def Nm (s_:Ag):Option Ag :=
 nilIf s_ (
 some []) (
(app? 16 ([]:Ag) s_).bind fun y1 =>
 some y1)
def Eo.j1 (x1:Ao):Option FileTree :=
 some ({ Files:=x1 }:FileTree)
def Eo.l1 (t_:FileTree) (x2:Int) (x3:Ao):Option (Step (Int×Ao) Ao) :=
 if decide (x2 < (t_.Files.length:Int)) then
(at? t_.Files x2).bind fun y1 =>
(Nm y1.Lines).bind fun y2 =>
(app? 40 x3 ([({ Path:=y1.Path,Lines:=y2 }:File)]:Ao)).bind fun y3 =>
(ckK .i64 (x2+1)).bind fun z1 =>
 some (Step.next (z1,y3))
 else
 some (Step.done x3)
def Eo (t_:FileTree):Option FileTree :=
(Gk (fun s=>Eo.l1 t_ s.1 s.2) (0,[])).bind fun r1 =>
 Eo.j1 r1
def El.j1:Option Bool :=
 some false
def El.l1 (files:Ao) (path:ByteArray) (except:Int) (x1:Int):Option (Step Int (Bool ⊕ Unit)) :=
 if decide (x1 < (files.length:Int)) then
(at? files x1).bind fun y1 =>
(if !decide (x1=except) then (Ln y1.Path path).bind fun y2 =>
 some y2 else some false).bind fun x3 =>
 if x3 then
 some (Step.done (Sum.inl true))
 else
(ckK .i64 (x1+1)).bind fun z1 =>
 some (Step.next z1)
 else
 some (Step.done (Sum.inr ()))
def El (files:Ao) (path:ByteArray) (except:Int):Option Bool :=
(Gk (fun s=>El.l1 files path except s) 0).bind fun r1 =>
(match r1 with
| .inl p=>some p
| .inr _=>El.j1)
def M0 (b_:Ag) (index:Int):Option Fault :=
(Ez b_).bind fun y1 =>
 if !(decide (y1.Code=0) && decide (y1.Index=0)) then
 some ({ Code:=y1.Code,Index:=index }:Fault)
 else
 some ({ Code:=0,Index:=0 }:Fault)
def Gc.j1:Option Fault :=
 some ({ Code:=0,Index:=0 }:Fault)
def Gc.l1 (t_:FileTree) (x1:Int):Option (Step Int (Fault ⊕ Unit)) :=
 if decide (x1 < (t_.Files.length:Int)) then
(at? t_.Files x1).bind fun y1 =>
(A8 y1.Path).bind fun y2 =>
 if !y2 then
 some (Step.done (Sum.inl ({ Code:=12,Index:=x1 }:Fault)))
 else
(if decide (x1 > 0) then (ckK .i64 (x1 - 1)).bind fun z1 =>
(at? t_.Files z1).bind fun y3 =>
 some (sLt y1.Path y3.Path || decide (y1.Path=y3.Path)) else some false).bind fun x3 =>
 if x3 then
 some (Step.done (Sum.inl ({ Code:=5,Index:=x1 }:Fault)))
 else
(cut? t_.Files 0 x1).bind fun y4 =>
(El y4 y1.Path (-1)).bind fun y5 =>
 if y5 then
 some (Step.done (Sum.inl ({ Code:=7,Index:=x1 }:Fault)))
 else
(M0 y1.Lines x1).bind fun y6 =>
 if !(decide (y6.Code=0) && decide (y6.Index=0)) then
 some (Step.done (Sum.inl y6))
 else
(ckK .i64 (x1+1)).bind fun z2 =>
 some (Step.next z2)
 else
 some (Step.done (Sum.inr ()))
def Gc (t_:FileTree):Option Fault :=
 if decide ((t_.Files.length:Int) > 24) then
 some ({ Code:=2,Index:=(-1) }:Fault)
 else
(Gk (fun s=>Gc.l1 t_ s) 0).bind fun r1 =>
(match r1 with
| .inl p=>some p
| .inr _=>Gc.j1)
def Nt (t_:FileTree) (index:Int):Option Fault :=
(Gc t_).bind fun y1 =>
 if !(decide (y1.Code=0) && decide (y1.Index=0)) then
 some ({ Code:=y1.Code,Index:=index }:Fault)
 else
 some ({ Code:=0,Index:=0 }:Fault)
def Tj (a_:ByteArray) (b_:ByteArray):Option Int :=
 some (cmpB a_ b_)
def W4 (a_:ByteArray) (b_:ByteArray):Option Int :=
(Tj a_ b_).bind fun y1 =>
 some y1
def Oj (f:File) (path:ByteArray):Option Int :=
(W4 f.Path path).bind fun y1 =>
 some y1
def Dw.j1 (files:Ao) (path:ByteArray) (x1:Int):Option (Int×Bool) :=
(if decide (x1 < (files.length:Int)) then (at? files x1).bind fun y1 =>
(Oj y1 path).bind fun y2 =>
 some (decide (y2=0)) else some false).bind fun x2 =>
 some (x1,x2)
def Dw.l1 (files:Ao) (path:ByteArray) (x3:Int) (x4:Int):Option (Step (Int×Int) Int) :=
 if decide (x4 < x3) then
(ckK .i64 (x4+x3)).bind fun z1 =>
(ckK .u64 z1).bind fun z2 =>
(shr? .u64 z2 1).bind fun z3 =>
(ckK .i64 z3).bind fun z4 =>
(at? files z4).bind fun y3 =>
(Oj y3 path).bind fun y4 =>
 if decide (y4 < 0) then
(ckK .i64 (z4+1)).bind fun z5 =>
 some (Step.next (x3,z5))
 else
 some (Step.next (z4,x4))
 else
 some (Step.done x4)
def Dw (files:Ao) (path:ByteArray):Option (Int×Bool) :=
(Gk (fun s=>Dw.l1 files path s.1 s.2) ((files.length:Int),0)).bind fun r1 =>
 Dw.j1 files path r1
def Kh.j1 (l_:Ag) (y1:Int×Bool) (x1:Ao):Option FileTree :=
(Nm l_).bind fun y2 =>
(at? x1 y1.1).bind fun y3 =>
(some (x1.set y1.1.toNat ({ Path:=y3.Path,Lines:=y2 }:File))).bind fun y4 =>
 some ({ Files:=y4 }:FileTree)
def Kh (t_:FileTree) (path:ByteArray) (l_:Ag):Option FileTree :=
(Dw t_.Files path).bind fun y1 =>
 if !y1.2 then
(ins? 40 t_.Files y1.1 ([({ Path:=path,Lines:=[] }:File)]:Ao)).bind fun y5 =>
 Kh.j1 l_ y1 y5
 else
 Kh.j1 l_ y1 t_.Files
def T0 (text:Ag) (part:Ag) (at_:Int):Option Bool :=
(if decide (at_ ≥ 0) then some (decide (at_≤(text.length:Int))) else some false).bind fun x1 =>
(if x1 then (ckK .i64 ((text.length:Int) - at_)).bind fun z1 =>
 some (decide ((part.length:Int)≤z1)) else some false).bind fun x2 =>
(if x2 then (ckK .i64 (at_+(part.length:Int))).bind fun z2 =>
(cut? text at_ z2).bind fun y1 =>
(Ho y1 part).bind fun y2 =>
 some y2 else some false).bind fun x3 =>
 some x3
def Ei.j1 (text:Ag) (high:Int) (x1:Ag) (x2:Int):Option Ag :=
(cut? text x2 high).bind fun y1 =>
(app? 16 x1 y1).bind fun y2 =>
 some y2
def Ei.l1 (hunks:Bx) (text:Ag) (x3:Int) (x4:Ag) (x5:Int):Option (Step (Int×Ag×Int) (Ag×Int)) :=
 if decide (x3 < (hunks.length:Int)) then
(at? hunks x3).bind fun y3 =>
(cut? text x5 y3.At).bind fun y4 =>
(app? 16 x4 y4).bind fun y5 =>
(app? 16 y5 y3.New).bind fun y6 =>
(My y3).bind fun y7 =>
(ckK .i64 (x3+1)).bind fun z1 =>
 some (Step.next (z1,y6,y7))
 else
 some (Step.done (x4,x5))
def Ei (hunks:Bx) (text:Ag) (low:Int) (high:Int):Option Ag :=
(Gk (fun s=>Ei.l1 hunks text s.1 s.2.1 s.2.2) (0,[],low)).bind fun r1 =>
 Ei.j1 text high r1.1 r1.2
def G1.j1 (p_:Patch) (text:Ag):Option (Ag×Fault) :=
(Ei p_.Hunks text 0 (text.length:Int)).bind fun y3 =>
 if decide ((y3.length:Int) > 120) then
 some ([],({ Code:=10,Index:=(-1) }:Fault))
 else
 some (y3,({ Code:=0,Index:=0 }:Fault))
def G1.l1 (p_:Patch) (text:Ag) (x1:Int):Option (Step Int ((Ag×Fault) ⊕ Unit)) :=
 if decide (x1 < (p_.Hunks.length:Int)) then
(at? p_.Hunks x1).bind fun y4 =>
(T0 text y4.Old y4.At).bind fun y5 =>
 if !y5 then
 some (Step.done (Sum.inl ([],({ Code:=19,Index:=x1 }:Fault))))
 else
(ckK .i64 (x1+1)).bind fun z1 =>
 some (Step.next z1)
 else
 some (Step.done (Sum.inr ()))
def G1 (p_:Patch) (text:Ag):Option (Ag×Fault) :=
(Em p_).bind fun y1 =>
 if !(decide (y1.Code=0) && decide (y1.Index=0)) then
 some ([],y1)
 else
(M0 text (-2)).bind fun y2 =>
 if !(decide (y2.Code=0) && decide (y2.Index=0)) then
 some ([],y2)
 else
(Gk (fun s=>G1.l1 p_ text s) 0).bind fun r1 =>
(match r1 with
| .inl p=>some p
| .inr _=>G1.j1 p_ text)
def Lb.j1 (x1:Ao):Option (Int×FileTree) :=
 some (0,({ Files:=x1 }:FileTree))
def Lb (c_:TreeChange) (t_:FileTree):Option (Int×FileTree) :=
(Dw t_.Files c_.Path).bind fun y1 =>
 if decide (c_.Kind=1) then
(El t_.Files c_.Path (-1)).bind fun y2 =>
 if y2 then
 some (7,t_)
 else
 if decide ((t_.Files.length:Int) ≥ 24) then
 some (14,t_)
 else
(Kh t_ c_.Path c_.Lines).bind fun y3 =>
 some (0,y3)
 else
 if !y1.2 then
 some (6,t_)
 else
(at? t_.Files y1.1).bind fun y4 =>
 if decide (c_.Kind=2) then
(Ho y4.Lines c_.Lines).bind fun y5 =>
 if !y5 then
 some (19,t_)
 else
(ckK .i64 (y1.1+1)).bind fun z1 =>
(del? t_.Files y1.1 z1).bind fun y6 =>
 Lb.j1 y6
 else
 if decide (c_.Kind=3) then
(El t_.Files c_.To y1.1).bind fun y7 =>
 if y7 then
 some (7,t_)
 else
(ckK .i64 (y1.1+1)).bind fun z2 =>
(del? t_.Files y1.1 z2).bind fun y8 =>
(Kh ({ Files:=y8 }:FileTree) c_.To y4.Lines).bind fun y9 =>
 Lb.j1 y9.Files
 else
(G1 c_.Patch y4.Lines).bind fun y10 =>
 if !(decide (y10.2.Code=0) && decide (y10.2.Index=0)) then
 some (y10.2.Code,t_)
 else
(at? t_.Files y1.1).bind fun y11 =>
(some (t_.Files.set y1.1.toNat ({ Path:=y11.Path,Lines:=y10.1 }:File))).bind fun y12 =>
 Lb.j1 y12
def Gu.j1 (x1:Ao):Option (FileTree×Fault) :=
 some (({ Files:=x1 }:FileTree),({ Code:=0,Index:=0 }:Fault))
def Gu.l1 (p_:TreePatch) (x2:Int) (x3:Ao):Option (Step (Int×Ao) ((FileTree×Fault) ⊕ Ao)) :=
 if decide (x2 < (p_.Changes.length:Int)) then
(at? p_.Changes x2).bind fun y4 =>
(Lb y4 ({ Files:=x3 }:FileTree)).bind fun y5 =>
 if !decide (y5.1=0) then
 some (Step.done (Sum.inl (({ Files:=[] }:FileTree),({ Code:=y5.1,Index:=x2 }:Fault))))
 else
(ckK .i64 (x2+1)).bind fun z1 =>
 some (Step.next (z1,y5.2.Files))
 else
 some (Step.done (Sum.inr x3))
def Gu (p_:TreePatch) (t_:FileTree):Option (FileTree×Fault) :=
(Dy p_).bind fun y1 =>
 if !(decide (y1.Code=0) && decide (y1.Index=0)) then
 some (({ Files:=[] }:FileTree),y1)
 else
(Nt t_ (-2)).bind fun y2 =>
 if !(decide (y2.Code=0) && decide (y2.Index=0)) then
 some (({ Files:=[] }:FileTree),y2)
 else
(Eo t_).bind fun y3 =>
(Gk (fun s=>Gu.l1 p_ s.1 s.2) (0,y3.Files)).bind fun r1 =>
(match r1 with
| .inl p=>some p
| .inr p=>Gu.j1 p)
def Uz (a_:Ag) (b_:Ag):Option Fault :=
(Ez a_).bind fun y1 =>
 if !(decide (y1.Code=0) && decide (y1.Index=0)) then
 some y1
 else
(M0 b_ (-2)).bind fun y2 =>
 some y2
def M1 (i_:Int) (j:Int) (u2:(List Int)) (u3:Int):Option Int :=
(ckK .i64 (i_ * u3)).bind fun z1 =>
(ckK .i64 (z1+j)).bind fun z2 =>
(at? u2 z2).bind fun y1 =>
 some y1
def Dp.j2 (x2:List Int):Option (List Int) :=
 some x2
def Dp.l1 (a_:Ag) (b_:Ag) (z1:Int) (x1:List Int) (x3:Int) (x4:Int) (x5:List Int):Option (Step (Int×Int×(List Int)) (List Int)) :=
(if decide (x4 < (a_.length:Int)) then some true else some (decide (x3 < (b_.length:Int)))).bind fun x7 =>
 if x7 then
(if decide (x4 < (a_.length:Int)) then some (decide (x3 < (b_.length:Int))) else some false).bind fun x8 =>
(if x8 then (at? a_ x4).bind fun y2 =>
(at? b_ x3).bind fun y3 =>
 some (decide (y2=y3)) else some false).bind fun x9 =>
 if x9 then
(app? 8 x5 ([0]:List Int)).bind fun y4 =>
(ckK .i64 (x4+1)).bind fun z4 =>
(ckK .i64 (x3+1)).bind fun z5 =>
 some (Step.next (z5,z4,y4))
 else
(if decide (x3=(b_.length:Int)) then some true else (if decide (x4 < (a_.length:Int)) then (ckK .i64 (x4+1)).bind fun z6 =>
(M1 z6 x3 x1 z1).bind fun y5 =>
(ckK .i64 (x3+1)).bind fun z7 =>
(M1 x4 z7 x1 z1).bind fun y6 =>
 some (decide (y5 ≥ y6)) else some false).bind fun x11 =>
 some x11).bind fun x10 =>
 if x10 then
(app? 8 x5 ([1]:List Int)).bind fun y7 =>
(ckK .i64 (x4+1)).bind fun z8 =>
 some (Step.next (x3,z8,y7))
 else
(app? 8 x5 ([2]:List Int)).bind fun y8 =>
(ckK .i64 (x3+1)).bind fun z9 =>
 some (Step.next (z9,x4,y8))
 else
 some (Step.done x5)
def Dp.j1 (a_:Ag) (b_:Ag) (z1:Int) (x1:List Int):Option (List Int) :=
(Gk (fun s=>Dp.l1 a_ b_ z1 x1 s.1 s.2.1 s.2.2) (0,0,[])).bind fun r1 =>
 Dp.j2 r1
def Dp.j3 (x12:Int) (x15:List Int):Option (Step (Int×(List Int)) (List Int)) :=
(ckK .i64 (x12 - 1)).bind fun z11 =>
 some (Step.next (z11,x15))
def Dp.j4 (x12:Int) (x16:List Int):Option (Step (Int×(List Int)) (List Int)) :=
 Dp.j3 x12 x16
def Dp.j5 (z1:Int) (x12:Int) (x17:Int) (x18:List Int) (x20:Int):Option (Step (Int×(List Int)) (List Int)) :=
(ckK .i64 (x12 * z1)).bind fun z15 =>
(ckK .i64 (z15+x17)).bind fun z16 =>
(at? x18 z16).bind fun y11 =>
(some (x18.set z16.toNat x20)).bind fun y12 =>
(ckK .i64 (x17 - 1)).bind fun z17 =>
 some (Step.next (z17,y12))
def Dp.l3 (a_:Ag) (b_:Ag) (z1:Int) (x12:Int) (x17:Int) (x18:List Int):Option (Step (Int×(List Int)) (List Int)) :=
 if decide (x17 ≥ 0) then
(ckK .i64 (x12+1)).bind fun z13 =>
(M1 z13 x17 x18 z1).bind fun y9 =>
(ckK .i64 (x17+1)).bind fun z14 =>
(M1 x12 z14 x18 z1).bind fun y10 =>
(at? a_ x12).bind fun y13 =>
(at? b_ x17).bind fun y14 =>
 if decide (y13=y14) then
(ckK .i64 (x12+1)).bind fun z18 =>
(ckK .i64 (x17+1)).bind fun z19 =>
(M1 z18 z19 x18 z1).bind fun y15 =>
(ckK .i64 (y15+1)).bind fun z20 =>
 Dp.j5 z1 x12 x17 x18 z20
 else
 Dp.j5 z1 x12 x17 x18 (max y9 y10)
 else
 some (Step.done x18)
def Dp.l2 (a_:Ag) (b_:Ag) (z1:Int) (x12:Int) (x13:List Int):Option (Step (Int×(List Int)) (List Int)) :=
 if decide (x12 ≥ 0) then
(ckK .i64 ((b_.length:Int) - 1)).bind fun z12 =>
(Gk (fun s=>Dp.l3 a_ b_ z1 x12 s.1 s.2) (z12,x13)).bind fun r3 =>
 Dp.j4 x12 r3
 else
 some (Step.done x13)
def Dp (a_:Ag) (b_:Ag):Option (List Int) :=
(ckK .i64 ((b_.length:Int)+1)).bind fun z1 =>
(ckK .i64 ((a_.length:Int)+1)).bind fun z2 =>
(ckK .i64 (z2 * z1)).bind fun z3 =>
(mk? 8 z3 (0:Int)).bind fun y1 =>
(ckK .i64 ((a_.length:Int) - 1)).bind fun z10 =>
(Gk (fun s=>Dp.l2 a_ b_ z1 s.1 s.2) (z10,y1)).bind fun r2 =>
 Dp.j1 a_ b_ z1 r2
def M7 (c_:Collector_diff) (n_:Int):Option Collector_diff :=
 if decide (n_ > 0) then
(ckK .i64 (c_.at_+n_)).bind fun z1 =>
 some ({ hunks:=c_.hunks,at_:=z1,open_:=false }:Collector_diff)
 else
 some c_
def G3.j1 (c_:Collector_diff) (line:ByteArray) (x1:Bx) (x2:Bool):Option Collector_diff :=
(ckK .i64 ((x1.length:Int) - 1)).bind fun z1 =>
(at? x1 z1).bind fun y1 =>
(app? 16 y1.Old ([line]:Ag)).bind fun y2 =>
(ckK .i64 (c_.at_+1)).bind fun z2 =>
(some (x1.set z1.toNat ({ At:=y1.At,Old:=y2,New:=y1.New }:Hunk))).bind fun y3 =>
 some ({ hunks:=y3,at_:=z2,open_:=x2 }:Collector_diff)
def G3 (c_:Collector_diff) (line:ByteArray):Option Collector_diff :=
 if !c_.open_ then
(app? 56 c_.hunks ([({ At:=c_.at_,Old:=[],New:=[] }:Hunk)]:Bx)).bind fun y4 =>
 G3.j1 c_ line y4 true
 else
 G3.j1 c_ line c_.hunks c_.open_
def G2.j1 (c_:Collector_diff) (line:ByteArray) (x1:Bx) (x2:Bool):Option Collector_diff :=
(ckK .i64 ((x1.length:Int) - 1)).bind fun z1 =>
(at? x1 z1).bind fun y1 =>
(app? 16 y1.New ([line]:Ag)).bind fun y2 =>
(some (x1.set z1.toNat ({ At:=y1.At,Old:=y1.Old,New:=y2 }:Hunk))).bind fun y3 =>
 some ({ hunks:=y3,at_:=c_.at_,open_:=x2 }:Collector_diff)
def G2 (c_:Collector_diff) (line:ByteArray):Option Collector_diff :=
 if !c_.open_ then
(app? 56 c_.hunks ([({ At:=c_.at_,Old:=[],New:=[] }:Hunk)]:Bx)).bind fun y4 =>
 G2.j1 c_ line y4 true
 else
 G2.j1 c_ line c_.hunks c_.open_
def E1.j1 (x1:Bx) (x2:Int) (x3:Bool):Option (Patch×Fault) :=
 some (({ Hunks:=x1 }:Patch),({ Code:=0,Index:=0 }:Fault))
def E1.j2 (x4:Int) (x11:Int) (x12:Int) (x13:Bx) (x14:Int) (x15:Bool):Option (Step (Int×Int×Int×Bx×Int×Bool) (Bx×Int×Bool)) :=
(ckK .i64 (x4+1)).bind fun z1 =>
 some (Step.next (z1,x11,x12,x13,x14,x15))
def E1.l1 (a_:Ag) (b_:Ag) (y2:(List Int)) (x4:Int) (x5:Int) (x6:Int) (x7:Bx) (x8:Int) (x9:Bool):Option (Step (Int×Int×Int×Bx×Int×Bool) (Bx×Int×Bool)) :=
 if decide (x4 < (y2.length:Int)) then
(at? y2 x4).bind fun y3 =>
 if decide (y3=0) then
(M7 ({ hunks:=x7,at_:=x8,open_:=x9 }:Collector_diff) 1).bind fun y4 =>
(ckK .i64 (x6+1)).bind fun z2 =>
(ckK .i64 (x5+1)).bind fun z3 =>
 E1.j2 x4 z3 z2 y4.hunks y4.at_ y4.open_
 else
 if decide (y3=1) then
(at? a_ x6).bind fun y5 =>
(G3 ({ hunks:=x7,at_:=x8,open_:=x9 }:Collector_diff) y5).bind fun y6 =>
(ckK .i64 (x6+1)).bind fun z4 =>
 E1.j2 x4 x5 z4 y6.hunks y6.at_ y6.open_
 else
(at? b_ x5).bind fun y7 =>
(G2 ({ hunks:=x7,at_:=x8,open_:=x9 }:Collector_diff) y7).bind fun y8 =>
(ckK .i64 (x5+1)).bind fun z5 =>
 E1.j2 x4 z5 x6 y8.hunks y8.at_ y8.open_
 else
 some (Step.done (x7,x8,x9))
def E1 (a_:Ag) (b_:Ag):Option (Patch×Fault) :=
(Uz a_ b_).bind fun y1 =>
 if !(decide (y1.Code=0) && decide (y1.Index=0)) then
 some (({ Hunks:=[] }:Patch),y1)
 else
(Dp a_ b_).bind fun y2 =>
(Gk (fun s=>E1.l1 a_ b_ y2 s.1 s.2.1 s.2.2.1 s.2.2.2.1 s.2.2.2.2.1 s.2.2.2.2.2) (0,0,0,[],0,false)).bind fun r1 =>
 E1.j1 r1.1 r1.2.1 r1.2.2
def Ct.j2 (x2:A0):Option A0 :=
 some x2
def Ct.l1 (slices:(List A0)) (x3:Int) (x4:A0):Option (Step (Int×A0) A0) :=
 if decide (x3 < (slices.length:Int)) then
(at? slices x3).bind fun y2 =>
(app? 88 x4 y2).bind fun y3 =>
(ckK .i64 (x3+1)).bind fun z1 =>
 some (Step.next (z1,y3))
 else
 some (Step.done x4)
def Ct.j1 (slices:(List A0)) (x1:Int):Option A0 :=
(grow0 TreeChange 88 x1).bind fun y1 =>
(Gk (fun s=>Ct.l1 slices s.1 s.2) (0,y1)).bind fun r1 =>
 Ct.j2 r1
def Ct.j3 (x6:Int) (x9:Int):Option (Step (Int×Int) Int) :=
(ckK .i64 (x6+1)).bind fun z2 =>
 some (Step.next (z2,x9))
def Ct.l2 (slices:(List A0)) (x6:Int) (x7:Int):Option (Step (Int×Int) Int) :=
 if decide (x6 < (slices.length:Int)) then
(at? slices x6).bind fun y4 =>
(ckK .i64 (x7+(y4.length:Int))).bind fun z3 =>
 if decide (z3 < 0) then
 Option.none
 else
 Ct.j3 x6 z3
 else
 some (Step.done x7)
def Ct (slices:(List A0)):Option A0 :=
(Gk (fun s=>Ct.l2 slices s.1 s.2) (0,0)).bind fun r2 =>
 Ct.j1 slices r2
def Bw.j2 (x1:A0) (x2:A0) (x3:A0):Option (TreePatch×Fault) :=
(Ct ([x2,x1,x3]:List A0)).bind fun y3 =>
 if decide ((y3.length:Int) > 30) then
 some (({ Changes:=[] }:TreePatch),({ Code:=10,Index:=(-1) }:Fault))
 else
 some (({ Changes:=y3 }:TreePatch),({ Code:=0,Index:=0 }:Fault))
def Bw.j3 (x4:Int) (x7:A0):Option (Step (Int×A0) A0) :=
(ckK .i64 (x4+1)).bind fun z1 =>
 some (Step.next (z1,x7))
def Bw.l1 (old_:FileTree) (newer:FileTree) (x4:Int) (x5:A0):Option (Step (Int×A0) A0) :=
 if decide (x4 < (newer.Files.length:Int)) then
(at? newer.Files x4).bind fun y4 =>
(Dw old_.Files y4.Path).bind fun y5 =>
 if !y5.2 then
(Nm y4.Lines).bind fun y6 =>
(app? 88 x5 ([({ Kind:=1,Path:=y4.Path,To:=ByteArray.empty,Lines:=y6,Patch:=({ Hunks:=[] }:Patch) }:TreeChange)]:A0)).bind fun y7 =>
 Bw.j3 x4 y7
 else
 Bw.j3 x4 x5
 else
 some (Step.done x5)
def Bw.j1 (old_:FileTree) (newer:FileTree) (x1:A0) (x2:A0):Option (TreePatch×Fault) :=
(Gk (fun s=>Bw.l1 old_ newer s.1 s.2) (0,[])).bind fun r1 =>
 Bw.j2 x1 x2 r1
def Bw.j4 (x8:Int) (x12:A0) (x13:A0):Option (Step (Int×A0×A0) (A0×A0)) :=
(ckK .i64 (x8+1)).bind fun z2 =>
 some (Step.next (z2,x13,x12))
def Bw.j5 (x8:Int) (x9:A0) (x10:A0) (y8:File) (y13:Patch×Fault):Option (Step (Int×A0×A0) (A0×A0)) :=
 if decide ((y13.1.Hunks.length:Int) > 0) then
(app? 88 x9 ([({ Kind:=4,Path:=y8.Path,To:=ByteArray.empty,Lines:=[],Patch:=y13.1 }:TreeChange)]:A0)).bind fun y14 =>
 Bw.j4 x8 x10 y14
 else
 Bw.j4 x8 x10 x9
def Bw.l2 (old_:FileTree) (newer:FileTree) (x8:Int) (x9:A0) (x10:A0):Option (Step (Int×A0×A0) (A0×A0)) :=
 if decide (x8 < (old_.Files.length:Int)) then
(at? old_.Files x8).bind fun y8 =>
(Dw newer.Files y8.Path).bind fun y9 =>
 if !y9.2 then
(Nm y8.Lines).bind fun y10 =>
(app? 88 x10 ([({ Kind:=2,Path:=y8.Path,To:=ByteArray.empty,Lines:=y10,Patch:=({ Hunks:=[] }:Patch) }:TreeChange)]:A0)).bind fun y11 =>
 Bw.j4 x8 y11 x9
 else
(at? newer.Files y9.1).bind fun y12 =>
(E1 y8.Lines y12.Lines).bind fun y13 =>
 Bw.j5 x8 x9 x10 y8 y13
 else
 some (Step.done (x9,x10))
def Bw (old_:FileTree) (newer:FileTree):Option (TreePatch×Fault) :=
(Gc old_).bind fun y1 =>
 if !(decide (y1.Code=0) && decide (y1.Index=0)) then
 some (({ Changes:=[] }:TreePatch),y1)
 else
(Nt newer (-2)).bind fun y2 =>
 if !(decide (y2.Code=0) && decide (y2.Index=0)) then
 some (({ Changes:=[] }:TreePatch),y2)
 else
(Gk (fun s=>Bw.l2 old_ newer s.1 s.2.1 s.2.2) (0,[],[])).bind fun r2 =>
 Bw.j1 old_ newer r2.1 r2.2
def Kr.j1 (x1:Int):Option Int :=
 some x1
def Kr.j2 (x3:Int) (x4:Int) (x6:Int):Option (Step (Int×Int×Int) Int) :=
(ckK .i64 (2 * x3)).bind fun z1 =>
(rem? z1 2305843009213693951).bind fun z2 =>
(shr? .i64 x4 1).bind fun z3 =>
 some (Step.next (x6,z2,z3))
def Kr.l1 (x2:Int) (x3:Int) (x4:Int):Option (Step (Int×Int×Int) Int) :=
 if decide (x4 > 0) then
 if decide (andI .i64 x4 1=1) then
(ckK .i64 (x2+x3)).bind fun z4 =>
(rem? z4 2305843009213693951).bind fun z5 =>
 Kr.j2 x3 x4 z5
 else
 Kr.j2 x3 x4 x2
 else
 some (Step.done x2)
def Kr (a_:Int) (b_:Int):Option Int :=
(Gk (fun s=>Kr.l1 s.1 s.2.1 s.2.2) (0,a_,b_)).bind fun r1 =>
 Kr.j1 r1
def Tu (s_:Step_digest) (factor:Int):Option Int :=
(Kr s_.e0 factor).bind fun y1 =>
(ckK .i64 (y1+s_.e1)).bind fun z1 =>
(rem? z1 2305843009213693951).bind fun z2 =>
 some z2
def Lq.j1 (x1:Int):Option (Int×Fault) :=
 some (x1,({ Code:=0,Index:=0 }:Fault))
def Lq.l1 (data:(List UInt8)) (x2:Int) (x3:Int):Option (Step (Int×Int) Int) :=
 if decide (x2 < (data.length:Int)) then
(at? data x2).bind fun y1 =>
(ckK .i64 (y1.toNat:Int)).bind fun z1 =>
(ckK .i64 (z1+1)).bind fun z2 =>
(Tu ({ e0:=x3,e1:=z2 }:Step_digest) 257).bind fun y2 =>
(ckK .i64 (x2+1)).bind fun z3 =>
 some (Step.next (z3,y2))
 else
 some (Step.done x3)
def Lq (data:(List UInt8)):Option (Int×Fault) :=
 if decide ((data.length:Int) > 4096) then
 some (0,({ Code:=2,Index:=0 }:Fault))
 else
(Gk (fun s=>Lq.l1 data s.1 s.2) (0,1)).bind fun r1 =>
 Lq.j1 r1
def Qp (a_:Int) (b_:Int):Option Int :=
(Tu ({ e0:=b_,e1:=7 }:Step_digest) 31).bind fun y1 =>
(Tu ({ e0:=a_,e1:=y1 }:Step_digest) 1000003).bind fun y2 =>
 some y2
def Ys (a_:Int):Option Bool :=
(if decide (a_ ≥ 0) then some (decide (a_ < 2305843009213693951)) else some false).bind fun x1 =>
 some x1
def Gd.j1 (a_:Int) (b_:Int):Option (Int×Fault) :=
(Qp a_ b_).bind fun y1 =>
 some (y1,({ Code:=0,Index:=0 }:Fault))
def Gd.l1 (a_:Int) (b_:Int) (x1:Int):Option (Step Int ((Int×Fault) ⊕ Unit)) :=
 if decide (x1 < 2) then
(at? ([a_,b_]:List Int) x1).bind fun y2 =>
(Ys y2).bind fun y3 =>
 if !y3 then
 some (Step.done (Sum.inl (0,({ Code:=3,Index:=x1 }:Fault))))
 else
(ckK .i64 (x1+1)).bind fun z1 =>
 some (Step.next z1)
 else
 some (Step.done (Sum.inr ()))
def Gd (a_:Int) (b_:Int):Option (Int×Fault) :=
(Gk (fun s=>Gd.l1 a_ b_ s) 0).bind fun r1 =>
(match r1 with
| .inl p=>some p
| .inr _=>Gd.j1 a_ b_)
def T2 (key:Int) (data:(List UInt8)):Option (Int×Fault) :=
(O0 key).bind fun y1 =>
 if !y1 then
 some (0,({ Code:=3,Index:=(-1) }:Fault))
 else
(Lq data).bind fun y2 =>
 if !(decide (y2.2.Code=0) && decide (y2.2.Index=0)) then
 some (0,y2.2)
 else
(Gd key y2.1).bind fun y3 =>
 some (y3.1,y3.2)
def Hd.j1 (x1:Int):Option Int :=
 some x1
def Hd.l1 (list:(List Int)) (x2:Int) (x3:Int):Option (Step (Int×Int) Int) :=
 if decide (x2 < (list.length:Int)) then
(at? list x2).bind fun y1 =>
(Gd x3 y1).bind fun y2 =>
(ckK .i64 (x2+1)).bind fun z1 =>
 some (Step.next (z1,y2.1))
 else
 some (Step.done x3)
def Hd (h_:Int) (list:(List Int)):Option Int :=
(Gk (fun s=>Hd.l1 list s.1 s.2) (0,h_)).bind fun r1 =>
 Hd.j1 r1
def L1 (s_:ByteArray):Option Int :=
(Lq s_.data.toList).bind fun y1 =>
 some y1.1
def H1.j1 (x1:Int):Option (Int×Fault) :=
 some (x1,({ Code:=0,Index:=0 }:Fault))
def H1.l1 (list:Ag) (x2:Int) (x3:Int):Option (Step (Int×Int) ((Int×Fault) ⊕ Int)) :=
 if decide (x2 < (list.length:Int)) then
(at? list x2).bind fun y1 =>
(Lq y1.data.toList).bind fun y2 =>
 if !(decide (y2.2.Code=0) && decide (y2.2.Index=0)) then
 some (Step.done (Sum.inl (0,({ Code:=y2.2.Code,Index:=x2 }:Fault))))
 else
(Qp x3 y2.1).bind fun y3 =>
(ckK .i64 (x2+1)).bind fun z1 =>
 some (Step.next (z1,y3))
 else
 some (Step.done (Sum.inr x3))
def H1 (list:Ag):Option (Int×Fault) :=
 if decide ((list.length:Int) > 120) then
 some (0,({ Code:=2,Index:=(-1) }:Fault))
 else
(Gk (fun s=>H1.l1 list s.1 s.2) (0,2)).bind fun r1 =>
(match r1 with
| .inl p=>some p
| .inr p=>H1.j1 p)
def K7 (l_:Ag):Option Int :=
(H1 l_).bind fun y1 =>
 some y1.1
def Cf.j1 (x1:Int):Option (Int×Fault) :=
 some (x1,({ Code:=0,Index:=0 }:Fault))
def Cf.j2 (x2:Int) (x5:Int):Option (Step (Int×Int) Int) :=
(ckK .i64 (x2+1)).bind fun z1 =>
 some (Step.next (z1,x5))
def Cf.j3 (x2:Int) (x6:Int):Option (Step (Int×Int) Int) :=
 Cf.j2 x2 x6
def Cf.l2 (y2:TreeChange) (x7:Int) (x8:Int):Option (Step (Int×Int) Int) :=
 if decide (x7 < (y2.Patch.Hunks.length:Int)) then
(at? y2.Patch.Hunks x7).bind fun y7 =>
(K7 y7.Old).bind fun y8 =>
(K7 y7.New).bind fun y9 =>
(Hd x8 ([y7.At,y8,y9]:List Int)).bind fun y10 =>
(ckK .i64 (x7+1)).bind fun z2 =>
 some (Step.next (z2,y10))
 else
 some (Step.done x8)
def Cf.l1 (p_:TreePatch) (x2:Int) (x3:Int):Option (Step (Int×Int) Int) :=
 if decide (x2 < (p_.Changes.length:Int)) then
(at? p_.Changes x2).bind fun y2 =>
(L1 y2.Path).bind fun y3 =>
(L1 y2.To).bind fun y4 =>
(K7 y2.Lines).bind fun y5 =>
(Hd x3 ([y2.Kind,y3,y4,y5]:List Int)).bind fun y6 =>
(Gk (fun s=>Cf.l2 y2 s.1 s.2) (0,y6)).bind fun r2 =>
 Cf.j3 x2 r2
 else
 some (Step.done x3)
def Cf (p_:TreePatch):Option (Int×Fault) :=
(Dy p_).bind fun y1 =>
 if !(decide (y1.Code=0) && decide (y1.Index=0)) then
 some (0,y1)
 else
(Gk (fun s=>Cf.l1 p_ s.1 s.2) (0,3)).bind fun r1 =>
 Cf.j1 r1
def Kn (n_:Int):Option Bool :=
(if decide (n_ ≥ 0) then some (decide (n_ < 2305843009213693951)) else some false).bind fun x1 =>
 some x1
def Lo.j1 (x1:List UInt8):Option (List UInt8) :=
 some x1
def Lo.l1 (n_:Int) (x2:Int) (x3:List UInt8):Option (Step (Int×(List UInt8)) (List UInt8)) :=
 if decide (x2 ≥ 0) then
(shr? .i64 n_ x2).bind fun z1 =>
(some (u8w z1)).bind fun z2 =>
(app? 1 x3 ([z2]:List UInt8)).bind fun y1 =>
(ckK .i64 (x2 - 8)).bind fun z3 =>
 some (Step.next (z3,y1))
 else
 some (Step.done x3)
def Lo (n_:Int):Option (List UInt8) :=
(Gk (fun s=>Lo.l1 n_ s.1 s.2) (56,[])).bind fun r1 =>
 Lo.j1 r1
def Hk.j1 (x1:List UInt8):Option ((List UInt8)×Fault) :=
 some (x1,({ Code:=0,Index:=0 }:Fault))
def Hk.l1 (numbers:(List Int)) (x2:Int) (x3:List UInt8):Option (Step (Int×(List UInt8)) (((List UInt8)×Fault) ⊕ (List UInt8))) :=
 if decide (x2 < (numbers.length:Int)) then
(at? numbers x2).bind fun y1 =>
(Kn y1).bind fun y2 =>
 if !y2 then
 some (Step.done (Sum.inl ([],({ Code:=3,Index:=x2 }:Fault))))
 else
(Lo y1).bind fun y3 =>
(app? 1 x3 y3).bind fun y4 =>
(ckK .i64 (x2+1)).bind fun z1 =>
 some (Step.next (z1,y4))
 else
 some (Step.done (Sum.inr x3))
def Hk (numbers:(List Int)):Option ((List UInt8)×Fault) :=
 if decide ((numbers.length:Int) > 64) then
 some ([],({ Code:=2,Index:=(-1) }:Fault))
 else
(Gk (fun s=>Hk.l1 numbers s.1 s.2) (0,[])).bind fun r1 =>
(match r1 with
| .inl p=>some p
| .inr p=>Hk.j1 p)
def Kk (m_:Message_forge):Option (List UInt8) :=
(Cf m_.patch).bind fun y1 =>
(Hk ([m_.user,m_.number,m_.base,y1.1]:List Int)).bind fun y2 =>
 some y2.1
def Lm.j1 (s_:State_forge) (user:Int) (key:Int) (y1:Developer_forge) (y3:TreePatch×Fault):Option (Int×State_forge) :=
 if !(decide (y3.2.Code=0) && decide (y3.2.Index=0)) then
 some (y3.2.Code,s_)
 else
 if decide ((y3.1.Changes.length:Int)=0) then
 some (11,s_)
 else
 if decide ((s_.flight.length:Int) ≥ 20) then
 some (14,s_)
 else
(ckK .i64 (y1.sent+1)).bind fun z1 =>
(some (s_.developers.set user.toNat ({ tree:=y1.tree,base:=y1.base,sent:=z1,accepted:=y1.accepted }:Developer_forge))).bind fun y4 =>
(Kk ({ user:=user,number:=({ tree:=y1.tree,base:=y1.base,sent:=z1,accepted:=y1.accepted }:Developer_forge).sent,base:=({ tree:=y1.tree,base:=y1.base,sent:=z1,accepted:=y1.accepted }:Developer_forge).base,signature:=0,patch:=y3.1 }:Message_forge)).bind fun y5 =>
(T2 key y5).bind fun y6 =>
(app? 56 s_.flight ([({ user:=user,number:=({ tree:=y1.tree,base:=y1.base,sent:=z1,accepted:=y1.accepted }:Developer_forge).sent,base:=({ tree:=y1.tree,base:=y1.base,sent:=z1,accepted:=y1.accepted }:Developer_forge).base,signature:=y6.1,patch:=y3.1 }:Message_forge)]:D5)).bind fun y7 =>
 some (0,({ keys:=s_.keys,versions:=s_.versions,developers:=y4,flight:=y7,log:=s_.log }:State_forge))
def Lm (s_:State_forge) (user:Int) (key:Int):Option (Int×State_forge) :=
(at? s_.developers user).bind fun y1 =>
(at? s_.versions y1.base).bind fun y2 =>
(Bw y2 y1.tree).bind fun y3 =>
 Lm.j1 s_ user key y1 y3
def Cm.j1 (s_:State_forge) (x1:H0):Option (Int×State_forge) :=
 some (0,({ keys:=s_.keys,versions:=s_.versions,developers:=x1,flight:=s_.flight,log:=s_.log }:State_forge))
def Cm.j2 (s_:State_forge) (e_:ForgeEvent) (y1:Developer_forge) (y7:FileTree×Fault):Option (Int×State_forge) :=
 if !(decide (y7.2.Code=0) && decide (y7.2.Index=0)) then
 some (y7.2.Code,s_)
 else
(some (s_.developers.set e_.User.toNat ({ tree:=y7.1,base:=y1.base,sent:=y1.sent,accepted:=y1.accepted }:Developer_forge))).bind fun y8 =>
 Cm.j1 s_ y8
def Cm (s_:State_forge) (e_:ForgeEvent):Option (Int×State_forge) :=
(at? s_.developers e_.User).bind fun y1 =>
 if decide (e_.Kind=1) then
(at? s_.versions y1.base).bind fun y2 =>
(Gp y1.tree y2).bind fun y3 =>
 if !y3 then
 some (15,s_)
 else
(ckK .i64 ((s_.versions.length:Int) - 1)).bind fun z1 =>
(Kz s_).bind fun y4 =>
(some (s_.developers.set e_.User.toNat ({ tree:=y1.tree,base:=z1,sent:=y1.sent,accepted:=y1.accepted }:Developer_forge))).bind fun y5 =>
(some (y5.set e_.User.toNat ({ tree:=y4,base:=({ tree:=y1.tree,base:=z1,sent:=y1.sent,accepted:=y1.accepted }:Developer_forge).base,sent:=({ tree:=y1.tree,base:=z1,sent:=y1.sent,accepted:=y1.accepted }:Developer_forge).sent,accepted:=({ tree:=y1.tree,base:=z1,sent:=y1.sent,accepted:=y1.accepted }:Developer_forge).accepted }:Developer_forge))).bind fun y6 =>
 Cm.j1 s_ y6
 else
 if decide (e_.Kind=2) then
(Gu e_.Patch y1.tree).bind fun y7 =>
 Cm.j2 s_ e_ y1 y7
 else
 if decide (e_.Kind=3) then
(Lm s_ e_.User e_.Key).bind fun y9 =>
 some (y9.1,y9.2)
 else
(at? s_.versions y1.base).bind fun y10 =>
(some (s_.developers.set e_.User.toNat ({ tree:=y10,base:=y1.base,sent:=y1.sent,accepted:=y1.accepted }:Developer_forge))).bind fun y11 =>
 Cm.j1 s_ y11
def Tx (key:Int) (data:(List UInt8)) (signature:Int):Option (Bool×Fault) :=
(T2 key data).bind fun y1 =>
 if !(decide (y1.2.Code=0) && decide (y1.2.Index=0)) then
 some (false,y1.2)
 else
(Kn signature).bind fun y2 =>
 if !y2 then
 some (false,({ Code:=3,Index:=(-2) }:Fault))
 else
 some (decide (y1.1=signature),({ Code:=0,Index:=0 }:Fault))
def On (c_:TreeChange):Option Ag :=
 if decide (c_.Kind=3) then
 some ([c_.Path,c_.To]:Ag)
 else
 some ([c_.Path]:Ag)
def B0.j1:Option Bool :=
 some false
def B0.j2 (x1:Int) (x3:Int):Option (Step Int (Bool ⊕ Unit)) :=
 if decide (x3 ≥ 0) then
 some (Step.done (Sum.inl true))
 else
(ckK .i64 (x1+1)).bind fun z1 =>
 some (Step.next z1)
def B0.j3 (x1:Int):Option (Step Int (Bool ⊕ Unit)) :=
 B0.j2 x1 (-1)
def B0.l2 (path:ByteArray) (y2:Ag) (x4:Int):Option (Step Int (Int ⊕ Unit)) :=
 if decide (x4 < (y2.length:Int)) then
(at? y2 x4).bind fun y3 =>
(Ln y3 path).bind fun y4 =>
 if y4 then
 some (Step.done (Sum.inl x4))
 else
(ckK .i64 (x4+1)).bind fun z2 =>
 some (Step.next z2)
 else
 some (Step.done (Sum.inr ()))
def B0.l1 (path:ByteArray) (changes:A0) (x1:Int):Option (Step Int (Bool ⊕ Unit)) :=
 if decide (x1 < (changes.length:Int)) then
(at? changes x1).bind fun y1 =>
(On y1).bind fun y2 =>
(Gk (fun s=>B0.l2 path y2 s) 0).bind fun r2 =>
(match r2 with
| .inl p=>B0.j2 x1 p
| .inr _=>B0.j3 x1)
 else
 some (Step.done (Sum.inr ()))
def B0 (path:ByteArray) (changes:A0):Option Bool :=
(Gk (fun s=>B0.l1 path changes s) 0).bind fun r1 =>
(match r1 with
| .inl p=>some p
| .inr _=>B0.j1)
def Ea.j1:Option Int :=
 some (-1)
def Ea.l1 (p_:TreePatch) (path:ByteArray) (x1:Int):Option (Step Int (Int ⊕ Unit)) :=
 if decide (x1 ≥ 0) then
(at? p_.Changes x1).bind fun y1 =>
(B0 path ([y1]:A0)).bind fun y2 =>
 if y2 then
 some (Step.done (Sum.inl x1))
 else
(ckK .i64 (x1 - 1)).bind fun z2 =>
 some (Step.next z2)
 else
 some (Step.done (Sum.inr ()))
def Ea (p_:TreePatch) (path:ByteArray):Option Int :=
(ckK .i64 ((p_.Changes.length:Int) - 1)).bind fun z1 =>
(Gk (fun s=>Ea.l1 p_ path s) z1).bind fun r1 =>
(match r1 with
| .inl p=>some p
| .inr _=>Ea.j1)
def Cq.j1 (s_:Ag):Option Ag :=
 some s_
def Cq.j2 (x1:Int):Option (Step Int (Ag ⊕ Unit)) :=
(ckK .i64 (x1+1)).bind fun z1 =>
 some (Step.next z1)
def Cq.j3 (x3:Int) (x4:Ag):Option (Step Int (Ag ⊕ Unit)) :=
(als? x4 x3).bind fun z4 =>
(clr? x4 x3 z4 ByteArray.empty).bind fun y3 =>
(cut? y3 0 x3).bind fun y4 =>
 some (Step.done (Sum.inl y4))
def Cq.j4 (x5:Int) (x9:Int) (x10:Ag):Option (Step (Int×Int×Ag) (Int×Ag)) :=
(ckK .i64 (x5+1)).bind fun z5 =>
 some (Step.next (z5,x9,x10))
def Cq.l2 (x1:Int) (z3:Int) (x5:Int) (x6:Int) (x7:Ag):Option (Step (Int×Int×Ag) (Int×Ag)) :=
 if decide (x5 < z3) then
(atA? x7 x1 z3 x5).bind fun y5 =>
(ckK .i64 (x5 - 1)).bind fun z6 =>
(atA? x7 x1 z3 z6).bind fun y6 =>
 if !decide (y5=y6) then
(atA? x7 x1 z3 x5).bind fun y7 =>
(at? x7 x6).bind fun y8 =>
(some (x7.set x6.toNat y7)).bind fun y9 =>
(ckK .i64 (x6+1)).bind fun z7 =>
 Cq.j4 x5 z7 y9
 else
 Cq.j4 x5 x6 x7
 else
 some (Step.done (x6,x7))
def Cq.l1 (s_:Ag) (x1:Int):Option (Step Int (Ag ⊕ Unit)) :=
 if decide (x1 < (s_.length:Int)) then
(at? s_ x1).bind fun y1 =>
(ckK .i64 (x1 - 1)).bind fun z2 =>
(at? s_ z2).bind fun y2 =>
 if decide (y1=y2) then
(als? s_ x1).bind fun z3 =>
(Gk (fun s=>Cq.l2 x1 z3 s.1 s.2.1 s.2.2) (1,x1,s_)).bind fun r2 =>
 Cq.j3 r2.1 r2.2
 else
 Cq.j2 x1
 else
 some (Step.done (Sum.inr ()))
def Cq (s_:Ag):Option Ag :=
 if decide ((s_.length:Int) < 2) then
 some s_
 else
(Gk (fun s=>Cq.l1 s_ s) 1).bind fun r1 =>
(match r1 with
| .inl p=>some p
| .inr _=>Cq.j1 s_)
def Ch.j1 (x1:Ag):Option Ag :=
(sortS? x1).bind fun y1 =>
(Cq y1).bind fun y2 =>
 some y2
def Ch.j2 (x2:Int) (x5:Ag):Option (Step (Int×Ag) Ag) :=
(ckK .i64 (x2+1)).bind fun z1 =>
 some (Step.next (z1,x5))
def Ch.j3 (x2:Int) (x6:Ag):Option (Step (Int×Ag) Ag) :=
 Ch.j2 x2 x6
def Ch.l2 (y3:FileTree) (x7:Int) (x8:Ag):Option (Step (Int×Ag) Ag) :=
 if decide (x7 < (y3.Files.length:Int)) then
(at? y3.Files x7).bind fun y4 =>
(app? 16 x8 ([y4.Path]:Ag)).bind fun y5 =>
(ckK .i64 (x7+1)).bind fun z2 =>
 some (Step.next (z2,y5))
 else
 some (Step.done x8)
def Ch.l1 (trees:D8) (x2:Int) (x3:Ag):Option (Step (Int×Ag) Ag) :=
 if decide (x2 < (trees.length:Int)) then
(at? trees x2).bind fun y3 =>
(Gk (fun s=>Ch.l2 y3 s.1 s.2) (0,x3)).bind fun r2 =>
 Ch.j3 x2 r2
 else
 some (Step.done x3)
def Ch (trees:D8):Option Ag :=
(Gk (fun s=>Ch.l1 trees s.1 s.2) (0,[])).bind fun r1 =>
 Ch.j1 r1
def L3 (t_:FileTree) (path:ByteArray):Option Version_treecommute :=
(Dw t_.Files path).bind fun y1 =>
 if !y1.2 then
 some ({ is:=false,lines:=[] }:Version_treecommute)
 else
(at? t_.Files y1.1).bind fun y2 =>
 some ({ is:=true,lines:=y2.Lines }:Version_treecommute)
def Mw (a_:Version_treecommute) (b_:Version_treecommute):Option Bool :=
(if decide (a_.is=b_.is) then (Ho a_.lines b_.lines).bind fun y1 =>
 some y1 else some false).bind fun x1 =>
 some x1
def Qh (h_:Hunk):Option Int :=
(ckK .i64 ((h_.New.length:Int) - (h_.Old.length:Int))).bind fun z1 =>
 some z1
def Gj.j1 (x1:Ht):Option Ht :=
 some x1
def Gj.l1 (p_:Patch) (x2:Int) (x3:Ht):Option (Step (Int×Ht) Ht) :=
 if decide (x2 < (p_.Hunks.length:Int)) then
(at? p_.Hunks x2).bind fun y1 =>
(My y1).bind fun y2 =>
(Qh y1).bind fun y3 =>
(app? 24 x3 ([({ Low:=y1.At,High:=y2,Growth:=y3 }:Range_commute)]:Ht)).bind fun y4 =>
(ckK .i64 (x2+1)).bind fun z1 =>
 some (Step.next (z1,y4))
 else
 some (Step.done x3)
def Gj (p_:Patch):Option Ht :=
(Gk (fun s=>Gj.l1 p_ s.1 s.2) (0,[])).bind fun r1 =>
 Gj.j1 r1
def Hu (a_:RangeX_commute) (b_:RangeX_commute):Option Int :=
 if !decide (a_.Low=b_.Low) then
(ckK .i64 (a_.Low - b_.Low)).bind fun z1 =>
 some z1
 else
(ckK .i64 (a_.High - b_.High)).bind fun z2 =>
 some z2
def Q0 (a_:RangeX_commute) (b_:RangeX_commute):Option Bool :=
(if decide (a_.High ≥ b_.Low) then some (decide (b_.High ≥ a_.Low)) else some false).bind fun x1 =>
 some x1
def E7.j1 (x1:E9):Option E9 :=
 some x1
def E7.j2 (x2:Int) (x5:E9):Option (Step (Int×E9) E9) :=
(ckK .i64 (x2+1)).bind fun z1 =>
 some (Step.next (z1,x5))
def E7.l1 (y4:E9) (x2:Int) (x3:E9):Option (Step (Int×E9) E9) :=
 if decide (x2 < (y4.length:Int)) then
(at? y4 x2).bind fun y5 =>
(if decide ((x3.length:Int) > 0) then (ckK .i64 ((x3.length:Int) - 1)).bind fun z2 =>
(at? x3 z2).bind fun y6 =>
(Q0 y6 y5).bind fun y7 =>
 some y7 else some false).bind fun x6 =>
 if x6 then
(ckK .i64 ((x3.length:Int) - 1)).bind fun z3 =>
(ckK .i64 ((x3.length:Int) - 1)).bind fun z4 =>
(at? x3 z4).bind fun y8 =>
(at? x3 z3).bind fun y9 =>
(some (x3.set z3.toNat ({ Low:=y9.Low,High:=max y8.High y5.High,Growth:=y9.Growth }:RangeX_commute))).bind fun y10 =>
 E7.j2 x2 y10
 else
(app? 24 x3 ([y5]:E9)).bind fun y11 =>
 E7.j2 x2 y11
 else
 some (Step.done x3)
def E7 (p_:Patch) (q_:Patch):Option E9 :=
(Gj p_).bind fun y1 =>
(Gj q_).bind fun y2 =>
(app? 24 (y1.map M9) (y2.map M9)).bind fun y3 =>
(sortM Hu y3).bind fun y4 =>
(Gk (fun s=>E7.l1 y4 s.1 s.2) (0,[])).bind fun r1 =>
 E7.j1 r1
def Gf.j1 (l_:Ag) (x1:E6):Option Merger_merge3 :=
(ckK .i64 ((x1.length:Int) - 1)).bind fun z1 =>
(at? x1 z1).bind fun y1 =>
(app? 16 y1.Lines l_).bind fun y2 =>
(some (x1.set z1.toNat ({ Conflict:=y1.Conflict,Lines:=y2,Base:=y1.Base,Left:=y1.Left,Right:=y1.Right }:Chunk))).bind fun y3 =>
 some ({ out:=y3 }:Merger_merge3)
def Gf (m_:Merger_merge3) (l_:Ag):Option Merger_merge3 :=
 if decide ((l_.length:Int)=0) then
 some m_
 else
(if decide ((m_.out.length:Int)=0) then some true else (ckK .i64 ((m_.out.length:Int) - 1)).bind fun z2 =>
(at? m_.out z2).bind fun y4 =>
 some y4.Conflict).bind fun x2 =>
 if x2 then
(app? 104 m_.out ([({ Conflict:=false,Lines:=[],Base:=[],Left:=[],Right:=[] }:Chunk)]:E6)).bind fun y5 =>
 Gf.j1 l_ y5
 else
 Gf.j1 l_ m_.out
def Gy.j1 (x1:Bx):Option Bx :=
 some x1
def Gy.j2 (x2:Int) (x5:Bx):Option (Step (Int×Bx) Bx) :=
(ckK .i64 (x2+1)).bind fun z1 =>
 some (Step.next (z1,x5))
def Gy.l1 (p_:Patch) (r_:RangeX_commute) (x2:Int) (x3:Bx):Option (Step (Int×Bx) Bx) :=
 if decide (x2 < (p_.Hunks.length:Int)) then
(at? p_.Hunks x2).bind fun y1 =>
(if decide (y1.At ≥ r_.Low) then (My y1).bind fun y2 =>
 some (decide (y2≤r_.High)) else some false).bind fun x6 =>
 if x6 then
(app? 56 x3 ([y1]:Bx)).bind fun y3 =>
 Gy.j2 x2 y3
 else
 Gy.j2 x2 x3
 else
 some (Step.done x3)
def Gy (p_:Patch) (r_:RangeX_commute):Option Bx :=
(Gk (fun s=>Gy.l1 p_ r_ s.1 s.2) (0,[])).bind fun r1 =>
 Gy.j1 r1
def E5.j1 (base:Ag) (x1:Int) (x2:E6):Option (E6×Fault) :=
(cut? base x1 (base.length:Int)).bind fun y5 =>
(Gf ({ out:=x2 }:Merger_merge3) y5).bind fun y6 =>
 some (y6.out,({ Code:=0,Index:=0 }:Fault))
def E5.j2 (x3:Int) (x7:Int) (x8:E6):Option (Step (Int×Int×E6) (Int×E6)) :=
(ckK .i64 (x3+1)).bind fun z1 =>
 some (Step.next (z1,x7,x8))
def E5.l1 (base:Ag) (y3:Patch×Fault) (y4:Patch×Fault) (y7:E9) (x3:Int) (x4:Int) (x5:E6):Option (Step (Int×Int×E6) (Int×E6)) :=
 if decide (x3 < (y7.length:Int)) then
(at? y7 x3).bind fun y8 =>
(cut? base x4 y8.Low).bind fun y9 =>
(Gf ({ out:=x5 }:Merger_merge3) y9).bind fun y10 =>
(Gy y3.1 y8).bind fun y11 =>
(Gy y4.1 y8).bind fun y12 =>
(Ei y11 base y8.Low y8.High).bind fun y13 =>
(Ei y12 base y8.Low y8.High).bind fun y14 =>
(if decide ((y12.length:Int)=0) then some true else (Ho y13 y14).bind fun y15 =>
 some y15).bind fun x9 =>
 if x9 then
(Gf y10 y13).bind fun y16 =>
 E5.j2 x3 y8.High y16.out
 else
 if decide ((y11.length:Int)=0) then
(Gf y10 y14).bind fun y17 =>
 E5.j2 x3 y8.High y17.out
 else
(cut? base y8.Low y8.High).bind fun y18 =>
(Nm y18).bind fun y19 =>
(app? 104 y10.out ([({ Conflict:=true,Lines:=[],Base:=y19,Left:=y13,Right:=y14 }:Chunk)]:E6)).bind fun y20 =>
 E5.j2 x3 y8.High y20
 else
 some (Step.done (x4,x5))
def E5 (base:Ag) (left:Ag) (right:Ag):Option (E6×Fault) :=
(Uz base left).bind fun y1 =>
 if !(decide (y1.Code=0) && decide (y1.Index=0)) then
 some ([],y1)
 else
(M0 right (-3)).bind fun y2 =>
 if !(decide (y2.Code=0) && decide (y2.Index=0)) then
 some ([],y2)
 else
(E1 base left).bind fun y3 =>
(E1 base right).bind fun y4 =>
(E7 y3.1 y4.1).bind fun y7 =>
(Gk (fun s=>E5.l1 base y3 y4 y7 s.1 s.2.1 s.2.2) (0,0,[])).bind fun r1 =>
 E5.j1 base r1.1 r1.2
def Dx.j1:Option Fault :=
 some ({ Code:=0,Index:=0 }:Fault)
def Dx.j2 (x1:Int):Option (Step Int (Fault ⊕ Unit)) :=
(ckK .i64 (x1+1)).bind fun z1 =>
 some (Step.next z1)
def Dx.j3 (x1:Int) (y1:Chunk):Option (Step Int (Fault ⊕ Unit)) :=
(ckK .i64 ((y1.Base.length:Int)+(y1.Left.length:Int))).bind fun z2 =>
(ckK .i64 (z2+(y1.Right.length:Int))).bind fun z3 =>
(if y1.Conflict then some (decide ((y1.Lines.length:Int) > 0)) else some false).bind fun x3 =>
(if x3 then some true else (if !y1.Conflict then (if decide ((y1.Lines.length:Int)=0) then some true else some (decide (z3 > 0))).bind fun x6 =>
 some x6 else some false).bind fun x5 =>
 some x5).bind fun x4 =>
 if x4 then
 some (Step.done (Sum.inl ({ Code:=5,Index:=x1 }:Fault)))
 else
 Dx.j2 x1
def Dx.l2 (x1:Int) (y1:Chunk) (x7:Int):Option (Step Int (Fault ⊕ Unit)) :=
 if decide (x7 < 4) then
(at? ([y1.Lines,y1.Base,y1.Left,y1.Right]:List Ag) x7).bind fun y2 =>
(M0 y2 x1).bind fun y3 =>
 if !(decide (y3.Code=0) && decide (y3.Index=0)) then
 some (Step.done (Sum.inl y3))
 else
(ckK .i64 (x7+1)).bind fun z4 =>
 some (Step.next z4)
 else
 some (Step.done (Sum.inr ()))
def Dx.l1 (chunks:E6) (x1:Int):Option (Step Int (Fault ⊕ Unit)) :=
 if decide (x1 < (chunks.length:Int)) then
(at? chunks x1).bind fun y1 =>
(Gk (fun s=>Dx.l2 x1 y1 s) 0).bind fun r2 =>
(match r2 with
| .inl p=>some (Step.done (Sum.inl p))
| .inr _=>Dx.j3 x1 y1)
 else
 some (Step.done (Sum.inr ()))
def Dx (chunks:E6):Option Fault :=
 if decide ((chunks.length:Int) > 240) then
 some ({ Code:=2,Index:=(-1) }:Fault)
 else
(Gk (fun s=>Dx.l1 chunks s) 0).bind fun r1 =>
(match r1 with
| .inl p=>some p
| .inr _=>Dx.j1)
def Xh (l_:Ag):Option (Ag×Fault) :=
 if decide ((l_.length:Int) > 120) then
 some ([],({ Code:=10,Index:=(-1) }:Fault))
 else
 some (l_,({ Code:=0,Index:=0 }:Fault))
def Kl.j1 (x1:Ag):Option (Ag×Bool×Fault) :=
(Xh x1).bind fun y2 =>
 some (y2.1,decide (y2.2.Code=0) && decide (y2.2.Index=0),y2.2)
def Kl.l1 (chunks:E6) (x2:Int) (x3:Ag):Option (Step (Int×Ag) ((Ag×Bool×Fault) ⊕ Ag)) :=
 if decide (x2 < (chunks.length:Int)) then
(at? chunks x2).bind fun y3 =>
 if y3.Conflict then
 some (Step.done (Sum.inl ([],false,({ Code:=0,Index:=0 }:Fault))))
 else
(app? 16 x3 y3.Lines).bind fun y4 =>
(ckK .i64 (x2+1)).bind fun z1 =>
 some (Step.next (z1,y4))
 else
 some (Step.done (Sum.inr x3))
def Kl (chunks:E6):Option (Ag×Bool×Fault) :=
(Dx chunks).bind fun y1 =>
 if !(decide (y1.Code=0) && decide (y1.Index=0)) then
 some ([],false,y1)
 else
(Gk (fun s=>Kl.l1 chunks s.1 s.2) (0,[])).bind fun r1 =>
(match r1 with
| .inl p=>some p
| .inr p=>Kl.j1 p)
def Hi.j1 (left:Version_treecommute):Option (Version_treecommute×Bool) :=
 some (left,false)
def Hi (base:Version_treecommute) (left:Version_treecommute) (right:Version_treecommute):Option (Version_treecommute×Bool) :=
(Mw right base).bind fun y1 =>
(if y1 then some true else (Mw right left).bind fun y2 =>
 some y2).bind fun x1 =>
 if x1 then
 some (left,true)
 else
(Mw left base).bind fun y3 =>
 if y3 then
 some (right,true)
 else
(if base.is then some left.is else some false).bind fun x2 =>
(if x2 then some right.is else some false).bind fun x3 =>
 if x3 then
(E5 base.lines left.lines right.lines).bind fun y4 =>
 if decide (y4.2.Code=0) && decide (y4.2.Index=0) then
(Kl y4.1).bind fun y5 =>
(if y5.2.1 then some (decide (y5.2.2.Code=0) && decide (y5.2.2.Index=0)) else some false).bind fun x4 =>
 if x4 then
 some (({ is:=true,lines:=y5.1 }:Version_treecommute),true)
 else
 Hi.j1 left
 else
 Hi.j1 left
 else
 Hi.j1 left
def A4.j3 (x1:De) (x6:De) (x7:Ao):Option (FileTree×De×Fault) :=
 if decide ((x7.length:Int) > 24) then
 some (({ Files:=[] }:FileTree),[],({ Code:=10,Index:=(-1) }:Fault))
 else
(app? 16 x1 x6).bind fun y4 =>
 some (({ Files:=x7 }:FileTree),y4,({ Code:=0,Index:=0 }:Fault))
def A4.j4 (x8:Int) (x12:De) (x13:Ao):Option (Step (Int×De×Ao) (De×Ao)) :=
(ckK .i64 (x8+1)).bind fun z1 =>
 some (Step.next (z1,x12,x13))
def A4.l1 (left:TreePatch) (right:TreePatch) (x2:Ao) (x5:Ao) (x8:Int) (x9:De) (x10:Ao):Option (Step (Int×De×Ao) (De×Ao)) :=
 if decide (x8 < (x2.length:Int)) then
(at? x2 x8).bind fun y5 =>
(El x5 y5.Path (-1)).bind fun y6 =>
 if y6 then
(Ea left y5.Path).bind fun y7 =>
(Ea right y5.Path).bind fun y8 =>
(app? 16 x9 ([({ e0:=y7,e1:=y8 }:Arr2_Int)]:De)).bind fun y9 =>
 A4.j4 x8 y9 x10
 else
(Kh ({ Files:=x10 }:FileTree) y5.Path y5.Lines).bind fun y10 =>
 A4.j4 x8 x9 y10.Files
 else
 some (Step.done (x9,x10))
def A4.j2 (left:TreePatch) (right:TreePatch) (x1:De) (x2:Ao) (x3:Ao) (x5:Ao):Option (FileTree×De×Fault) :=
(Gk (fun s=>A4.l1 left right x2 x5 s.1 s.2.1 s.2.2) (0,[],x3)).bind fun r1 =>
 A4.j3 x1 r1.1 r1.2
def A4.j5 (x14:Int) (x17:Ao):Option (Step (Int×Ao) Ao) :=
(ckK .i64 (x14+1)).bind fun z2 =>
 some (Step.next (z2,x17))
def A4.l2 (x3:Ao) (x4:Ao) (x14:Int) (x15:Ao):Option (Step (Int×Ao) Ao) :=
 if decide (x14 < (x3.length:Int)) then
(at? x3 x14).bind fun y11 =>
(L3 ({ Files:=x4 }:FileTree) y11.Path).bind fun y12 =>
 if !y12.is then
(app? 40 x15 ([y11]:Ao)).bind fun y13 =>
 A4.j5 x14 y13
 else
 A4.j5 x14 x15
 else
 some (Step.done x15)
def A4.j1 (left:TreePatch) (right:TreePatch) (x1:De) (x2:Ao) (x3:Ao) (x4:Ao):Option (FileTree×De×Fault) :=
(Gk (fun s=>A4.l2 x3 x4 s.1 s.2) (0,[])).bind fun r2 =>
 A4.j2 left right x1 x2 x3 r2
def A4.j6 (x18:Int) (x23:De) (x24:Ao) (x25:Ao):Option (Step (Int×De×Ao×Ao) (De×Ao×Ao×Ao)) :=
(ckK .i64 (x18+1)).bind fun z3 =>
 some (Step.next (z3,x23,x24,x25))
def A4.j8 (x18:Int) (x20:Ao) (x21:Ao) (y15:ByteArray) (y16:Version_treecommute) (y19:Version_treecommute×Bool) (x27:De):Option (Step (Int×De×Ao×Ao) (De×Ao×Ao×Ao)) :=
(if y19.1.is then some y16.is else some false).bind fun x28 =>
 if x28 then
(Kh ({ Files:=x21 }:FileTree) y15 y19.1.lines).bind fun y20 =>
 A4.j6 x18 x27 x20 y20.Files
 else
 if y19.1.is then
(Kh ({ Files:=x20 }:FileTree) y15 y19.1.lines).bind fun y21 =>
 A4.j6 x18 x27 y21.Files x21
 else
 A4.j6 x18 x27 x20 x21
def A4.j7 (left:TreePatch) (right:TreePatch) (x18:Int) (x19:De) (x20:Ao) (x21:Ao) (y15:ByteArray) (y16:Version_treecommute) (y19:Version_treecommute×Bool):Option (Step (Int×De×Ao×Ao) (De×Ao×Ao×Ao)) :=
 if !y19.2 then
(Ea left y15).bind fun y22 =>
(Ea right y15).bind fun y23 =>
(app? 16 x19 ([({ e0:=y22,e1:=y23 }:Arr2_Int)]:De)).bind fun y24 =>
 A4.j8 x18 x20 x21 y15 y16 y19 y24
 else
 A4.j8 x18 x20 x21 y15 y16 y19 x19
def A4.l3 (base:FileTree) (left:TreePatch) (right:TreePatch) (y2:FileTree×Fault) (y3:FileTree×Fault) (y14:Ag) (x18:Int) (x19:De) (x20:Ao) (x21:Ao):Option (Step (Int×De×Ao×Ao) (De×Ao×Ao×Ao)) :=
 if decide (x18 < (y14.length:Int)) then
(at? y14 x18).bind fun y15 =>
(L3 y2.1 y15).bind fun y16 =>
(L3 base y15).bind fun y17 =>
(L3 y3.1 y15).bind fun y18 =>
(Hi y17 y16 y18).bind fun y19 =>
 A4.j7 left right x18 x19 x20 x21 y15 y16 y19
 else
 some (Step.done (x19,x20,x21,y3.1.Files))
def A4 (base:FileTree) (left:TreePatch) (right:TreePatch):Option (FileTree×De×Fault) :=
(Gc base).bind fun y1 =>
 if !(decide (y1.Code=0) && decide (y1.Index=0)) then
 some (({ Files:=[] }:FileTree),[],y1)
 else
(Gu left base).bind fun y2 =>
 if !(decide (y2.2.Code=0) && decide (y2.2.Index=0)) then
 some (({ Files:=[] }:FileTree),[],({ Code:=y2.2.Code,Index:=(-2) }:Fault))
 else
(Gu right base).bind fun y3 =>
 if !(decide (y3.2.Code=0) && decide (y3.2.Index=0)) then
 some (({ Files:=[] }:FileTree),[],({ Code:=y3.2.Code,Index:=(-3) }:Fault))
 else
(Ch ([base,y2.1,y3.1]:D8)).bind fun y14 =>
(Gk (fun s=>A4.l3 base left right y2 y3 y14 s.1 s.2.1 s.2.2.1 s.2.2.2) (0,[],[],[])).bind fun r3 =>
 A4.j1 left right r3.1 r3.2.1 r3.2.2.1 r3.2.2.2
def Di.j3 (s_:State_forge) (m_:Message_forge) (y1:Developer_forge) (y8:FileTree×De×Fault) (y10:TreePatch×Fault):Option (Int×State_forge) :=
 if !(decide (y10.2.Code=0) && decide (y10.2.Index=0)) then
 some (y10.2.Code,s_)
 else
(some (s_.developers.set m_.user.toNat ({ tree:=y1.tree,base:=y1.base,sent:=y1.sent,accepted:=m_.number }:Developer_forge))).bind fun y11 =>
(app? 24 s_.versions ([y8.1]:D8)).bind fun y12 =>
(app? 40 s_.log ([({ User:=m_.user,Number:=m_.number,Patch:=y10.1 }:ForgeEntry)]:Df)).bind fun y13 =>
 some (0,({ keys:=s_.keys,versions:=y12,developers:=y11,flight:=s_.flight,log:=y13 }:State_forge))
def Di.j2 (s_:State_forge) (m_:Message_forge) (y1:Developer_forge) (y5:FileTree) (y7:TreePatch×Fault):Option (Int×State_forge) :=
 if !(decide (y7.2.Code=0) && decide (y7.2.Index=0)) then
 some (y7.2.Code,s_)
 else
(A4 y5 y7.1 m_.patch).bind fun y8 =>
 if !(decide (y8.2.2.Code=0) && decide (y8.2.2.Index=0)) then
 some (y8.2.2.Code,s_)
 else
 if decide ((y8.2.1.length:Int) > 0) then
 some (19,s_)
 else
(Kz s_).bind fun y9 =>
(Bw y9 y8.1).bind fun y10 =>
 Di.j3 s_ m_ y1 y8 y10
def Di.j1 (s_:State_forge) (m_:Message_forge) (y1:Developer_forge) (y4:Bool×Fault):Option (Int×State_forge) :=
 if !y4.1 then
 some (18,s_)
 else
 if decide (m_.number≤y1.accepted) then
 some (16,s_)
 else
(at? s_.versions m_.base).bind fun y5 =>
(Kz s_).bind fun y6 =>
(Bw y5 y6).bind fun y7 =>
 Di.j2 s_ m_ y1 y5 y7
def Di (s_:State_forge) (m_:Message_forge):Option (Int×State_forge) :=
(at? s_.developers m_.user).bind fun y1 =>
(at? s_.keys m_.user).bind fun y2 =>
(Kk m_).bind fun y3 =>
(Tx y2 y3 m_.signature).bind fun y4 =>
 Di.j1 s_ m_ y1 y4
def Eg.j1 (s_:State_forge) (x1:D5):Option (Int×State_forge) :=
 some (0,({ keys:=s_.keys,versions:=s_.versions,developers:=s_.developers,flight:=x1,log:=s_.log }:State_forge))
def Eg (s_:State_forge) (e_:ForgeEvent):Option (Int×State_forge) :=
 if decide (e_.N ≥ (s_.flight.length:Int)) then
 some (6,s_)
 else
(at? s_.flight e_.N).bind fun y1 =>
 if decide (e_.Kind=4) then
(ckK .i64 (e_.N+1)).bind fun z1 =>
(del? s_.flight e_.N z1).bind fun y2 =>
(Di ({ keys:=s_.keys,versions:=s_.versions,developers:=s_.developers,flight:=y2,log:=s_.log }:State_forge) y1).bind fun y3 =>
 some (y3.1,y3.2)
 else
 if decide (e_.Kind=5) then
(ckK .i64 (e_.N+1)).bind fun z2 =>
(del? s_.flight e_.N z2).bind fun y4 =>
 Eg.j1 s_ y4
 else
 if decide (e_.Kind=6) then
 if decide ((s_.flight.length:Int) ≥ 20) then
 some (14,s_)
 else
(ckK .i64 (e_.N+1)).bind fun z3 =>
(ins? 56 s_.flight z3 ([y1]:D5)).bind fun y5 =>
 Eg.j1 s_ y5
 else
(ckK .i64 (y1.signature+1)).bind fun z4 =>
(rem? z4 2305843009213693951).bind fun z5 =>
(at? s_.flight e_.N).bind fun y6 =>
(some (s_.flight.set e_.N.toNat ({ user:=y6.user,number:=y6.number,base:=y6.base,signature:=z5,patch:=y6.patch }:Message_forge))).bind fun y7 =>
 Eg.j1 s_ y7
def G5.j1 (keys:(List Int)) (x1:List Int) (x2:List Int) (x3:D8) (x4:H0) (x5:D5) (x6:Df):Option (Fault ⊕ (State_forge×(List Int))) :=
 some (Sum.inr (({ keys:=x2,versions:=x3,developers:=x4,flight:=x5,log:=x6 }:State_forge),x1))
def G5.j2 (keys:(List Int)) (x7:Int) (x8:List Int) (x9:List Int) (x10:D8) (x11:H0) (x12:D5) (x13:Df) (y3:ForgeEvent) (x15:Bool):Option (Step (Int×(List Int)×(List Int)×D8×H0×D5×Df) ((List Int)×(List Int)×D8×H0×D5×Df)) :=
 if x15 then
(Eg ({ keys:=x9,versions:=x10,developers:=x11,flight:=x12,log:=x13 }:State_forge) y3).bind fun y4 =>
(app? 8 x8 ([y4.1]:List Int)).bind fun y5 =>
(ckK .i64 (x7+1)).bind fun z1 =>
 some (Step.next (z1,y5,y4.2.keys,y4.2.versions,y4.2.developers,y4.2.flight,y4.2.log))
 else
(Cm ({ keys:=x9,versions:=x10,developers:=x11,flight:=x12,log:=x13 }:State_forge) y3).bind fun y6 =>
(app? 8 x8 ([y6.1]:List Int)).bind fun y7 =>
(ckK .i64 (x7+1)).bind fun z2 =>
 some (Step.next (z2,y7,y6.2.keys,y6.2.versions,y6.2.developers,y6.2.flight,y6.2.log))
def G5.l1 (keys:(List Int)) (events:B1) (x7:Int) (x8:List Int) (x9:List Int) (x10:D8) (x11:H0) (x12:D5) (x13:Df):Option (Step (Int×(List Int)×(List Int)×D8×H0×D5×Df) ((List Int)×(List Int)×D8×H0×D5×Df)) :=
 if decide (x7 < (events.length:Int)) then
(at? events x7).bind fun y3 =>
 if decide (y3.Kind=4) then
 G5.j2 keys x7 x8 x9 x10 x11 x12 x13 y3 (decide (y3.Kind=4))
 else
 if decide (y3.Kind=5) then
 G5.j2 keys x7 x8 x9 x10 x11 x12 x13 y3 (decide (y3.Kind=5))
 else
 if decide (y3.Kind=6) then
 G5.j2 keys x7 x8 x9 x10 x11 x12 x13 y3 (decide (y3.Kind=6))
 else
 G5.j2 keys x7 x8 x9 x10 x11 x12 x13 y3 (decide (y3.Kind=7))
 else
 some (Step.done (x8,x9,x10,x11,x12,x13))
def G5 (keys:(List Int)) (events:B1):Option (Fault ⊕ (State_forge×(List Int))) :=
(Ek keys events).bind fun y1 =>
 if !(decide (y1.Code=0) && decide (y1.Index=0)) then
 some (Sum.inl y1)
 else
(mk? 48 (keys.length:Int) ({ tree:=({ Files:=[] }:FileTree),base:=0,sent:=0,accepted:=0 }:Developer_forge)).bind fun y2 =>
(Gk (fun s=>G5.l1 keys events s.1 s.2.1 s.2.2.1 s.2.2.2.1 s.2.2.2.2.1 s.2.2.2.2.2.1 s.2.2.2.2.2.2) (0,[],keys,([({ Files:=[] }:FileTree)]:D8),y2,[],[])).bind fun r1 =>
 G5.j1 keys r1.1 r1.2.1 r1.2.2.1 r1.2.2.2.1 r1.2.2.2.2.1 r1.2.2.2.2.2
def Mu (keys:(List Int)) (events:B1):Option (FileTree×Df×(List Int)×Fault) :=
(G5 keys events).bind fun y1 =>
(match y1 with
| .inl f1 =>
 some (({ Files:=[] }:FileTree),[],[],f1)
| .inr (x1,z1) =>
(Kz x1).bind fun y2 =>
(Eo y2).bind fun y3 =>
 some (y3,x1.log,z1,({ Code:=0,Index:=0 }:Fault)))
def Hj.j1:Option Fault :=
 some ({ Code:=0,Index:=0 }:Fault)
def Hj.l1 (index:Int) (l_:(List Int)) (x1:Int):Option (Step Int (Fault ⊕ Unit)) :=
 if decide (x1 < (l_.length:Int)) then
(at? l_ x1).bind fun y1 =>
(Kn y1).bind fun y2 =>
 if !y2 then
(ckK .i64 (index+x1)).bind fun z1 =>
 some (Step.done (Sum.inl ({ Code:=3,Index:=z1 }:Fault)))
 else
(ckK .i64 (x1+1)).bind fun z2 =>
 some (Step.next z2)
 else
 some (Step.done (Sum.inr ()))
def Hj (index:Int) (l_:(List Int)):Option Fault :=
(Gk (fun s=>Hj.l1 index l_ s) 0).bind fun r1 =>
(match r1 with
| .inl p=>some p
| .inr _=>Hj.j1)
def N2 (leaves:(List Int)):Option Fault :=
 if decide ((leaves.length:Int) > 64) then
 some ({ Code:=2,Index:=(-1) }:Fault)
 else
(Hj 0 leaves).bind fun y1 =>
 some y1
def E0.j1 (x1:Int):Option Int :=
 some x1
def E0.l1 (n_:Int) (x2:Int):Option (Step Int Int) :=
(ckK .i64 (2 * x2)).bind fun z1 =>
 if decide (z1 < n_) then
(ckK .i64 (x2 * 2)).bind fun z2 =>
 some (Step.next z2)
 else
 some (Step.done x2)
def E0 (n_:Int):Option Int :=
(Gk (fun s=>E0.l1 n_ s) 1).bind fun r1 =>
 E0.j1 r1
def L9 (a_:Int) (b_:Int):Option Int :=
(Gd a_ b_).bind fun y1 =>
 some y1.1
def Co.body (rec_:(List Int)→Option Int) (leaves:(List Int)):Option Int :=
 if decide ((leaves.length:Int)=0) then
 some 0
 else
 if decide ((leaves.length:Int)=1) then
(at? leaves 0).bind fun y1 =>
 some y1
 else
(E0 (leaves.length:Int)).bind fun y2 =>
(cut? leaves 0 y2).bind fun y3 =>
(rec_ y3).bind fun y4 =>
(cut? leaves y2 (leaves.length:Int)).bind fun y5 =>
(rec_ y5).bind fun y6 =>
(L9 y4 y6).bind fun y7 =>
 some y7
def Co.m:Nat→(List Int)→Option Int
| 0=>fun _=>Option.none
| k+1=>Co.body (Co.m k)
def Co (leaves:(List Int)):Option Int:=Co.m (64) leaves
def Te (leaves:(List Int)):Option (Int×Fault) :=
(N2 leaves).bind fun y1 =>
 if !(decide (y1.Code=0) && decide (y1.Index=0)) then
 some (0,y1)
 else
(Co leaves).bind fun y2 =>
 some (y2,({ Code:=0,Index:=0 }:Fault))
def Ng (e_:ForgeEntry):Option (Int×Fault) :=
(if decide (e_.User < 0) then some true else some (decide (e_.User ≥ 4))).bind fun x1 =>
(if x1 then some true else some (decide (e_.Number < 1))).bind fun x2 =>
(if x2 then some true else some (decide (e_.Number > 40))).bind fun x3 =>
 if x3 then
 some (0,({ Code:=3,Index:=(-2) }:Fault))
 else
(Cf e_.Patch).bind fun y1 =>
 if !(decide (y1.2.Code=0) && decide (y1.2.Index=0)) then
 some (0,y1.2)
 else
(Hd e_.User ([e_.Number]:List Int)).bind fun y2 =>
(Hd y2 ([y1.1]:List Int)).bind fun y3 =>
 some (y3,({ Code:=0,Index:=0 }:Fault))
def Ew.j1 (x1:List Int):Option (List Int) :=
 some x1
def Ew.l1 (s_:State_forge) (x2:Int) (x3:List Int):Option (Step (Int×(List Int)) (List Int)) :=
 if decide (x2 < (s_.log.length:Int)) then
(at? s_.log x2).bind fun y1 =>
(Ng y1).bind fun y2 =>
(app? 8 x3 ([y2.1]:List Int)).bind fun y3 =>
(ckK .i64 (x2+1)).bind fun z1 =>
 some (Step.next (z1,y3))
 else
 some (Step.done x3)
def Ew (s_:State_forge):Option (List Int) :=
(Gk (fun s=>Ew.l1 s_ s.1 s.2) (0,[])).bind fun r1 =>
 Ew.j1 r1
def O1 (keys:(List Int)) (events:B1):Option (Int×Fault) :=
(G5 keys events).bind fun y1 =>
(match y1 with
| .inl f1 =>
 some (0,f1)
| .inr (x1,z1) =>
(Ew x1).bind fun y2 =>
(Te y2).bind fun y3 =>
 some (y3.1,y3.2))
def Ey.body (rec_:(List Int)→Int→Option (List Int)) (leaves:(List Int)) (i_:Int):Option (List Int) :=
 if decide ((leaves.length:Int)=1) then
 some []
 else
(E0 (leaves.length:Int)).bind fun y1 =>
 if decide (i_ < y1) then
(cut? leaves 0 y1).bind fun y2 =>
(cut? leaves y1 (leaves.length:Int)).bind fun y3 =>
(rec_ y2 i_).bind fun y4 =>
(Co y3).bind fun y5 =>
(app? 8 y4 ([y5]:List Int)).bind fun y6 =>
 some y6
 else
(cut? leaves y1 (leaves.length:Int)).bind fun y7 =>
(ckK .i64 (i_ - y1)).bind fun z1 =>
(cut? leaves 0 y1).bind fun y8 =>
(rec_ y7 z1).bind fun y9 =>
(Co y8).bind fun y10 =>
(app? 8 y9 ([y10]:List Int)).bind fun y11 =>
 some y11
def Ey.m:Nat→(List Int)→Int→Option (List Int)
| 0=>fun _ _=>Option.none
| k+1=>Ey.body (Ey.m k)
def Ey (leaves:(List Int)) (i_:Int):Option (List Int):=Ey.m (64) leaves i_
def M6 (leaves:(List Int)) (i_:Int):Option ((List Int)×Fault) :=
(N2 leaves).bind fun y1 =>
 if !(decide (y1.Code=0) && decide (y1.Index=0)) then
 some ([],y1)
 else
(if decide (i_ < 0) then some true else some (decide (i_ ≥ (leaves.length:Int)))).bind fun x1 =>
 if x1 then
 some ([],({ Code:=3,Index:=(-1) }:Fault))
 else
(Ey leaves i_).bind fun y2 =>
 some (y2,({ Code:=0,Index:=0 }:Fault))
def Oy (keys:(List Int)) (events:B1) (i_:Int):Option ((List Int)×Fault) :=
(G5 keys events).bind fun y1 =>
(match y1 with
| .inl f1 =>
 some ([],f1)
| .inr (x1,z1) =>
(if decide (i_ < 0) then some true else some (decide (i_ ≥ (x1.log.length:Int)))).bind fun x2 =>
 if x2 then
 some ([],({ Code:=3,Index:=(-20) }:Fault))
 else
(Ew x1).bind fun y2 =>
(M6 y2 i_).bind fun y3 =>
 some (y3.1,y3.2))
def Ef.j1:Option Bool :=
 some true
def Ef.l1 (a_:(List Int)) (b_:(List Int)) (x1:Int):Option (Step Int (Bool ⊕ Unit)) :=
 if decide (x1 < (a_.length:Int)) then
(at? a_ x1).bind fun y1 =>
(at? b_ x1).bind fun y2 =>
 if !decide (y1=y2) then
 some (Step.done (Sum.inl false))
 else
(ckK .i64 (x1+1)).bind fun z1 =>
 some (Step.next z1)
 else
 some (Step.done (Sum.inr ()))
def Ef (a_:(List Int)) (b_:(List Int)):Option Bool :=
 if !decide ((a_.length:Int)=(b_.length:Int)) then
 some false
 else
(Gk (fun s=>Ef.l1 a_ b_ s) 0).bind fun r1 =>
(match r1 with
| .inl p=>some p
| .inr _=>Ef.j1)
def Dg.j1:Option Bool :=
 some true
def Dg.l1 (a_:Ag) (b_:Ag) (x1:Int):Option (Step Int (Bool ⊕ Unit)) :=
 if decide (x1 < (a_.length:Int)) then
(at? a_ x1).bind fun y1 =>
(at? b_ x1).bind fun y2 =>
 if !decide (y1=y2) then
 some (Step.done (Sum.inl false))
 else
(ckK .i64 (x1+1)).bind fun z1 =>
 some (Step.next z1)
 else
 some (Step.done (Sum.inr ()))
def Dg (a_:Ag) (b_:Ag):Option Bool :=
 if !decide ((a_.length:Int)=(b_.length:Int)) then
 some false
 else
(Gk (fun s=>Dg.l1 a_ b_ s) 0).bind fun r1 =>
(match r1 with
| .inl p=>some p
| .inr _=>Dg.j1)
def D7.j1:Option Bool :=
 some true
def D7.l1 (a_:Patch) (b_:Patch) (x1:Int):Option (Step Int (Bool ⊕ Unit)) :=
 if decide (x1 < (a_.Hunks.length:Int)) then
(at? a_.Hunks x1).bind fun y1 =>
(at? b_.Hunks x1).bind fun y2 =>
(if !decide (y1.At=y2.At) then some true else (at? a_.Hunks x1).bind fun y3 =>
(at? b_.Hunks x1).bind fun y4 =>
(Dg y3.Old y4.Old).bind fun y5 =>
 some !y5).bind fun x3 =>
(if x3 then some true else (at? a_.Hunks x1).bind fun y6 =>
(at? b_.Hunks x1).bind fun y7 =>
(Dg y6.New y7.New).bind fun y8 =>
 some !y8).bind fun x4 =>
 if x4 then
 some (Step.done (Sum.inl false))
 else
(ckK .i64 (x1+1)).bind fun z1 =>
 some (Step.next z1)
 else
 some (Step.done (Sum.inr ()))
def D7 (a_:Patch) (b_:Patch):Option Bool :=
 if !decide ((a_.Hunks.length:Int)=(b_.Hunks.length:Int)) then
 some false
 else
(Gk (fun s=>D7.l1 a_ b_ s) 0).bind fun r1 =>
(match r1 with
| .inl p=>some p
| .inr _=>D7.j1)
def K4 (a_:TreeChange) (b_:TreeChange):Option Bool :=
(if decide (a_.Kind=b_.Kind) then some (decide (a_.Path=b_.Path)) else some false).bind fun x1 =>
(if x1 then some (decide (a_.To=b_.To)) else some false).bind fun x2 =>
(if x2 then (Dg a_.Lines b_.Lines).bind fun y1 =>
 some y1 else some false).bind fun x3 =>
(if x3 then (D7 a_.Patch b_.Patch).bind fun y2 =>
 some y2 else some false).bind fun x4 =>
 some x4
def Dj.j1:Option Bool :=
 some true
def Dj.l1 (a_:TreePatch) (b_:TreePatch) (x1:Int):Option (Step Int (Bool ⊕ Unit)) :=
 if decide (x1 < (a_.Changes.length:Int)) then
(at? a_.Changes x1).bind fun y1 =>
(at? b_.Changes x1).bind fun y2 =>
(K4 y1 y2).bind fun y3 =>
 if !y3 then
 some (Step.done (Sum.inl false))
 else
(ckK .i64 (x1+1)).bind fun z1 =>
 some (Step.next z1)
 else
 some (Step.done (Sum.inr ()))
def Dj (a_:TreePatch) (b_:TreePatch):Option Bool :=
 if !decide ((a_.Changes.length:Int)=(b_.Changes.length:Int)) then
 some false
 else
(Gk (fun s=>Dj.l1 a_ b_ s) 0).bind fun r1 =>
(match r1 with
| .inl p=>some p
| .inr _=>Dj.j1)
def Cc.j1:Option Bool :=
 some true
def Cc.l1 (a_:Df) (b_:Df) (x1:Int):Option (Step Int (Bool ⊕ Unit)) :=
 if decide (x1 < (a_.length:Int)) then
(at? a_ x1).bind fun y1 =>
(at? b_ x1).bind fun y2 =>
(if !decide (y1.User=y2.User) then some true else (at? a_ x1).bind fun y3 =>
(at? b_ x1).bind fun y4 =>
 some (!decide (y3.Number=y4.Number))).bind fun x3 =>
(if x3 then some true else (at? a_ x1).bind fun y5 =>
(at? b_ x1).bind fun y6 =>
(Dj y5.Patch y6.Patch).bind fun y7 =>
 some !y7).bind fun x4 =>
 if x4 then
 some (Step.done (Sum.inl false))
 else
(ckK .i64 (x1+1)).bind fun z1 =>
 some (Step.next z1)
 else
 some (Step.done (Sum.inr ()))
def Cc (a_:Df) (b_:Df):Option Bool :=
 if !decide ((a_.length:Int)=(b_.length:Int)) then
 some false
 else
(Gk (fun s=>Cc.l1 a_ b_ s) 0).bind fun r1 =>
(match r1 with
| .inl p=>some p
| .inr _=>Cc.j1)
def Np (c_:TreeChange):Option TreePatch :=
 some ({ Changes:=([c_]:A0) }:TreePatch)
def En.j1:Option Bool :=
 some true
def En.l1 (a_:FileTree) (b_:FileTree) (x1:Int):Option (Step Int (Bool ⊕ Unit)) :=
 if decide (x1 < (a_.Files.length:Int)) then
(at? a_.Files x1).bind fun y1 =>
(at? b_.Files x1).bind fun y2 =>
(if !decide (y1.Path=y2.Path) then some true else (at? a_.Files x1).bind fun y3 =>
(at? b_.Files x1).bind fun y4 =>
(Dg y3.Lines y4.Lines).bind fun y5 =>
 some !y5).bind fun x3 =>
 if x3 then
 some (Step.done (Sum.inl false))
 else
(ckK .i64 (x1+1)).bind fun z1 =>
 some (Step.next z1)
 else
 some (Step.done (Sum.inr ()))
def En (a_:FileTree) (b_:FileTree):Option Bool :=
 if !decide ((a_.Files.length:Int)=(b_.Files.length:Int)) then
 some false
 else
(Gk (fun s=>En.l1 a_ b_ s) 0).bind fun r1 =>
(match r1 with
| .inl p=>some p
| .inr _=>En.j1)
def O7 (path:ByteArray) (l_:Ag):Option FileTree :=
 some ({ Files:=([({ Path:=path,Lines:=l_ }:File)]:Ao) }:FileTree)
def Cx.j1 (x1:Bool):Option Bool :=
 some x1
def Cx:Option Bool :=
(Np ({ Kind:=1,Path:=(⟨#[97]⟩:ByteArray),To:=ByteArray.empty,Lines:=([(⟨#[120]⟩:ByteArray)]:Ag),Patch:=({ Hunks:=[] }:Patch) }:TreeChange)).bind fun y1 =>
(Mu ([5]:List Int) ([({ Kind:=2,User:=0,Key:=0,N:=0,Patch:=y1 }:ForgeEvent),({ Kind:=3,User:=0,Key:=5,N:=0,Patch:=({ Changes:=[] }:TreePatch) }:ForgeEvent),({ Kind:=4,User:=0,Key:=0,N:=0,Patch:=({ Changes:=[] }:TreePatch) }:ForgeEvent)]:B1)).bind fun y2 =>
 if decide (y2.2.2.2.Code=0) then
(O7 (⟨#[97]⟩:ByteArray) ([(⟨#[120]⟩:ByteArray)]:Ag)).bind fun y3 =>
(En y2.1 y3).bind fun y4 =>
 if y4 then
(Cc y2.2.1 ([({ User:=0,Number:=1,Patch:=y1 }:ForgeEntry)]:Df)).bind fun y5 =>
 if y5 then
(Ef y2.2.2.1 ([0,0,0]:List Int)).bind fun y6 =>
 Cx.j1 y6
 else
 Cx.j1 false
 else
 Cx.j1 false
 else
 Cx.j1 false
def Qw (code:Int) (index:Int):Option Fault :=
 some ({ Code:=code,Index:=index }:Fault)
def B8.j1 (i_:Int) (y1:FileTree×Df×(List Int)×Fault) (y2:Int×Fault) (y3:(List Int)×Fault) (x5:List Int):Option Bool :=
(Te x5).bind fun y5 =>
(if !decide (y5.2.Code=0) then some true else some (!decide (y2.2.Code=0))).bind fun x6 =>
(if x6 then some true else some (!decide (y2.1=y5.1))).bind fun x7 =>
 if x7 then
 some false
 else
(if decide (i_ < 0) then some true else some (decide (i_ ≥ (y1.2.1.length:Int)))).bind fun x8 =>
 if x8 then
(Qw 3 (-20)).bind fun y6 =>
(if decide (y3.2.Code=y6.Code) && decide (y3.2.Index=y6.Index) then some (decide ((y3.1.length:Int)=0)) else some false).bind fun x9 =>
(if x9 then (Cx).bind fun y7 =>
 some y7 else some false).bind fun x10 =>
 some x10
 else
(M6 x5 i_).bind fun y8 =>
(if decide (y8.2.Code=0) then some (decide (y3.2.Code=0)) else some false).bind fun x11 =>
(if x11 then (Ef y3.1 y8.1).bind fun y9 =>
 some y9 else some false).bind fun x12 =>
(if x12 then (Cx).bind fun y10 =>
 some y10 else some false).bind fun x13 =>
 some x13
def B8.l1 (y1:FileTree×Df×(List Int)×Fault) (x14:Int) (x15:List Int):Option (Step (Int×(List Int)) (Bool ⊕ (List Int))) :=
 if decide (x14 < (y1.2.1.length:Int)) then
(at? y1.2.1 x14).bind fun y11 =>
(Ng y11).bind fun y12 =>
 if !decide (y12.2.Code=0) then
 some (Step.done (Sum.inl false))
 else
(app? 8 x15 ([y12.1]:List Int)).bind fun y13 =>
(ckK .i64 (x14+1)).bind fun z1 =>
 some (Step.next (z1,y13))
 else
 some (Step.done (Sum.inr x15))
def B8 (keys:(List Int)) (events:B1) (i_:Int):Option Bool :=
(Mu keys events).bind fun y1 =>
(O1 keys events).bind fun y2 =>
(Oy keys events i_).bind fun y3 =>
 if !decide (y1.2.2.2.Code=0) then
(if decide (y2.2.Code=y1.2.2.2.Code) && decide (y2.2.Index=y1.2.2.2.Index) then some (decide (y3.2.Code=y1.2.2.2.Code) && decide (y3.2.Index=y1.2.2.2.Index)) else some false).bind fun x1 =>
(if x1 then some (decide (y2.1=0)) else some false).bind fun x2 =>
(if x2 then some (decide ((y3.1.length:Int)=0)) else some false).bind fun x3 =>
(if x3 then (Cx).bind fun y4 =>
 some y4 else some false).bind fun x4 =>
 some x4
 else
(Gk (fun s=>B8.l1 y1 s.1 s.2) (0,[])).bind fun r1 =>
(match r1 with
| .inl p=>some p
| .inr p=>B8.j1 i_ y1 y2 y3 p)
def Cr.body (rec_:(List Int)→Int→Bool→Option (List Int)) (leaves:(List Int)) (m_:Int) (known:Bool):Option (List Int) :=
 if decide (m_=(leaves.length:Int)) then
 if known then
 some []
 else
(Co leaves).bind fun y1 =>
 some ([y1]:List Int)
 else
(E0 (leaves.length:Int)).bind fun y2 =>
 if decide (m_≤y2) then
(cut? leaves 0 y2).bind fun y3 =>
(cut? leaves y2 (leaves.length:Int)).bind fun y4 =>
(rec_ y3 m_ known).bind fun y5 =>
(Co y4).bind fun y6 =>
(app? 8 y5 ([y6]:List Int)).bind fun y7 =>
 some y7
 else
(cut? leaves y2 (leaves.length:Int)).bind fun y8 =>
(ckK .i64 (m_ - y2)).bind fun z1 =>
(cut? leaves 0 y2).bind fun y9 =>
(rec_ y8 z1 false).bind fun y10 =>
(Co y9).bind fun y11 =>
(app? 8 y10 ([y11]:List Int)).bind fun y12 =>
 some y12
def Cr.m:Nat→(List Int)→Int→Bool→Option (List Int)
| 0=>fun _ _ _=>Option.none
| k+1=>Cr.body (Cr.m k)
def Cr (leaves:(List Int)) (m_:Int) (known:Bool):Option (List Int):=Cr.m (64) leaves m_ known
def Lf (leaves:(List Int)) (m_:Int):Option ((List Int)×Fault) :=
(N2 leaves).bind fun y1 =>
 if !(decide (y1.Code=0) && decide (y1.Index=0)) then
 some ([],y1)
 else
(if decide (m_ < 1) then some true else some (decide (m_ > (leaves.length:Int)))).bind fun x1 =>
 if x1 then
 some ([],({ Code:=3,Index:=(-1) }:Fault))
 else
(Cr leaves m_ true).bind fun y2 =>
 some (y2,({ Code:=0,Index:=0 }:Fault))
def Mh (proof:(List Int)):Option Fault :=
 if decide ((proof.length:Int) > 64) then
 some ({ Code:=2,Index:=(-1) }:Fault)
 else
(Hj 4 proof).bind fun y1 =>
 some y1
def Ka (r_:Reader_translog):Option (Int×Reader_translog) :=
 if decide ((r_.proof.length:Int)=0) then
 some (0,({ proof:=r_.proof,short:=true }:Reader_translog))
 else
(at? r_.proof 0).bind fun y1 =>
(cut? r_.proof 1 (r_.proof.length:Int)).bind fun y2 =>
 some (y1,({ proof:=y2,short:=r_.short }:Reader_translog))
def Bm.j1 (x1:Int) (x2:List Int) (x3:Bool):Option (Int×Int×Reader_translog) :=
 some (x1,x1,({ proof:=x2,short:=x3 }:Reader_translog))
def Bm.body (rec_:Reader_translog→Int→Int→Int→Bool→Option (Int×Int×Reader_translog)) (r_:Reader_translog) (n_:Int) (m_:Int) (old_:Int) (known:Bool):Option (Int×Int×Reader_translog) :=
 if decide (m_=n_) then
 if !known then
(Ka r_).bind fun y1 =>
 Bm.j1 y1.1 y1.2.proof y1.2.short
 else
 Bm.j1 old_ r_.proof r_.short
 else
(E0 n_).bind fun y2 =>
 if decide (m_≤y2) then
(rec_ r_ y2 m_ old_ known).bind fun y3 =>
(Ka y3.2.2).bind fun y4 =>
(L9 y3.2.1 y4.1).bind fun y5 =>
 some (y3.1,y5,y4.2)
 else
(ckK .i64 (n_ - y2)).bind fun z1 =>
(ckK .i64 (m_ - y2)).bind fun z2 =>
(rec_ r_ z1 z2 old_ false).bind fun y6 =>
(Ka y6.2.2).bind fun y7 =>
(L9 y7.1 y6.1).bind fun y8 =>
(L9 y7.1 y6.2.1).bind fun y9 =>
 some (y8,y9,y7.2)
def Bm.m:Nat→Reader_translog→Int→Int→Int→Bool→Option (Int×Int×Reader_translog)
| 0=>fun _ _ _ _ _=>Option.none
| k+1=>Bm.body (Bm.m k)
def Bm (r_:Reader_translog) (n_:Int) (m_:Int) (old_:Int) (known:Bool):Option (Int×Int×Reader_translog):=Bm.m (64) r_ n_ m_ old_ known
def Mn (r_:Reader_translog):Option Bool :=
(if !r_.short then some (decide ((r_.proof.length:Int)=0)) else some false).bind fun x1 =>
 some x1
def Ca.j1 (oldRoot:Int) (m_:Int) (newRoot:Int) (n_:Int) (proof:(List Int)):Option (Bool×Fault) :=
(Mh proof).bind fun y3 =>
 if !(decide (y3.Code=0) && decide (y3.Index=0)) then
 some (false,y3)
 else
(Bm ({ proof:=proof,short:=false }:Reader_translog) n_ m_ oldRoot true).bind fun y4 =>
(if decide (y4.1=oldRoot) then some (decide (y4.2.1=newRoot)) else some false).bind fun x3 =>
(if x3 then (Mn y4.2.2).bind fun y5 =>
 some y5 else some false).bind fun x4 =>
 some (x4,({ Code:=0,Index:=0 }:Fault))
def Ca.l1 (y1:Bool) (x1:Bool) (y2:Bool) (x2:Bool) (x5:Int):Option (Step Int ((Bool×Fault) ⊕ Unit)) :=
 if decide (x5 < 4) then
(at? ([y1,x1,y2,x2]:List Bool) x5).bind fun y6 =>
 if !y6 then
 some (Step.done (Sum.inl (false,({ Code:=3,Index:=x5 }:Fault))))
 else
(ckK .i64 (x5+1)).bind fun z1 =>
 some (Step.next z1)
 else
 some (Step.done (Sum.inr ()))
def Ca (oldRoot:Int) (m_:Int) (newRoot:Int) (n_:Int) (proof:(List Int)):Option (Bool×Fault) :=
(Kn oldRoot).bind fun y1 =>
(if decide (m_ ≥ 1) then some (decide (m_≤n_)) else some false).bind fun x1 =>
(Kn newRoot).bind fun y2 =>
(if decide (n_ ≥ 1) then some (decide (n_≤64)) else some false).bind fun x2 =>
(Gk (fun s=>Ca.l1 y1 x1 y2 x2 s) 0).bind fun r1 =>
(match r1 with
| .inl p=>some p
| .inr _=>Ca.j1 oldRoot m_ newRoot n_ proof)
def Cv.j1 (keys:(List Int)) (events:B1) (k_:Int) (y2:FileTree×Df×(List Int)×Fault) (y4:FileTree×Df×(List Int)×Fault) (x5:List Int):Option Bool :=
 if decide ((y4.2.1.length:Int)=0) then
(Cx).bind fun y8 =>
 some y8
 else
(cut? events 0 k_).bind fun y9 =>
(O1 keys y9).bind fun y10 =>
(O1 keys events).bind fun y11 =>
(Lf x5 (y4.2.1.length:Int)).bind fun y12 =>
(Ca y10.1 (y4.2.1.length:Int) y11.1 (y2.2.1.length:Int) y12.1).bind fun y13 =>
(if decide (y10.2.Code=0) then some (decide (y11.2.Code=0)) else some false).bind fun x6 =>
(if x6 then some (decide (y12.2.Code=0)) else some false).bind fun x7 =>
(if x7 then some (decide (y13.2.Code=0)) else some false).bind fun x8 =>
(if x8 then some y13.1 else some false).bind fun x9 =>
(if x9 then (Cx).bind fun y14 =>
 some y14 else some false).bind fun x10 =>
 some x10
def Cv.l1 (y2:FileTree×Df×(List Int)×Fault) (x11:Int) (x12:List Int):Option (Step (Int×(List Int)) (Bool ⊕ (List Int))) :=
 if decide (x11 < (y2.2.1.length:Int)) then
(at? y2.2.1 x11).bind fun y15 =>
(Ng y15).bind fun y16 =>
 if !decide (y16.2.Code=0) then
 some (Step.done (Sum.inl false))
 else
(app? 8 x12 ([y16.1]:List Int)).bind fun y17 =>
(ckK .i64 (x11+1)).bind fun z1 =>
 some (Step.next (z1,y17))
 else
 some (Step.done (Sum.inr x12))
def Cv (keys:(List Int)) (events:B1) (k_:Int):Option Bool :=
(if decide (k_ < 0) then some true else some (decide (k_ > (events.length:Int)))).bind fun x1 =>
 if x1 then
(Cx).bind fun y1 =>
 some y1
 else
(Mu keys events).bind fun y2 =>
(cut? events 0 k_).bind fun y3 =>
(Mu keys y3).bind fun y4 =>
(if !decide (y2.2.2.2.Code=0) then some true else some (!decide (y4.2.2.2.Code=0))).bind fun x2 =>
 if x2 then
(if !decide (y2.2.2.2.Code=0) then (Cx).bind fun y5 =>
 some y5 else some false).bind fun x3 =>
 some x3
 else
(if decide ((y4.2.1.length:Int) > (y2.2.1.length:Int)) then some true else (cut? y2.2.1 0 (y4.2.1.length:Int)).bind fun y6 =>
(Cc y4.2.1 y6).bind fun y7 =>
 some !y7).bind fun x4 =>
 if x4 then
 some false
 else
(Gk (fun s=>Cv.l1 y2 s.1 s.2) (0,[])).bind fun r1 =>
(match r1 with
| .inl p=>some p
| .inr p=>Cv.j1 keys events k_ y2 y4 p)
def B3.body (rec_:Reader_translog→Int→Int→Int→Option (Int×Reader_translog)) (r_:Reader_translog) (n_:Int) (i_:Int) (leaf:Int):Option (Int×Reader_translog) :=
 if decide (n_=1) then
 some (leaf,r_)
 else
(E0 n_).bind fun y1 =>
 if decide (i_ < y1) then
(rec_ r_ y1 i_ leaf).bind fun y2 =>
(Ka y2.2).bind fun y3 =>
(L9 y2.1 y3.1).bind fun y4 =>
 some (y4,y3.2)
 else
(ckK .i64 (n_ - y1)).bind fun z1 =>
(ckK .i64 (i_ - y1)).bind fun z2 =>
(rec_ r_ z1 z2 leaf).bind fun y5 =>
(Ka y5.2).bind fun y6 =>
(L9 y6.1 y5.1).bind fun y7 =>
 some (y7,y6.2)
def B3.m:Nat→Reader_translog→Int→Int→Int→Option (Int×Reader_translog)
| 0=>fun _ _ _ _=>Option.none
| k+1=>B3.body (B3.m k)
def B3 (r_:Reader_translog) (n_:Int) (i_:Int) (leaf:Int):Option (Int×Reader_translog):=B3.m (64) r_ n_ i_ leaf
def E4.j1 (root:Int) (n_:Int) (i_:Int) (leaf:Int) (proof:(List Int)):Option (Bool×Fault) :=
(Mh proof).bind fun y3 =>
 if !(decide (y3.Code=0) && decide (y3.Index=0)) then
 some (false,y3)
 else
(B3 ({ proof:=proof,short:=false }:Reader_translog) n_ i_ leaf).bind fun y4 =>
(if decide (y4.1=root) then (Mn y4.2).bind fun y5 =>
 some y5 else some false).bind fun x3 =>
 some (x3,({ Code:=0,Index:=0 }:Fault))
def E4.l1 (y1:Bool) (x1:Bool) (x2:Bool) (y2:Bool) (x4:Int):Option (Step Int ((Bool×Fault) ⊕ Unit)) :=
 if decide (x4 < 4) then
(at? ([y1,x1,x2,y2]:List Bool) x4).bind fun y6 =>
 if !y6 then
 some (Step.done (Sum.inl (false,({ Code:=3,Index:=x4 }:Fault))))
 else
(ckK .i64 (x4+1)).bind fun z1 =>
 some (Step.next z1)
 else
 some (Step.done (Sum.inr ()))
def E4 (root:Int) (n_:Int) (i_:Int) (leaf:Int) (proof:(List Int)):Option (Bool×Fault) :=
(Kn root).bind fun y1 =>
(if decide (n_ ≥ 1) then some (decide (n_≤64)) else some false).bind fun x1 =>
(if decide (i_ ≥ 0) then some (decide (i_ < n_)) else some false).bind fun x2 =>
(Kn leaf).bind fun y2 =>
(Gk (fun s=>E4.l1 y1 x1 x2 y2 s) 0).bind fun r1 =>
(match r1 with
| .inl p=>some p
| .inr _=>E4.j1 root n_ i_ leaf proof)
def Lx (keys:(List Int)) (events:B1) (i_:Int):Option Bool :=
(Mu keys events).bind fun y1 =>
(Oy keys events i_).bind fun y2 =>
(O1 keys events).bind fun y3 =>
(if !decide (y1.2.2.2.Code=0) then some true else some (!decide (y2.2.Code=0))).bind fun x1 =>
(if x1 then some true else some (!decide (y3.2.Code=0))).bind fun x2 =>
(if x2 then some true else some (decide (i_ < 0))).bind fun x3 =>
(if x3 then some true else some (decide (i_ ≥ (y1.2.1.length:Int)))).bind fun x4 =>
 if x4 then
(Cx).bind fun y4 =>
 some y4
 else
(at? y1.2.1 i_).bind fun y5 =>
(Ng y5).bind fun y6 =>
(E4 y3.1 (y1.2.1.length:Int) i_ y6.1 y2.1).bind fun y7 =>
(if decide (y6.2.Code=0) then some (decide (y7.2.Code=0)) else some false).bind fun x5 =>
(if x5 then some y7.1 else some false).bind fun x6 =>
(if x6 then (Cx).bind fun y8 =>
 some y8 else some false).bind fun x7 =>
 some x7
end Go.Dc
