import Derived.Test.YtfpbdmldeikfbaaGreatDoorDcTy
import Derived.Test.YtfpbdmldeikfbaaGreatDoorDcRS
set_option linter.unusedSimpArgs false
set_option linter.unusedVariables false
noncomputable section
namespace Go.Dc
open Go
set_option linter.unusedVariables false
def O7 (n_:Int):Option Bool :=
(if decide (n_ ≥ 1) then some (decide (n_≤1000000000)) else some false).bind fun x1 =>
 some x1
def L5 (s_:ByteArray) (c_:Int):Option Int :=
 some (idxB s_ c_)
def T7 (s_:ByteArray):Option Int :=
 if decide ((⟨#[47]⟩:ByteArray)=s_) then
 some 0
 else
(sAt? (⟨#[47]⟩:ByteArray) 0).bind fun y1 =>
(L5 s_ y1).bind fun y2 =>
 some y2
def Vt (s_:ByteArray):Option Int :=
(T7 s_).bind fun y1 =>
 some y1
def M3 (c_:Int):Option Bool :=
(if decide (c_ ≥ 97) then some (decide (c_≤122)) else some false).bind fun x1 =>
(if x1 then some true else (if decide (c_ ≥ 65) then some (decide (c_≤90)) else some false).bind fun x3 =>
 some x3).bind fun x2 =>
(if x2 then some true else (if decide (c_ ≥ 48) then some (decide (c_≤57)) else some false).bind fun x5 =>
 some x5).bind fun x4 =>
(if x4 then some true else some (decide (c_=46))).bind fun x6 =>
(if x6 then some true else some (decide (c_=95))).bind fun x7 =>
(if x7 then some true else some (decide (c_=45))).bind fun x8 =>
 some x8
abbrev Bc.j2:Option Bool :=
 some false
abbrev Bc.j3:Option Bool :=
 some true
abbrev Bc.j4:Option Bool :=
 Bc.j3
abbrev Bc.l1 (x1:ByteArray) (x4:Int):Option (Step Int (Unit ⊕ Unit)) :=
 if decide (x4 < (x1.size:Int)) then
(sAt? x1 x4).bind fun y1 =>
(M3 y1).bind fun y2 =>
 if !y2 then
 some (Step.done (Sum.inl ()))
 else
(ckK .i64 (x4+1)).bind fun z1 =>
 some (Step.next z1)
 else
 some (Step.done (Sum.inr ()))
abbrev Bc.j1 (x1:ByteArray):Option Bool :=
(if decide (x1=(⟨#[]⟩:ByteArray)) then some true else some (decide (x1=(⟨#[46]⟩:ByteArray)))).bind fun x2 =>
(if x2 then some true else some (decide (x1=(⟨#[46,46]⟩:ByteArray)))).bind fun x3 =>
 if x3 then
 Bc.j2
 else
(C7 (fun s=>Bc.l1 x1 s) 0).bind fun r1 =>
(match r1 with
| .inl _=>Bc.j2
| .inr _=>Bc.j4)
abbrev Bc.j5:Option (Step ByteArray (Bool ⊕ ByteArray)) :=
 some (Step.done (Sum.inl false))
abbrev Bc.j6 (x6:ByteArray) (y3:Int):Option (Step ByteArray (Bool ⊕ ByteArray)) :=
(ckK .i64 (y3+1)).bind fun z3 =>
(scut? x6 z3 (x6.size:Int)).bind fun y5 =>
 some (Step.next y5)
abbrev Bc.j7 (x6:ByteArray) (y3:Int):Option (Step ByteArray (Bool ⊕ ByteArray)) :=
 Bc.j6 x6 y3
abbrev Bc.l3 (y4:ByteArray) (x10:Int):Option (Step Int (Unit ⊕ Unit)) :=
 if decide (x10 < (y4.size:Int)) then
(sAt? y4 x10).bind fun y6 =>
(M3 y6).bind fun y7 =>
 if !y7 then
 some (Step.done (Sum.inl ()))
 else
(ckK .i64 (x10+1)).bind fun z4 =>
 some (Step.next z4)
 else
 some (Step.done (Sum.inr ()))
abbrev Bc.l2 (x6:ByteArray):Option (Step ByteArray (Bool ⊕ ByteArray)) :=
(Vt x6).bind fun y3 =>
 if decide (y3 < 0) then
 some (Step.done (Sum.inr x6))
 else
(ckK .i64 (y3+0)).bind fun z2 =>
(scut? x6 0 z2).bind fun y4 =>
(if decide (y4=(⟨#[]⟩:ByteArray)) then some true else some (decide (y4=(⟨#[46]⟩:ByteArray)))).bind fun x8 =>
(if x8 then some true else some (decide (y4=(⟨#[46,46]⟩:ByteArray)))).bind fun x9 =>
 if x9 then
 Bc.j5
 else
(C7 (fun s=>Bc.l3 y4 s) 0).bind fun r3 =>
(match r3 with
| .inl _=>Bc.j5
| .inr _=>Bc.j7 x6 y3)
def Bc (path:ByteArray):Option Bool :=
 if decide ((path.size:Int) > 60) then
 some false
 else
(C7 (fun s=>Bc.l2 s) path).bind fun r2 =>
(match r2 with
| .inl p=>some p
| .inr p=>Bc.j1 p)
def Ob (s_:ByteArray) (prefix_:ByteArray):Option Bool :=
(if decide ((s_.size:Int) ≥ (prefix_.size:Int)) then (scut? s_ 0 (prefix_.size:Int)).bind fun y1 =>
 some (decide (y1=prefix_)) else some false).bind fun x1 =>
 some x1
def Nq (s_:ByteArray) (prefix_:ByteArray):Option Bool :=
(Ob s_ prefix_).bind fun y1 =>
 some y1
def L1 (a_:ByteArray) (b_:ByteArray):Option Bool :=
(if decide (a_=b_) then some true else (cat? b_ (⟨#[47]⟩:ByteArray)).bind fun z1 =>
(Nq a_ z1).bind fun y1 =>
 some y1).bind fun x1 =>
(if x1 then some true else (cat? a_ (⟨#[47]⟩:ByteArray)).bind fun z2 =>
(Nq b_ z2).bind fun y2 =>
 some y2).bind fun x2 =>
 some x2
def Ov (s_:ByteArray) (c_:Int):Option Int :=
(L5 s_ c_).bind fun y1 =>
 some y1
abbrev Gm.j1:Option Fault :=
 some ({ Code:=0,Index:=0 }:Fault)
abbrev Gm.l1 (lines:Ab) (x1:Int):Option (Step Int (Fault ⊕ Unit)) :=
 if decide (x1 < (lines.length:Int)) then
(at? lines x1).bind fun y1 =>
 if decide ((y1.size:Int) > 80) then
 some (Step.done (Sum.inl ({ Code:=2,Index:=x1 }:Fault)))
 else
(Ov y1 10).bind fun y2 =>
 if decide (y2 ≥ 0) then
 some (Step.done (Sum.inl ({ Code:=5,Index:=x1 }:Fault)))
 else
(ckK .i64 (x1+1)).bind fun z1 =>
 some (Step.next z1)
 else
 some (Step.done (Sum.inr ()))
def Gm (lines:Ab):Option Fault :=
 if decide ((lines.length:Int) > 120) then
 some ({ Code:=2,Index:=(-1) }:Fault)
 else
(C7 (fun s=>Gm.l1 lines s) 0).bind fun r1 =>
(match r1 with
| .inl p=>some p
| .inr _=>Gm.j1)
def M7 (h_:Hunk):Option Int :=
(ckK .i64 (h_.At+(h_.Old.length:Int))).bind fun z1 =>
 some z1
abbrev Ho.j1 (h_:Hunk) (end_:Int):Option Int :=
(ckK .i64 ((h_.Old.length:Int)+(h_.New.length:Int))).bind fun z1 =>
(if decide (z1=0) then some true else some (decide (h_.At≤end_))).bind fun x2 =>
 if x2 then
 some 5
 else
(M7 h_).bind fun y1 =>
 if decide (y1 > 120) then
 some 3
 else
 some 0
abbrev Ho.l1 (h_:Hunk) (x3:Int):Option (Step Int (Int ⊕ Unit)) :=
 if decide (x3 < 2) then
(at? ([h_.Old,h_.New]:List Ab) x3).bind fun y2 =>
(Gm y2).bind fun y3 =>
 if !(decide (y3.Code=0) && decide (y3.Index=0)) then
 some (Step.done (Sum.inl y3.Code))
 else
(ckK .i64 (x3+1)).bind fun z2 =>
 some (Step.next z2)
 else
 some (Step.done (Sum.inr ()))
def Ho (h_:Hunk) (end_:Int):Option Int :=
(if decide (h_.At < 0) then some true else some (decide (h_.At > 120))).bind fun x1 =>
 if x1 then
 some 3
 else
(C7 (fun s=>Ho.l1 h_ s) 0).bind fun r1 =>
(match r1 with
| .inl p=>some p
| .inr _=>Ho.j1 h_ end_)
abbrev Gi.j1:Option Fault :=
 some ({ Code:=0,Index:=0 }:Fault)
abbrev Gi.l1 (p_:Patch) (x1:Int) (x2:Int):Option (Step (Int×Int) (Fault ⊕ Unit)) :=
 if decide (x1 < (p_.Hunks.length:Int)) then
(at? p_.Hunks x1).bind fun y1 =>
(Ho y1 x2).bind fun y2 =>
 if !decide (y2=0) then
 some (Step.done (Sum.inl ({ Code:=y2,Index:=x1 }:Fault)))
 else
(M7 y1).bind fun y3 =>
(ckK .i64 (x1+1)).bind fun z1 =>
 some (Step.next (z1,y3))
 else
 some (Step.done (Sum.inr ()))
def Gi (p_:Patch):Option Fault :=
 if decide ((p_.Hunks.length:Int) > 130) then
 some ({ Code:=2,Index:=(-1) }:Fault)
 else
(C7 (fun s=>Gi.l1 p_ s.1 s.2) (0,(-1))).bind fun r1 =>
(match r1 with
| .inl p=>some p
| .inr _=>Gi.j1)
def Th (c_:TreeChange):Option Int :=
(if decide (c_.Kind < 1) then some true else some (decide (c_.Kind > 4))).bind fun x1 =>
 if x1 then
 some 4
 else
(Bc c_.Path).bind fun y1 =>
(if !y1 then some true else (if decide (c_.Kind=3) then (Bc c_.To).bind fun y2 =>
 some !y2 else some false).bind fun x3 =>
 some x3).bind fun x2 =>
 if x2 then
 some 12
 else
(if !(decide (c_.Kind=3)) then some (!decide (c_.To=(⟨#[]⟩:ByteArray))) else some false).bind fun x4 =>
(if x4 then some true else (if decide (c_.Kind=3) then (L1 c_.Path c_.To).bind fun y3 =>
 some y3 else some false).bind fun x6 =>
 some x6).bind fun x5 =>
 if x5 then
 some 5
 else
(if decide ((c_.Lines.length:Int) > 0) then (if decide (c_.Kind=4) then some true else some (decide (c_.Kind=3))).bind fun x8 =>
 some x8 else some false).bind fun x7 =>
 if x7 then
 some 5
 else
 if !decide (decide (c_.Kind=4)=decide ((c_.Patch.Hunks.length:Int) > 0)) then
 some 5
 else
(Gm c_.Lines).bind fun y4 =>
 if !(decide (y4.Code=0) && decide (y4.Index=0)) then
 some y4.Code
 else
(Gi c_.Patch).bind fun y5 =>
 some y5.Code
abbrev En.j1:Option Fault :=
 some ({ Code:=0,Index:=0 }:Fault)
abbrev En.l1 (p_:TreePatch) (x1:Int):Option (Step Int (Fault ⊕ Unit)) :=
 if decide (x1 < (p_.Changes.length:Int)) then
(at? p_.Changes x1).bind fun y1 =>
(Th y1).bind fun y2 =>
 if !decide (y2=0) then
 some (Step.done (Sum.inl ({ Code:=y2,Index:=x1 }:Fault)))
 else
(ckK .i64 (x1+1)).bind fun z1 =>
 some (Step.next z1)
 else
 some (Step.done (Sum.inr ()))
def En (p_:TreePatch):Option Fault :=
 if decide ((p_.Changes.length:Int) > 30) then
 some ({ Code:=2,Index:=(-1) }:Fault)
 else
(C7 (fun s=>En.l1 p_ s) 0).bind fun r1 =>
(match r1 with
| .inl p=>some p
| .inr _=>En.j1)
abbrev Eu.j2 (e_:ForgeEvent) (developers:Int) (x3:Bool):Option Int :=
 if x3 then
(if decide (e_.User < 0) then some true else some (decide (e_.User ≥ developers))).bind fun x4 =>
(if x4 then some true else (if decide (e_.Kind=3) then (O7 e_.Key).bind fun y1 =>
 some !y1 else some false).bind fun x6 =>
 some x6).bind fun x5 =>
 if x5 then
 some 3
 else
 if decide (e_.Kind=2) then
(En e_.Patch).bind fun y2 =>
 some y2.Code
 else
 some 0
 else
 some 4
abbrev Eu.j1 (e_:ForgeEvent) (developers:Int) (x1:Bool):Option Int :=
 if x1 then
(if decide (e_.N < 0) then some true else some (decide (e_.N > 1000000000))).bind fun x2 =>
 if x2 then
 some 3
 else
 some 0
 else
 if decide (e_.Kind=1) then
 Eu.j2 e_ developers (decide (e_.Kind=1))
 else
 if decide (e_.Kind=2) then
 Eu.j2 e_ developers (decide (e_.Kind=2))
 else
 if decide (e_.Kind=3) then
 Eu.j2 e_ developers (decide (e_.Kind=3))
 else
 Eu.j2 e_ developers (decide (e_.Kind=8))
def Eu (e_:ForgeEvent) (developers:Int):Option Int :=
 if decide (e_.Kind=4) then
 Eu.j1 e_ developers (decide (e_.Kind=4))
 else
 if decide (e_.Kind=5) then
 Eu.j1 e_ developers (decide (e_.Kind=5))
 else
 if decide (e_.Kind=6) then
 Eu.j1 e_ developers (decide (e_.Kind=6))
 else
 Eu.j1 e_ developers (decide (e_.Kind=7))
abbrev E9.j2:Option Fault :=
 some ({ Code:=0,Index:=0 }:Fault)
abbrev E9.l1 (keys:(List Int)) (events:Cx) (x2:Int):Option (Step Int (Fault ⊕ Unit)) :=
 if decide (x2 < (events.length:Int)) then
(at? events x2).bind fun y1 =>
(Eu y1 (keys.length:Int)).bind fun y2 =>
 if !decide (y2=0) then
 some (Step.done (Sum.inl ({ Code:=y2,Index:=x2 }:Fault)))
 else
(ckK .i64 (x2+1)).bind fun z1 =>
 some (Step.next z1)
 else
 some (Step.done (Sum.inr ()))
abbrev E9.j1 (keys:(List Int)) (events:Cx):Option Fault :=
 if decide ((events.length:Int) > 40) then
 some ({ Code:=2,Index:=(-1) }:Fault)
 else
(C7 (fun s=>E9.l1 keys events s) 0).bind fun r1 =>
(match r1 with
| .inl p=>some p
| .inr _=>E9.j2)
abbrev E9.l2 (keys:(List Int)) (x4:Int):Option (Step Int (Fault ⊕ Unit)) :=
 if decide (x4 < (keys.length:Int)) then
(at? keys x4).bind fun y3 =>
(O7 y3).bind fun y4 =>
 if !y4 then
(ckK .i64 ((-3) - x4)).bind fun z2 =>
 some (Step.done (Sum.inl ({ Code:=3,Index:=z2 }:Fault)))
 else
(ckK .i64 (x4+1)).bind fun z3 =>
 some (Step.next z3)
 else
 some (Step.done (Sum.inr ()))
def E9 (keys:(List Int)) (events:Cx):Option Fault :=
(if decide ((keys.length:Int)=0) then some true else some (decide ((keys.length:Int) > 4))).bind fun x1 =>
 if x1 then
 some ({ Code:=9,Index:=(-2) }:Fault)
 else
(C7 (fun s=>E9.l2 keys s) 0).bind fun r2 =>
(match r2 with
| .inl p=>some p
| .inr _=>E9.j1 keys events)
def Lf (s_:State_forge):Option FileTree :=
(ckK .i64 ((s_.versions.length:Int) - 1)).bind fun z1 =>
(at? s_.versions z1).bind fun y1 =>
 some y1
abbrev H1.j1:Option Bool :=
 some true
abbrev H1.l1 (s1_:Ab) (s2_:Ab) (x1:Int):Option (Step Int (Bool ⊕ Unit)) :=
 if decide (x1 < (s1_.length:Int)) then
(at? s1_ x1).bind fun y1 =>
(at? s2_ x1).bind fun y2 =>
 if !decide (y1=y2) then
 some (Step.done (Sum.inl false))
 else
(ckK .i64 (x1+1)).bind fun z1 =>
 some (Step.next z1)
 else
 some (Step.done (Sum.inr ()))
def H1 (s1_:Ab) (s2_:Ab):Option Bool :=
 if !decide ((s1_.length:Int)=(s2_.length:Int)) then
 some false
 else
(C7 (fun s=>H1.l1 s1_ s2_ s) 0).bind fun r1 =>
(match r1 with
| .inl p=>some p
| .inr _=>H1.j1)
def Oq (x_:File) (y:File):Option Bool :=
(if decide (x_.Path=y.Path) then (H1 x_.Lines y.Lines).bind fun y1 =>
 some y1 else some false).bind fun x1 =>
 some x1
abbrev Hq.j1 (x1:Bool):Option Bool :=
 some x1
abbrev Hq.j2:Option Bool :=
 Hq.j1 true
abbrev Hq.l1 (a_:FileTree) (b_:FileTree) (x2:Int):Option (Step Int (Bool ⊕ Unit)) :=
 if decide (x2 < (a_.Files.length:Int)) then
(at? a_.Files x2).bind fun y1 =>
(at? b_.Files x2).bind fun y2 =>
(Oq y1 y2).bind fun y3 =>
 if !y3 then
 some (Step.done (Sum.inl false))
 else
(ckK .i64 (x2+1)).bind fun z1 =>
 some (Step.next z1)
 else
 some (Step.done (Sum.inr ()))
def Hq (a_:FileTree) (b_:FileTree):Option Bool :=
 if !decide ((a_.Files.length:Int)=(b_.Files.length:Int)) then
 Hq.j1 false
 else
(C7 (fun s=>Hq.l1 a_ b_ s) 0).bind fun r1 =>
(match r1 with
| .inl p=>Hq.j1 p
| .inr _=>Hq.j2)
def Nw (s_:Ab):Option Ab :=
 nilIf s_ (
 some []) (
(app? 16 ([]:Ab) s_).bind fun y1 =>
 some y1)
abbrev Ez.j1 (x1:Ai):Option FileTree :=
 some ({ Files:=x1 }:FileTree)
abbrev Ez.l1 (t_:FileTree) (x2:Int) (x3:Ai):Option (Step (Int×Ai) Ai) :=
 if decide (x2 < (t_.Files.length:Int)) then
(at? t_.Files x2).bind fun y1 =>
(Nw y1.Lines).bind fun y2 =>
(app? 40 x3 ([({ Path:=y1.Path,Lines:=y2 }:File)]:Ai)).bind fun y3 =>
(ckK .i64 (x2+1)).bind fun z1 =>
 some (Step.next (z1,y3))
 else
 some (Step.done x3)
def Ez (t_:FileTree):Option FileTree :=
(C7 (fun s=>Ez.l1 t_ s.1 s.2) (0,[])).bind fun r1 =>
 Ez.j1 r1
abbrev Gr.j1:Option Bool :=
 some false
abbrev Gr.l1 (files:Ai) (path:ByteArray) (except:Int) (x1:Int):Option (Step Int (Bool ⊕ Unit)) :=
 if decide (x1 < (files.length:Int)) then
(at? files x1).bind fun y1 =>
(if !decide (x1=except) then (L1 y1.Path path).bind fun y2 =>
 some y2 else some false).bind fun x3 =>
 if x3 then
 some (Step.done (Sum.inl true))
 else
(ckK .i64 (x1+1)).bind fun z1 =>
 some (Step.next z1)
 else
 some (Step.done (Sum.inr ()))
def Gr (files:Ai) (path:ByteArray) (except:Int):Option Bool :=
(C7 (fun s=>Gr.l1 files path except s) 0).bind fun r1 =>
(match r1 with
| .inl p=>some p
| .inr _=>Gr.j1)
def M8 (b_:Ab) (index:Int):Option Fault :=
(Gm b_).bind fun y1 =>
 if !(decide (y1.Code=0) && decide (y1.Index=0)) then
 some ({ Code:=y1.Code,Index:=index }:Fault)
 else
 some ({ Code:=0,Index:=0 }:Fault)
abbrev G5.j1:Option Fault :=
 some ({ Code:=0,Index:=0 }:Fault)
abbrev G5.l1 (t_:FileTree) (x1:Int):Option (Step Int (Fault ⊕ Unit)) :=
 if decide (x1 < (t_.Files.length:Int)) then
(at? t_.Files x1).bind fun y1 =>
(Bc y1.Path).bind fun y2 =>
 if !y2 then
 some (Step.done (Sum.inl ({ Code:=12,Index:=x1 }:Fault)))
 else
(if decide (x1 > 0) then (ckK .i64 (x1 - 1)).bind fun z1 =>
(at? t_.Files z1).bind fun y3 =>
 some (sLt y1.Path y3.Path || decide (y1.Path=y3.Path)) else some false).bind fun x3 =>
 if x3 then
 some (Step.done (Sum.inl ({ Code:=5,Index:=x1 }:Fault)))
 else
(cut? t_.Files 0 x1).bind fun y4 =>
(Gr y4 y1.Path (-1)).bind fun y5 =>
 if y5 then
 some (Step.done (Sum.inl ({ Code:=7,Index:=x1 }:Fault)))
 else
(M8 y1.Lines x1).bind fun y6 =>
 if !(decide (y6.Code=0) && decide (y6.Index=0)) then
 some (Step.done (Sum.inl y6))
 else
(ckK .i64 (x1+1)).bind fun z2 =>
 some (Step.next z2)
 else
 some (Step.done (Sum.inr ()))
def G5 (t_:FileTree):Option Fault :=
 if decide ((t_.Files.length:Int) > 24) then
 some ({ Code:=2,Index:=(-1) }:Fault)
 else
(C7 (fun s=>G5.l1 t_ s) 0).bind fun r1 =>
(match r1 with
| .inl p=>some p
| .inr _=>G5.j1)
def N5 (t_:FileTree) (index:Int):Option Fault :=
(G5 t_).bind fun y1 =>
 if !(decide (y1.Code=0) && decide (y1.Index=0)) then
 some ({ Code:=y1.Code,Index:=index }:Fault)
 else
 some ({ Code:=0,Index:=0 }:Fault)
def Ts (a_:ByteArray) (b_:ByteArray):Option Int :=
 some (cmpB a_ b_)
def Yo (a_:ByteArray) (b_:ByteArray):Option Int :=
(Ts a_ b_).bind fun y1 =>
 some y1
def Ox (f:File) (path:ByteArray):Option Int :=
(Yo f.Path path).bind fun y1 =>
 some y1
abbrev Dz.j1 (files:Ai) (path:ByteArray) (x1:Int):Option (Int×Bool) :=
(if decide (x1 < (files.length:Int)) then (at? files x1).bind fun y1 =>
(Ox y1 path).bind fun y2 =>
 some (decide (y2=0)) else some false).bind fun x2 =>
 some (x1,x2)
abbrev Dz.l1 (files:Ai) (path:ByteArray) (x3:Int) (x4:Int):Option (Step (Int×Int) Int) :=
 if decide (x4 < x3) then
(ckK .i64 (x4+x3)).bind fun z1 =>
(ckK .u64 z1).bind fun z2 =>
(shr? .u64 z2 1).bind fun z3 =>
(ckK .i64 z3).bind fun z4 =>
(at? files z4).bind fun y3 =>
(Ox y3 path).bind fun y4 =>
 if decide (y4 < 0) then
(ckK .i64 (z4+1)).bind fun z5 =>
 some (Step.next (x3,z5))
 else
 some (Step.next (z4,x4))
 else
 some (Step.done x4)
def Dz (files:Ai) (path:ByteArray):Option (Int×Bool) :=
(C7 (fun s=>Dz.l1 files path s.1 s.2) ((files.length:Int),0)).bind fun r1 =>
 Dz.j1 files path r1
abbrev Kx.j1 (l_:Ab) (y1:Int×Bool) (x1:Ai):Option FileTree :=
(Nw l_).bind fun y2 =>
(at? x1 y1.1).bind fun y3 =>
(some (x1.set y1.1.toNat ({ Path:=y3.Path,Lines:=y2 }:File))).bind fun y4 =>
 some ({ Files:=y4 }:FileTree)
def Kx (t_:FileTree) (path:ByteArray) (l_:Ab):Option FileTree :=
(Dz t_.Files path).bind fun y1 =>
 if !y1.2 then
(ins? 40 t_.Files y1.1 ([({ Path:=path,Lines:=[] }:File)]:Ai)).bind fun y5 =>
 Kx.j1 l_ y1 y5
 else
 Kx.j1 l_ y1 t_.Files
def Uz (text:Ab) (part:Ab) (at_:Int):Option Bool :=
(if decide (at_ ≥ 0) then some (decide (at_≤(text.length:Int))) else some false).bind fun x1 =>
(if x1 then (ckK .i64 ((text.length:Int) - at_)).bind fun z1 =>
 some (decide ((part.length:Int)≤z1)) else some false).bind fun x2 =>
(if x2 then (ckK .i64 (at_+(part.length:Int))).bind fun z2 =>
(cut? text at_ z2).bind fun y1 =>
(H1 y1 part).bind fun y2 =>
 some y2 else some false).bind fun x3 =>
 some x3
abbrev E3.j1 (text:Ab) (high:Int) (x1:Ab) (x2:Int):Option Ab :=
(cut? text x2 high).bind fun y1 =>
(app? 16 x1 y1).bind fun y2 =>
 some y2
abbrev E3.l1 (hunks:A7) (text:Ab) (x3:Int) (x4:Ab) (x5:Int):Option (Step (Int×Ab×Int) (Ab×Int)) :=
 if decide (x3 < (hunks.length:Int)) then
(at? hunks x3).bind fun y3 =>
(cut? text x5 y3.At).bind fun y4 =>
(app? 16 x4 y4).bind fun y5 =>
(app? 16 y5 y3.New).bind fun y6 =>
(M7 y3).bind fun y7 =>
(ckK .i64 (x3+1)).bind fun z1 =>
 some (Step.next (z1,y6,y7))
 else
 some (Step.done (x4,x5))
def E3 (hunks:A7) (text:Ab) (low:Int) (high:Int):Option Ab :=
(C7 (fun s=>E3.l1 hunks text s.1 s.2.1 s.2.2) (0,[],low)).bind fun r1 =>
 E3.j1 text high r1.1 r1.2
abbrev Hi.j1 (p_:Patch) (text:Ab):Option (Ab×Fault) :=
(E3 p_.Hunks text 0 (text.length:Int)).bind fun y3 =>
 if decide ((y3.length:Int) > 120) then
 some ([],({ Code:=10,Index:=(-1) }:Fault))
 else
 some (y3,({ Code:=0,Index:=0 }:Fault))
abbrev Hi.l1 (p_:Patch) (text:Ab) (x1:Int):Option (Step Int ((Ab×Fault) ⊕ Unit)) :=
 if decide (x1 < (p_.Hunks.length:Int)) then
(at? p_.Hunks x1).bind fun y4 =>
(Uz text y4.Old y4.At).bind fun y5 =>
 if !y5 then
 some (Step.done (Sum.inl ([],({ Code:=19,Index:=x1 }:Fault))))
 else
(ckK .i64 (x1+1)).bind fun z1 =>
 some (Step.next z1)
 else
 some (Step.done (Sum.inr ()))
def Hi (p_:Patch) (text:Ab):Option (Ab×Fault) :=
(Gi p_).bind fun y1 =>
 if !(decide (y1.Code=0) && decide (y1.Index=0)) then
 some ([],y1)
 else
(M8 text (-2)).bind fun y2 =>
 if !(decide (y2.Code=0) && decide (y2.Index=0)) then
 some ([],y2)
 else
(C7 (fun s=>Hi.l1 p_ text s) 0).bind fun r1 =>
(match r1 with
| .inl p=>some p
| .inr _=>Hi.j1 p_ text)
abbrev Mc.j1 (x1:Ai):Option (Int×FileTree) :=
 some (0,({ Files:=x1 }:FileTree))
def Mc (c_:TreeChange) (t_:FileTree):Option (Int×FileTree) :=
(Dz t_.Files c_.Path).bind fun y1 =>
 if decide (c_.Kind=1) then
(Gr t_.Files c_.Path (-1)).bind fun y2 =>
 if y2 then
 some (7,t_)
 else
 if decide ((t_.Files.length:Int) ≥ 24) then
 some (14,t_)
 else
(Kx t_ c_.Path c_.Lines).bind fun y3 =>
 some (0,y3)
 else
 if !y1.2 then
 some (6,t_)
 else
(at? t_.Files y1.1).bind fun y4 =>
 if decide (c_.Kind=2) then
(H1 y4.Lines c_.Lines).bind fun y5 =>
 if !y5 then
 some (19,t_)
 else
(ckK .i64 (y1.1+1)).bind fun z1 =>
(del? t_.Files y1.1 z1).bind fun y6 =>
 Mc.j1 y6
 else
 if decide (c_.Kind=3) then
(Gr t_.Files c_.To y1.1).bind fun y7 =>
 if y7 then
 some (7,t_)
 else
(ckK .i64 (y1.1+1)).bind fun z2 =>
(del? t_.Files y1.1 z2).bind fun y8 =>
(Kx ({ Files:=y8 }:FileTree) c_.To y4.Lines).bind fun y9 =>
 Mc.j1 y9.Files
 else
(Hi c_.Patch y4.Lines).bind fun y10 =>
 if !(decide (y10.2.Code=0) && decide (y10.2.Index=0)) then
 some (y10.2.Code,t_)
 else
(at? t_.Files y1.1).bind fun y11 =>
(some (t_.Files.set y1.1.toNat ({ Path:=y11.Path,Lines:=y10.1 }:File))).bind fun y12 =>
 Mc.j1 y12
abbrev Ha.j1 (x1:Ai):Option (FileTree×Fault) :=
 some (({ Files:=x1 }:FileTree),({ Code:=0,Index:=0 }:Fault))
abbrev Ha.l1 (p_:TreePatch) (x2:Int) (x3:Ai):Option (Step (Int×Ai) ((FileTree×Fault) ⊕ Ai)) :=
 if decide (x2 < (p_.Changes.length:Int)) then
(at? p_.Changes x2).bind fun y4 =>
(Mc y4 ({ Files:=x3 }:FileTree)).bind fun y5 =>
 if !decide (y5.1=0) then
 some (Step.done (Sum.inl (({ Files:=[] }:FileTree),({ Code:=y5.1,Index:=x2 }:Fault))))
 else
(ckK .i64 (x2+1)).bind fun z1 =>
 some (Step.next (z1,y5.2.Files))
 else
 some (Step.done (Sum.inr x3))
def Ha (p_:TreePatch) (t_:FileTree):Option (FileTree×Fault) :=
(En p_).bind fun y1 =>
 if !(decide (y1.Code=0) && decide (y1.Index=0)) then
 some (({ Files:=[] }:FileTree),y1)
 else
(N5 t_ (-2)).bind fun y2 =>
 if !(decide (y2.Code=0) && decide (y2.Index=0)) then
 some (({ Files:=[] }:FileTree),y2)
 else
(Ez t_).bind fun y3 =>
(C7 (fun s=>Ha.l1 p_ s.1 s.2) (0,y3.Files)).bind fun r1 =>
(match r1 with
| .inl p=>some p
| .inr p=>Ha.j1 p)
def Wf (a_:Ab) (b_:Ab):Option Fault :=
(Gm a_).bind fun y1 =>
 if !(decide (y1.Code=0) && decide (y1.Index=0)) then
 some y1
 else
(M8 b_ (-2)).bind fun y2 =>
 some y2
def Nb (i_:Int) (j:Int) (u2:(List Int)) (u3:Int):Option Int :=
(ckK .i64 (i_ * u3)).bind fun z1 =>
(ckK .i64 (z1+j)).bind fun z2 =>
(at? u2 z2).bind fun y1 =>
 some y1
abbrev Ex.j2 (x2:List Int):Option (List Int) :=
 some x2
abbrev Ex.l1 (a_:Ab) (b_:Ab) (z1:Int) (x1:List Int) (x3:Int) (x4:Int) (x5:List Int):Option (Step (Int×Int×(List Int)) (List Int)) :=
(if decide (x4 < (a_.length:Int)) then some true else some (decide (x3 < (b_.length:Int)))).bind fun x7 =>
 if x7 then
(if decide (x4 < (a_.length:Int)) then some (decide (x3 < (b_.length:Int))) else some false).bind fun x8 =>
(if x8 then (at? a_ x4).bind fun y2 =>
(at? b_ x3).bind fun y3 =>
 some (decide (y2=y3)) else some false).bind fun x9 =>
 if x9 then
(app? 8 x5 ([0]:List Int)).bind fun y4 =>
(ckK .i64 (x4+1)).bind fun z4 =>
(ckK .i64 (x3+1)).bind fun z5 =>
 some (Step.next (z5,z4,y4))
 else
(if decide (x3=(b_.length:Int)) then some true else (if decide (x4 < (a_.length:Int)) then (ckK .i64 (x4+1)).bind fun z6 =>
(Nb z6 x3 x1 z1).bind fun y5 =>
(ckK .i64 (x3+1)).bind fun z7 =>
(Nb x4 z7 x1 z1).bind fun y6 =>
 some (decide (y5 ≥ y6)) else some false).bind fun x11 =>
 some x11).bind fun x10 =>
 if x10 then
(app? 8 x5 ([1]:List Int)).bind fun y7 =>
(ckK .i64 (x4+1)).bind fun z8 =>
 some (Step.next (x3,z8,y7))
 else
(app? 8 x5 ([2]:List Int)).bind fun y8 =>
(ckK .i64 (x3+1)).bind fun z9 =>
 some (Step.next (z9,x4,y8))
 else
 some (Step.done x5)
abbrev Ex.j1 (a_:Ab) (b_:Ab) (z1:Int) (x1:List Int):Option (List Int) :=
(C7 (fun s=>Ex.l1 a_ b_ z1 x1 s.1 s.2.1 s.2.2) (0,0,[])).bind fun r1 =>
 Ex.j2 r1
abbrev Ex.j3 (x12:Int) (x15:List Int):Option (Step (Int×(List Int)) (List Int)) :=
(ckK .i64 (x12 - 1)).bind fun z11 =>
 some (Step.next (z11,x15))
abbrev Ex.j4 (x12:Int) (x16:List Int):Option (Step (Int×(List Int)) (List Int)) :=
 Ex.j3 x12 x16
abbrev Ex.j5 (z1:Int) (x12:Int) (x17:Int) (x18:List Int) (x20:Int):Option (Step (Int×(List Int)) (List Int)) :=
(ckK .i64 (x12 * z1)).bind fun z15 =>
(ckK .i64 (z15+x17)).bind fun z16 =>
(at? x18 z16).bind fun y11 =>
(some (x18.set z16.toNat x20)).bind fun y12 =>
(ckK .i64 (x17 - 1)).bind fun z17 =>
 some (Step.next (z17,y12))
abbrev Ex.l3 (a_:Ab) (b_:Ab) (z1:Int) (x12:Int) (x17:Int) (x18:List Int):Option (Step (Int×(List Int)) (List Int)) :=
 if decide (x17 ≥ 0) then
(ckK .i64 (x12+1)).bind fun z13 =>
(Nb z13 x17 x18 z1).bind fun y9 =>
(ckK .i64 (x17+1)).bind fun z14 =>
(Nb x12 z14 x18 z1).bind fun y10 =>
(at? a_ x12).bind fun y13 =>
(at? b_ x17).bind fun y14 =>
 if decide (y13=y14) then
(ckK .i64 (x12+1)).bind fun z18 =>
(ckK .i64 (x17+1)).bind fun z19 =>
(Nb z18 z19 x18 z1).bind fun y15 =>
(ckK .i64 (y15+1)).bind fun z20 =>
 Ex.j5 z1 x12 x17 x18 z20
 else
 Ex.j5 z1 x12 x17 x18 (max y9 y10)
 else
 some (Step.done x18)
abbrev Ex.l2 (a_:Ab) (b_:Ab) (z1:Int) (x12:Int) (x13:List Int):Option (Step (Int×(List Int)) (List Int)) :=
 if decide (x12 ≥ 0) then
(ckK .i64 ((b_.length:Int) - 1)).bind fun z12 =>
(C7 (fun s=>Ex.l3 a_ b_ z1 x12 s.1 s.2) (z12,x13)).bind fun r3 =>
 Ex.j4 x12 r3
 else
 some (Step.done x13)
def Ex (a_:Ab) (b_:Ab):Option (List Int) :=
(ckK .i64 ((b_.length:Int)+1)).bind fun z1 =>
(ckK .i64 ((a_.length:Int)+1)).bind fun z2 =>
(ckK .i64 (z2 * z1)).bind fun z3 =>
(mk? 8 z3 (0:Int)).bind fun y1 =>
(ckK .i64 ((a_.length:Int) - 1)).bind fun z10 =>
(C7 (fun s=>Ex.l2 a_ b_ z1 s.1 s.2) (z10,y1)).bind fun r2 =>
 Ex.j1 a_ b_ z1 r2
def Ni (c_:Collector_diff) (n_:Int):Option Collector_diff :=
 if decide (n_ > 0) then
(ckK .i64 (c_.at_+n_)).bind fun z1 =>
 some ({ hunks:=c_.hunks,at_:=z1,open_:=false }:Collector_diff)
 else
 some c_
abbrev G2.j1 (c_:Collector_diff) (line:ByteArray) (x1:A7) (x2:Bool):Option Collector_diff :=
(ckK .i64 ((x1.length:Int) - 1)).bind fun z1 =>
(at? x1 z1).bind fun y1 =>
(app? 16 y1.Old ([line]:Ab)).bind fun y2 =>
(ckK .i64 (c_.at_+1)).bind fun z2 =>
(some (x1.set z1.toNat ({ At:=y1.At,Old:=y2,New:=y1.New }:Hunk))).bind fun y3 =>
 some ({ hunks:=y3,at_:=z2,open_:=x2 }:Collector_diff)
def G2 (c_:Collector_diff) (line:ByteArray):Option Collector_diff :=
 if !c_.open_ then
(app? 56 c_.hunks ([({ At:=c_.at_,Old:=[],New:=[] }:Hunk)]:A7)).bind fun y4 =>
 G2.j1 c_ line y4 true
 else
 G2.j1 c_ line c_.hunks c_.open_
abbrev G4.j1 (c_:Collector_diff) (line:ByteArray) (x1:A7) (x2:Bool):Option Collector_diff :=
(ckK .i64 ((x1.length:Int) - 1)).bind fun z1 =>
(at? x1 z1).bind fun y1 =>
(app? 16 y1.New ([line]:Ab)).bind fun y2 =>
(some (x1.set z1.toNat ({ At:=y1.At,Old:=y1.Old,New:=y2 }:Hunk))).bind fun y3 =>
 some ({ hunks:=y3,at_:=c_.at_,open_:=x2 }:Collector_diff)
def G4 (c_:Collector_diff) (line:ByteArray):Option Collector_diff :=
 if !c_.open_ then
(app? 56 c_.hunks ([({ At:=c_.at_,Old:=[],New:=[] }:Hunk)]:A7)).bind fun y4 =>
 G4.j1 c_ line y4 true
 else
 G4.j1 c_ line c_.hunks c_.open_
abbrev Gq.j1 (x1:A7) (x2:Int) (x3:Bool):Option (Patch×Fault) :=
 some (({ Hunks:=x1 }:Patch),({ Code:=0,Index:=0 }:Fault))
abbrev Gq.j2 (x4:Int) (x11:Int) (x12:Int) (x13:A7) (x14:Int) (x15:Bool):Option (Step (Int×Int×Int×A7×Int×Bool) (A7×Int×Bool)) :=
(ckK .i64 (x4+1)).bind fun z1 =>
 some (Step.next (z1,x11,x12,x13,x14,x15))
abbrev Gq.l1 (a_:Ab) (b_:Ab) (y2:(List Int)) (x4:Int) (x5:Int) (x6:Int) (x7:A7) (x8:Int) (x9:Bool):Option (Step (Int×Int×Int×A7×Int×Bool) (A7×Int×Bool)) :=
 if decide (x4 < (y2.length:Int)) then
(at? y2 x4).bind fun y3 =>
 if decide (y3=0) then
(Ni ({ hunks:=x7,at_:=x8,open_:=x9 }:Collector_diff) 1).bind fun y4 =>
(ckK .i64 (x6+1)).bind fun z2 =>
(ckK .i64 (x5+1)).bind fun z3 =>
 Gq.j2 x4 z3 z2 y4.hunks y4.at_ y4.open_
 else
 if decide (y3=1) then
(at? a_ x6).bind fun y5 =>
(G2 ({ hunks:=x7,at_:=x8,open_:=x9 }:Collector_diff) y5).bind fun y6 =>
(ckK .i64 (x6+1)).bind fun z4 =>
 Gq.j2 x4 x5 z4 y6.hunks y6.at_ y6.open_
 else
(at? b_ x5).bind fun y7 =>
(G4 ({ hunks:=x7,at_:=x8,open_:=x9 }:Collector_diff) y7).bind fun y8 =>
(ckK .i64 (x5+1)).bind fun z5 =>
 Gq.j2 x4 z5 x6 y8.hunks y8.at_ y8.open_
 else
 some (Step.done (x7,x8,x9))
def Gq (a_:Ab) (b_:Ab):Option (Patch×Fault) :=
(Wf a_ b_).bind fun y1 =>
 if !(decide (y1.Code=0) && decide (y1.Index=0)) then
 some (({ Hunks:=[] }:Patch),y1)
 else
(Ex a_ b_).bind fun y2 =>
(C7 (fun s=>Gq.l1 a_ b_ y2 s.1 s.2.1 s.2.2.1 s.2.2.2.1 s.2.2.2.2.1 s.2.2.2.2.2) (0,0,0,[],0,false)).bind fun r1 =>
 Gq.j1 r1.1 r1.2.1 r1.2.2
abbrev Di.j2 (x2:Ap):Option Ap :=
 some x2
abbrev Di.l1 (slices:(List Ap)) (x3:Int) (x4:Ap):Option (Step (Int×Ap) Ap) :=
 if decide (x3 < (slices.length:Int)) then
(at? slices x3).bind fun y2 =>
(app? 88 x4 y2).bind fun y3 =>
(ckK .i64 (x3+1)).bind fun z1 =>
 some (Step.next (z1,y3))
 else
 some (Step.done x4)
abbrev Di.j1 (slices:(List Ap)) (x1:Int):Option Ap :=
(grow0 TreeChange 88 x1).bind fun y1 =>
(C7 (fun s=>Di.l1 slices s.1 s.2) (0,y1)).bind fun r1 =>
 Di.j2 r1
abbrev Di.j3 (x6:Int) (x9:Int):Option (Step (Int×Int) Int) :=
(ckK .i64 (x6+1)).bind fun z2 =>
 some (Step.next (z2,x9))
abbrev Di.l2 (slices:(List Ap)) (x6:Int) (x7:Int):Option (Step (Int×Int) Int) :=
 if decide (x6 < (slices.length:Int)) then
(at? slices x6).bind fun y4 =>
(ckK .i64 (x7+(y4.length:Int))).bind fun z3 =>
 if decide (z3 < 0) then
 Option.none
 else
 Di.j3 x6 z3
 else
 some (Step.done x7)
def Di (slices:(List Ap)):Option Ap :=
(C7 (fun s=>Di.l2 slices s.1 s.2) (0,0)).bind fun r2 =>
 Di.j1 slices r2
abbrev Cf.j2 (x1:Ap) (x2:Ap) (x3:Ap):Option (TreePatch×Fault) :=
(Di ([x2,x1,x3]:List Ap)).bind fun y3 =>
 if decide ((y3.length:Int) > 30) then
 some (({ Changes:=[] }:TreePatch),({ Code:=10,Index:=(-1) }:Fault))
 else
 some (({ Changes:=y3 }:TreePatch),({ Code:=0,Index:=0 }:Fault))
abbrev Cf.j3 (x4:Int) (x7:Ap):Option (Step (Int×Ap) Ap) :=
(ckK .i64 (x4+1)).bind fun z1 =>
 some (Step.next (z1,x7))
abbrev Cf.l1 (old_:FileTree) (newer:FileTree) (x4:Int) (x5:Ap):Option (Step (Int×Ap) Ap) :=
 if decide (x4 < (newer.Files.length:Int)) then
(at? newer.Files x4).bind fun y4 =>
(Dz old_.Files y4.Path).bind fun y5 =>
 if !y5.2 then
(Nw y4.Lines).bind fun y6 =>
(app? 88 x5 ([({ Kind:=1,Path:=y4.Path,To:=ByteArray.empty,Lines:=y6,Patch:=({ Hunks:=[] }:Patch) }:TreeChange)]:Ap)).bind fun y7 =>
 Cf.j3 x4 y7
 else
 Cf.j3 x4 x5
 else
 some (Step.done x5)
abbrev Cf.j1 (old_:FileTree) (newer:FileTree) (x1:Ap) (x2:Ap):Option (TreePatch×Fault) :=
(C7 (fun s=>Cf.l1 old_ newer s.1 s.2) (0,[])).bind fun r1 =>
 Cf.j2 x1 x2 r1
abbrev Cf.j4 (x8:Int) (x12:Ap) (x13:Ap):Option (Step (Int×Ap×Ap) (Ap×Ap)) :=
(ckK .i64 (x8+1)).bind fun z2 =>
 some (Step.next (z2,x13,x12))
abbrev Cf.j5 (x8:Int) (x9:Ap) (x10:Ap) (y8:File) (y13:Patch×Fault):Option (Step (Int×Ap×Ap) (Ap×Ap)) :=
 if decide ((y13.1.Hunks.length:Int) > 0) then
(app? 88 x9 ([({ Kind:=4,Path:=y8.Path,To:=ByteArray.empty,Lines:=[],Patch:=y13.1 }:TreeChange)]:Ap)).bind fun y14 =>
 Cf.j4 x8 x10 y14
 else
 Cf.j4 x8 x10 x9
abbrev Cf.l2 (old_:FileTree) (newer:FileTree) (x8:Int) (x9:Ap) (x10:Ap):Option (Step (Int×Ap×Ap) (Ap×Ap)) :=
 if decide (x8 < (old_.Files.length:Int)) then
(at? old_.Files x8).bind fun y8 =>
(Dz newer.Files y8.Path).bind fun y9 =>
 if !y9.2 then
(Nw y8.Lines).bind fun y10 =>
(app? 88 x10 ([({ Kind:=2,Path:=y8.Path,To:=ByteArray.empty,Lines:=y10,Patch:=({ Hunks:=[] }:Patch) }:TreeChange)]:Ap)).bind fun y11 =>
 Cf.j4 x8 y11 x9
 else
(at? newer.Files y9.1).bind fun y12 =>
(Gq y8.Lines y12.Lines).bind fun y13 =>
 Cf.j5 x8 x9 x10 y8 y13
 else
 some (Step.done (x9,x10))
def Cf (old_:FileTree) (newer:FileTree):Option (TreePatch×Fault) :=
(G5 old_).bind fun y1 =>
 if !(decide (y1.Code=0) && decide (y1.Index=0)) then
 some (({ Changes:=[] }:TreePatch),y1)
 else
(N5 newer (-2)).bind fun y2 =>
 if !(decide (y2.Code=0) && decide (y2.Index=0)) then
 some (({ Changes:=[] }:TreePatch),y2)
 else
(C7 (fun s=>Cf.l2 old_ newer s.1 s.2.1 s.2.2) (0,[],[])).bind fun r2 =>
 Cf.j1 old_ newer r2.1 r2.2
abbrev G1.j1 (x1:Int):Option Int :=
 some x1
abbrev G1.j2 (x3:Int) (x4:Int) (x6:Int):Option (Step (Int×Int×Int) Int) :=
(ckK .i64 (2 * x3)).bind fun z1 =>
(rem? z1 2305843009213693951).bind fun z2 =>
(shr? .i64 x4 1).bind fun z3 =>
 some (Step.next (x6,z2,z3))
abbrev G1.l1 (x2:Int) (x3:Int) (x4:Int):Option (Step (Int×Int×Int) Int) :=
 if decide (x4 > 0) then
 if decide (andI .i64 x4 1=1) then
(ckK .i64 (x2+x3)).bind fun z4 =>
(rem? z4 2305843009213693951).bind fun z5 =>
 G1.j2 x3 x4 z5
 else
 G1.j2 x3 x4 x2
 else
 some (Step.done x2)
def G1 (a_:Int) (b_:Int):Option Int :=
(C7 (fun s=>G1.l1 s.1 s.2.1 s.2.2) (0,a_,b_)).bind fun r1 =>
 G1.j1 r1
def Oy (s_:Step_digest) (factor:Int):Option Int :=
(G1 s_.e0 factor).bind fun y1 =>
(ckK .i64 (y1+s_.e1)).bind fun z1 =>
(rem? z1 2305843009213693951).bind fun z2 =>
 some z2
abbrev H0.j1 (x1:Int):Option (Int×Fault) :=
 some (x1,({ Code:=0,Index:=0 }:Fault))
abbrev H0.l1 (data:(List UInt8)) (x2:Int) (x3:Int):Option (Step (Int×Int) Int) :=
 if decide (x2 < (data.length:Int)) then
(at? data x2).bind fun y1 =>
(ckK .i64 (y1.toNat:Int)).bind fun z1 =>
(ckK .i64 (z1+1)).bind fun z2 =>
(Oy ({ e0:=x3,e1:=z2 }:Step_digest) 257).bind fun y2 =>
(ckK .i64 (x2+1)).bind fun z3 =>
 some (Step.next (z3,y2))
 else
 some (Step.done x3)
def H0 (data:(List UInt8)):Option (Int×Fault) :=
 if decide ((data.length:Int) > 4096) then
 some (0,({ Code:=2,Index:=0 }:Fault))
 else
(C7 (fun s=>H0.l1 data s.1 s.2) (0,1)).bind fun r1 =>
 H0.j1 r1
def digest_is (a_:Int):Option Bool :=
(if decide (a_ ≥ 0) then some (decide (a_ < 2305843009213693951)) else some false).bind fun x1 =>
 some x1
def N1 (a_:Int) (b_:Int):Option Int :=
(Oy ({ e0:=b_,e1:=7 }:Step_digest) 31).bind fun y1 =>
(Oy ({ e0:=a_,e1:=y1 }:Step_digest) 1000003).bind fun y2 =>
 some y2
abbrev Gp.j1 (a_:Int) (b_:Int):Option (Int×Fault) :=
(N1 a_ b_).bind fun y1 =>
 some (y1,({ Code:=0,Index:=0 }:Fault))
abbrev Gp.l1 (a_:Int) (b_:Int) (x1:Int):Option (Step Int ((Int×Fault) ⊕ Unit)) :=
 if decide (x1 < 2) then
(at? ([a_,b_]:List Int) x1).bind fun y2 =>
(digest_is y2).bind fun y3 =>
 if !y3 then
 some (Step.done (Sum.inl (0,({ Code:=3,Index:=x1 }:Fault))))
 else
(ckK .i64 (x1+1)).bind fun z1 =>
 some (Step.next z1)
 else
 some (Step.done (Sum.inr ()))
def Gp (a_:Int) (b_:Int):Option (Int×Fault) :=
(C7 (fun s=>Gp.l1 a_ b_ s) 0).bind fun r1 =>
(match r1 with
| .inl p=>some p
| .inr _=>Gp.j1 a_ b_)
def Uw (key:Int) (data:(List UInt8)):Option (Int×Fault) :=
(O7 key).bind fun y1 =>
 if !y1 then
 some (0,({ Code:=3,Index:=(-1) }:Fault))
 else
(H0 data).bind fun y2 =>
 if !(decide (y2.2.Code=0) && decide (y2.2.Index=0)) then
 some (0,y2.2)
 else
(Gp key y2.1).bind fun y3 =>
 some (y3.1,y3.2)
def Ml (s_:ByteArray):Option Int :=
(H0 s_.data.toList).bind fun y1 =>
 some y1.1
abbrev Kj.j1 (x1:Int):Option (Int×Fault) :=
 some (x1,({ Code:=0,Index:=0 }:Fault))
abbrev Kj.l1 (list:Ab) (x2:Int) (x3:Int):Option (Step (Int×Int) ((Int×Fault) ⊕ Int)) :=
 if decide (x2 < (list.length:Int)) then
(at? list x2).bind fun y1 =>
(H0 y1.data.toList).bind fun y2 =>
 if !(decide (y2.2.Code=0) && decide (y2.2.Index=0)) then
 some (Step.done (Sum.inl (0,({ Code:=y2.2.Code,Index:=x2 }:Fault))))
 else
(N1 x3 y2.1).bind fun y3 =>
(ckK .i64 (x2+1)).bind fun z1 =>
 some (Step.next (z1,y3))
 else
 some (Step.done (Sum.inr x3))
def Kj (list:Ab):Option (Int×Fault) :=
 if decide ((list.length:Int) > 120) then
 some (0,({ Code:=2,Index:=(-1) }:Fault))
 else
(C7 (fun s=>Kj.l1 list s.1 s.2) (0,2)).bind fun r1 =>
(match r1 with
| .inl p=>some p
| .inr p=>Kj.j1 p)
def Lo (l_:Ab):Option Int :=
(Kj l_).bind fun y1 =>
 some y1.1
abbrev Ky.j1 (x1:Int):Option Int :=
 some x1
abbrev Ky.l1 (list:(List Int)) (x2:Int) (x3:Int):Option (Step (Int×Int) Int) :=
 if decide (x2 < (list.length:Int)) then
(at? list x2).bind fun y1 =>
(Gp x3 y1).bind fun y2 =>
(ckK .i64 (x2+1)).bind fun z1 =>
 some (Step.next (z1,y2.1))
 else
 some (Step.done x3)
def Ky (h_:Int) (list:(List Int)):Option Int :=
(C7 (fun s=>Ky.l1 list s.1 s.2) (0,h_)).bind fun r1 =>
 Ky.j1 r1
abbrev Dh.j1 (x1:Int):Option (Int×Fault) :=
 some (x1,({ Code:=0,Index:=0 }:Fault))
abbrev Dh.j2 (x2:Int) (x5:Int):Option (Step (Int×Int) Int) :=
(ckK .i64 (x2+1)).bind fun z1 =>
 some (Step.next (z1,x5))
abbrev Dh.j3 (x2:Int) (x6:Int):Option (Step (Int×Int) Int) :=
 Dh.j2 x2 x6
abbrev Dh.l2 (y2:TreeChange) (x7:Int) (x8:Int):Option (Step (Int×Int) Int) :=
 if decide (x7 < (y2.Patch.Hunks.length:Int)) then
(at? y2.Patch.Hunks x7).bind fun y7 =>
(Lo y7.Old).bind fun y8 =>
(Lo y7.New).bind fun y9 =>
(Ky x8 ([y7.At,y8,y9]:List Int)).bind fun y10 =>
(ckK .i64 (x7+1)).bind fun z2 =>
 some (Step.next (z2,y10))
 else
 some (Step.done x8)
abbrev Dh.l1 (p_:TreePatch) (x2:Int) (x3:Int):Option (Step (Int×Int) Int) :=
 if decide (x2 < (p_.Changes.length:Int)) then
(at? p_.Changes x2).bind fun y2 =>
(Ml y2.Path).bind fun y3 =>
(Ml y2.To).bind fun y4 =>
(Lo y2.Lines).bind fun y5 =>
(Ky x3 ([y2.Kind,y3,y4,y5]:List Int)).bind fun y6 =>
(C7 (fun s=>Dh.l2 y2 s.1 s.2) (0,y6)).bind fun r2 =>
 Dh.j3 x2 r2
 else
 some (Step.done x3)
def Dh (p_:TreePatch):Option (Int×Fault) :=
(En p_).bind fun y1 =>
 if !(decide (y1.Code=0) && decide (y1.Index=0)) then
 some (0,y1)
 else
(C7 (fun s=>Dh.l1 p_ s.1 s.2) (0,3)).bind fun r1 =>
 Dh.j1 r1
def N4 (n_:Int):Option Bool :=
(if decide (n_ ≥ 0) then some (decide (n_ < 2305843009213693951)) else some false).bind fun x1 =>
 some x1
abbrev My.j1 (x1:List UInt8):Option (List UInt8) :=
 some x1
abbrev My.l1 (n_:Int) (x2:Int) (x3:List UInt8):Option (Step (Int×(List UInt8)) (List UInt8)) :=
 if decide (x2 ≥ 0) then
(shr? .i64 n_ x2).bind fun z1 =>
(some (u8w z1)).bind fun z2 =>
(app? 1 x3 ([z2]:List UInt8)).bind fun y1 =>
(ckK .i64 (x2 - 8)).bind fun z3 =>
 some (Step.next (z3,y1))
 else
 some (Step.done x3)
def My (n_:Int):Option (List UInt8) :=
(C7 (fun s=>My.l1 n_ s.1 s.2) (56,[])).bind fun r1 =>
 My.j1 r1
abbrev Kh.j1 (x1:List UInt8):Option ((List UInt8)×Fault) :=
 some (x1,({ Code:=0,Index:=0 }:Fault))
abbrev Kh.l1 (numbers:(List Int)) (x2:Int) (x3:List UInt8):Option (Step (Int×(List UInt8)) (((List UInt8)×Fault) ⊕ (List UInt8))) :=
 if decide (x2 < (numbers.length:Int)) then
(at? numbers x2).bind fun y1 =>
(N4 y1).bind fun y2 =>
 if !y2 then
 some (Step.done (Sum.inl ([],({ Code:=3,Index:=x2 }:Fault))))
 else
(My y1).bind fun y3 =>
(app? 1 x3 y3).bind fun y4 =>
(ckK .i64 (x2+1)).bind fun z1 =>
 some (Step.next (z1,y4))
 else
 some (Step.done (Sum.inr x3))
def Kh (numbers:(List Int)):Option ((List UInt8)×Fault) :=
 if decide ((numbers.length:Int) > 64) then
 some ([],({ Code:=2,Index:=(-1) }:Fault))
 else
(C7 (fun s=>Kh.l1 numbers s.1 s.2) (0,[])).bind fun r1 =>
(match r1 with
| .inl p=>some p
| .inr p=>Kh.j1 p)
def Lz (m_:Message_forge):Option (List UInt8) :=
(Dh m_.patch).bind fun y1 =>
(Kh ([m_.user,m_.number,m_.base,y1.1]:List Int)).bind fun y2 =>
 some y2.1
abbrev L0.j1 (s_:State_forge) (user:Int) (key:Int) (y1:Developer_forge) (y3:TreePatch×Fault):Option (Int×State_forge) :=
 if !(decide (y3.2.Code=0) && decide (y3.2.Index=0)) then
 some (y3.2.Code,s_)
 else
 if decide ((y3.1.Changes.length:Int)=0) then
 some (11,s_)
 else
 if decide ((s_.flight.length:Int) ≥ 20) then
 some (14,s_)
 else
(ckK .i64 (y1.sent+1)).bind fun z1 =>
(some (s_.developers.set user.toNat ({ tree:=y1.tree,base:=y1.base,sent:=z1,accepted:=y1.accepted }:Developer_forge))).bind fun y4 =>
(Lz ({ user:=user,number:=({ tree:=y1.tree,base:=y1.base,sent:=z1,accepted:=y1.accepted }:Developer_forge).sent,base:=({ tree:=y1.tree,base:=y1.base,sent:=z1,accepted:=y1.accepted }:Developer_forge).base,signature:=0,patch:=y3.1 }:Message_forge)).bind fun y5 =>
(Uw key y5).bind fun y6 =>
(app? 56 s_.flight ([({ user:=user,number:=({ tree:=y1.tree,base:=y1.base,sent:=z1,accepted:=y1.accepted }:Developer_forge).sent,base:=({ tree:=y1.tree,base:=y1.base,sent:=z1,accepted:=y1.accepted }:Developer_forge).base,signature:=y6.1,patch:=y3.1 }:Message_forge)]:Em)).bind fun y7 =>
 some (0,({ keys:=s_.keys,versions:=s_.versions,developers:=y4,flight:=y7,log:=s_.log }:State_forge))
def L0 (s_:State_forge) (user:Int) (key:Int):Option (Int×State_forge) :=
(at? s_.developers user).bind fun y1 =>
(at? s_.versions y1.base).bind fun y2 =>
(Cf y2 y1.tree).bind fun y3 =>
 L0.j1 s_ user key y1 y3
abbrev C0.j1 (s_:State_forge) (x1:Kd):Option (Int×State_forge) :=
 some (0,({ keys:=s_.keys,versions:=s_.versions,developers:=x1,flight:=s_.flight,log:=s_.log }:State_forge))
abbrev C0.j2 (s_:State_forge) (e_:ForgeEvent) (y1:Developer_forge) (y7:FileTree×Fault):Option (Int×State_forge) :=
 if !(decide (y7.2.Code=0) && decide (y7.2.Index=0)) then
 some (y7.2.Code,s_)
 else
(some (s_.developers.set e_.User.toNat ({ tree:=y7.1,base:=y1.base,sent:=y1.sent,accepted:=y1.accepted }:Developer_forge))).bind fun y8 =>
 C0.j1 s_ y8
def C0 (s_:State_forge) (e_:ForgeEvent):Option (Int×State_forge) :=
(at? s_.developers e_.User).bind fun y1 =>
 if decide (e_.Kind=1) then
(at? s_.versions y1.base).bind fun y2 =>
(Hq y1.tree y2).bind fun y3 =>
 if !y3 then
 some (15,s_)
 else
(ckK .i64 ((s_.versions.length:Int) - 1)).bind fun z1 =>
(Lf s_).bind fun y4 =>
(some (s_.developers.set e_.User.toNat ({ tree:=y1.tree,base:=z1,sent:=y1.sent,accepted:=y1.accepted }:Developer_forge))).bind fun y5 =>
(some (y5.set e_.User.toNat ({ tree:=y4,base:=({ tree:=y1.tree,base:=z1,sent:=y1.sent,accepted:=y1.accepted }:Developer_forge).base,sent:=({ tree:=y1.tree,base:=z1,sent:=y1.sent,accepted:=y1.accepted }:Developer_forge).sent,accepted:=({ tree:=y1.tree,base:=z1,sent:=y1.sent,accepted:=y1.accepted }:Developer_forge).accepted }:Developer_forge))).bind fun y6 =>
 C0.j1 s_ y6
 else
 if decide (e_.Kind=2) then
(Ha e_.Patch y1.tree).bind fun y7 =>
 C0.j2 s_ e_ y1 y7
 else
 if decide (e_.Kind=3) then
(L0 s_ e_.User e_.Key).bind fun y9 =>
 some (y9.1,y9.2)
 else
(at? s_.versions y1.base).bind fun y10 =>
(some (s_.developers.set e_.User.toNat ({ tree:=y10,base:=y1.base,sent:=y1.sent,accepted:=y1.accepted }:Developer_forge))).bind fun y11 =>
 C0.j1 s_ y11
def Uo (key:Int) (data:(List UInt8)) (signature:Int):Option (Bool×Fault) :=
(Uw key data).bind fun y1 =>
 if !(decide (y1.2.Code=0) && decide (y1.2.Index=0)) then
 some (false,y1.2)
 else
(N4 signature).bind fun y2 =>
 if !y2 then
 some (false,({ Code:=3,Index:=(-2) }:Fault))
 else
 some (decide (y1.1=signature),({ Code:=0,Index:=0 }:Fault))
def O5 (c_:TreeChange):Option Ab :=
 if decide (c_.Kind=3) then
 some ([c_.Path,c_.To]:Ab)
 else
 some ([c_.Path]:Ab)
abbrev Ca.j1:Option Bool :=
 some false
abbrev Ca.j2 (x1:Int) (x3:Int):Option (Step Int (Bool ⊕ Unit)) :=
 if decide (x3 ≥ 0) then
 some (Step.done (Sum.inl true))
 else
(ckK .i64 (x1+1)).bind fun z1 =>
 some (Step.next z1)
abbrev Ca.j3 (x1:Int):Option (Step Int (Bool ⊕ Unit)) :=
 Ca.j2 x1 (-1)
abbrev Ca.l2 (path:ByteArray) (y2:Ab) (x4:Int):Option (Step Int (Int ⊕ Unit)) :=
 if decide (x4 < (y2.length:Int)) then
(at? y2 x4).bind fun y3 =>
(L1 y3 path).bind fun y4 =>
 if y4 then
 some (Step.done (Sum.inl x4))
 else
(ckK .i64 (x4+1)).bind fun z2 =>
 some (Step.next z2)
 else
 some (Step.done (Sum.inr ()))
abbrev Ca.l1 (path:ByteArray) (changes:Ap) (x1:Int):Option (Step Int (Bool ⊕ Unit)) :=
 if decide (x1 < (changes.length:Int)) then
(at? changes x1).bind fun y1 =>
(O5 y1).bind fun y2 =>
(C7 (fun s=>Ca.l2 path y2 s) 0).bind fun r2 =>
(match r2 with
| .inl p=>Ca.j2 x1 p
| .inr _=>Ca.j3 x1)
 else
 some (Step.done (Sum.inr ()))
def Ca (path:ByteArray) (changes:Ap):Option Bool :=
(C7 (fun s=>Ca.l1 path changes s) 0).bind fun r1 =>
(match r1 with
| .inl p=>some p
| .inr _=>Ca.j1)
abbrev Dk.j1:Option Int :=
 some (-1)
abbrev Dk.l1 (p_:TreePatch) (path:ByteArray) (x1:Int):Option (Step Int (Int ⊕ Unit)) :=
 if decide (x1 ≥ 0) then
(at? p_.Changes x1).bind fun y1 =>
(Ca path ([y1]:Ap)).bind fun y2 =>
 if y2 then
 some (Step.done (Sum.inl x1))
 else
(ckK .i64 (x1 - 1)).bind fun z2 =>
 some (Step.next z2)
 else
 some (Step.done (Sum.inr ()))
def Dk (p_:TreePatch) (path:ByteArray):Option Int :=
(ckK .i64 ((p_.Changes.length:Int) - 1)).bind fun z1 =>
(C7 (fun s=>Dk.l1 p_ path s) z1).bind fun r1 =>
(match r1 with
| .inl p=>some p
| .inr _=>Dk.j1)
abbrev Cw.j1 (s_:Ab):Option Ab :=
 some s_
abbrev Cw.j2 (x1:Int):Option (Step Int (Ab ⊕ Unit)) :=
(ckK .i64 (x1+1)).bind fun z1 =>
 some (Step.next z1)
abbrev Cw.j3 (x3:Int) (x4:Ab):Option (Step Int (Ab ⊕ Unit)) :=
(als? x4 x3).bind fun z4 =>
(clr? x4 x3 z4 ByteArray.empty).bind fun y3 =>
(cut? y3 0 x3).bind fun y4 =>
 some (Step.done (Sum.inl y4))
abbrev Cw.j4 (x5:Int) (x9:Int) (x10:Ab):Option (Step (Int×Int×Ab) (Int×Ab)) :=
(ckK .i64 (x5+1)).bind fun z5 =>
 some (Step.next (z5,x9,x10))
abbrev Cw.l2 (x1:Int) (z3:Int) (x5:Int) (x6:Int) (x7:Ab):Option (Step (Int×Int×Ab) (Int×Ab)) :=
 if decide (x5 < z3) then
(atA? x7 x1 z3 x5).bind fun y5 =>
(ckK .i64 (x5 - 1)).bind fun z6 =>
(atA? x7 x1 z3 z6).bind fun y6 =>
 if !decide (y5=y6) then
(atA? x7 x1 z3 x5).bind fun y7 =>
(at? x7 x6).bind fun y8 =>
(some (x7.set x6.toNat y7)).bind fun y9 =>
(ckK .i64 (x6+1)).bind fun z7 =>
 Cw.j4 x5 z7 y9
 else
 Cw.j4 x5 x6 x7
 else
 some (Step.done (x6,x7))
abbrev Cw.l1 (s_:Ab) (x1:Int):Option (Step Int (Ab ⊕ Unit)) :=
 if decide (x1 < (s_.length:Int)) then
(at? s_ x1).bind fun y1 =>
(ckK .i64 (x1 - 1)).bind fun z2 =>
(at? s_ z2).bind fun y2 =>
 if decide (y1=y2) then
(als? s_ x1).bind fun z3 =>
(C7 (fun s=>Cw.l2 x1 z3 s.1 s.2.1 s.2.2) (1,x1,s_)).bind fun r2 =>
 Cw.j3 r2.1 r2.2
 else
 Cw.j2 x1
 else
 some (Step.done (Sum.inr ()))
def Cw (s_:Ab):Option Ab :=
 if decide ((s_.length:Int) < 2) then
 some s_
 else
(C7 (fun s=>Cw.l1 s_ s) 1).bind fun r1 =>
(match r1 with
| .inl p=>some p
| .inr _=>Cw.j1 s_)
abbrev C9.j1 (x1:Ab):Option Ab :=
(sortS? x1).bind fun y1 =>
(Cw y1).bind fun y2 =>
 some y2
abbrev C9.j2 (x2:Int) (x5:Ab):Option (Step (Int×Ab) Ab) :=
(ckK .i64 (x2+1)).bind fun z1 =>
 some (Step.next (z1,x5))
abbrev C9.j3 (x2:Int) (x6:Ab):Option (Step (Int×Ab) Ab) :=
 C9.j2 x2 x6
abbrev C9.l2 (y3:FileTree) (x7:Int) (x8:Ab):Option (Step (Int×Ab) Ab) :=
 if decide (x7 < (y3.Files.length:Int)) then
(at? y3.Files x7).bind fun y4 =>
(app? 16 x8 ([y4.Path]:Ab)).bind fun y5 =>
(ckK .i64 (x7+1)).bind fun z2 =>
 some (Step.next (z2,y5))
 else
 some (Step.done x8)
abbrev C9.l1 (trees:Ea) (x2:Int) (x3:Ab):Option (Step (Int×Ab) Ab) :=
 if decide (x2 < (trees.length:Int)) then
(at? trees x2).bind fun y3 =>
(C7 (fun s=>C9.l2 y3 s.1 s.2) (0,x3)).bind fun r2 =>
 C9.j3 x2 r2
 else
 some (Step.done x3)
def C9 (trees:Ea):Option Ab :=
(C7 (fun s=>C9.l1 trees s.1 s.2) (0,[])).bind fun r1 =>
 C9.j1 r1
def Mj (t_:FileTree) (path:ByteArray):Option Version_treecommute :=
(Dz t_.Files path).bind fun y1 =>
 if !y1.2 then
 some ({ is:=false,lines:=[] }:Version_treecommute)
 else
(at? t_.Files y1.1).bind fun y2 =>
 some ({ is:=true,lines:=y2.Lines }:Version_treecommute)
def M2 (a_:Version_treecommute) (b_:Version_treecommute):Option Bool :=
(if decide (a_.is=b_.is) then (H1 a_.lines b_.lines).bind fun y1 =>
 some y1 else some false).bind fun x1 =>
 some x1
def Qo (h_:Hunk):Option Int :=
(ckK .i64 ((h_.New.length:Int) - (h_.Old.length:Int))).bind fun z1 =>
 some z1
abbrev G3.j1 (x1:Kl):Option Kl :=
 some x1
abbrev G3.l1 (p_:Patch) (x2:Int) (x3:Kl):Option (Step (Int×Kl) Kl) :=
 if decide (x2 < (p_.Hunks.length:Int)) then
(at? p_.Hunks x2).bind fun y1 =>
(M7 y1).bind fun y2 =>
(Qo y1).bind fun y3 =>
(app? 24 x3 ([({ Low:=y1.At,High:=y2,Growth:=y3 }:Range_commute)]:Kl)).bind fun y4 =>
(ckK .i64 (x2+1)).bind fun z1 =>
 some (Step.next (z1,y4))
 else
 some (Step.done x3)
def G3 (p_:Patch):Option Kl :=
(C7 (fun s=>G3.l1 p_ s.1 s.2) (0,[])).bind fun r1 =>
 G3.j1 r1
def G7 (a_:RangeX_commute) (b_:RangeX_commute):Option Int :=
 if !decide (a_.Low=b_.Low) then
(ckK .i64 (a_.Low - b_.Low)).bind fun z1 =>
 some z1
 else
(ckK .i64 (a_.High - b_.High)).bind fun z2 =>
 some z2
def Tl (a_:RangeX_commute) (b_:RangeX_commute):Option Bool :=
(if decide (a_.High ≥ b_.Low) then some (decide (b_.High ≥ a_.Low)) else some false).bind fun x1 =>
 some x1
abbrev Ga.j1 (x1:Gf):Option Gf :=
 some x1
abbrev Ga.j2 (x2:Int) (x5:Gf):Option (Step (Int×Gf) Gf) :=
(ckK .i64 (x2+1)).bind fun z1 =>
 some (Step.next (z1,x5))
abbrev Ga.l1 (y4:Gf) (x2:Int) (x3:Gf):Option (Step (Int×Gf) Gf) :=
 if decide (x2 < (y4.length:Int)) then
(at? y4 x2).bind fun y5 =>
(if decide ((x3.length:Int) > 0) then (ckK .i64 ((x3.length:Int) - 1)).bind fun z2 =>
(at? x3 z2).bind fun y6 =>
(Tl y6 y5).bind fun y7 =>
 some y7 else some false).bind fun x6 =>
 if x6 then
(ckK .i64 ((x3.length:Int) - 1)).bind fun z3 =>
(ckK .i64 ((x3.length:Int) - 1)).bind fun z4 =>
(at? x3 z4).bind fun y8 =>
(at? x3 z3).bind fun y9 =>
(some (x3.set z3.toNat ({ Low:=y9.Low,High:=max y8.High y5.High,Growth:=y9.Growth }:RangeX_commute))).bind fun y10 =>
 Ga.j2 x2 y10
 else
(app? 24 x3 ([y5]:Gf)).bind fun y11 =>
 Ga.j2 x2 y11
 else
 some (Step.done x3)
def Ga (p_:Patch) (q_:Patch):Option Gf :=
(G3 p_).bind fun y1 =>
(G3 q_).bind fun y2 =>
(app? 24 (y1.map Nl) (y2.map Nl)).bind fun y3 =>
(sortM G7 y3).bind fun y4 =>
(C7 (fun s=>Ga.l1 y4 s.1 s.2) (0,[])).bind fun r1 =>
 Ga.j1 r1
abbrev Gj.j1 (l_:Ab) (x1:Bo):Option Merger_merge3 :=
(ckK .i64 ((x1.length:Int) - 1)).bind fun z1 =>
(at? x1 z1).bind fun y1 =>
(app? 16 y1.Lines l_).bind fun y2 =>
(some (x1.set z1.toNat ({ Conflict:=y1.Conflict,Lines:=y2,Base:=y1.Base,Left:=y1.Left,Right:=y1.Right }:Chunk))).bind fun y3 =>
 some ({ out:=y3 }:Merger_merge3)
def Gj (m_:Merger_merge3) (l_:Ab):Option Merger_merge3 :=
 if decide ((l_.length:Int)=0) then
 some m_
 else
(if decide ((m_.out.length:Int)=0) then some true else (ckK .i64 ((m_.out.length:Int) - 1)).bind fun z2 =>
(at? m_.out z2).bind fun y4 =>
 some y4.Conflict).bind fun x2 =>
 if x2 then
(app? 104 m_.out ([({ Conflict:=false,Lines:=[],Base:=[],Left:=[],Right:=[] }:Chunk)]:Bo)).bind fun y5 =>
 Gj.j1 l_ y5
 else
 Gj.j1 l_ m_.out
abbrev Hk.j1 (x1:A7):Option A7 :=
 some x1
abbrev Hk.j2 (x2:Int) (x5:A7):Option (Step (Int×A7) A7) :=
(ckK .i64 (x2+1)).bind fun z1 =>
 some (Step.next (z1,x5))
abbrev Hk.l1 (p_:Patch) (r_:RangeX_commute) (x2:Int) (x3:A7):Option (Step (Int×A7) A7) :=
 if decide (x2 < (p_.Hunks.length:Int)) then
(at? p_.Hunks x2).bind fun y1 =>
(if decide (y1.At ≥ r_.Low) then (M7 y1).bind fun y2 =>
 some (decide (y2≤r_.High)) else some false).bind fun x6 =>
 if x6 then
(app? 56 x3 ([y1]:A7)).bind fun y3 =>
 Hk.j2 x2 y3
 else
 Hk.j2 x2 x3
 else
 some (Step.done x3)
def Hk (p_:Patch) (r_:RangeX_commute):Option A7 :=
(C7 (fun s=>Hk.l1 p_ r_ s.1 s.2) (0,[])).bind fun r1 =>
 Hk.j1 r1
abbrev E7.j1 (base:Ab) (x1:Int) (x2:Bo):Option (Bo×Fault) :=
(cut? base x1 (base.length:Int)).bind fun y5 =>
(Gj ({ out:=x2 }:Merger_merge3) y5).bind fun y6 =>
 some (y6.out,({ Code:=0,Index:=0 }:Fault))
abbrev E7.j2 (x3:Int) (x7:Int) (x8:Bo):Option (Step (Int×Int×Bo) (Int×Bo)) :=
(ckK .i64 (x3+1)).bind fun z1 =>
 some (Step.next (z1,x7,x8))
abbrev E7.l1 (base:Ab) (y3:Patch×Fault) (y4:Patch×Fault) (y7:Gf) (x3:Int) (x4:Int) (x5:Bo):Option (Step (Int×Int×Bo) (Int×Bo)) :=
 if decide (x3 < (y7.length:Int)) then
(at? y7 x3).bind fun y8 =>
(cut? base x4 y8.Low).bind fun y9 =>
(Gj ({ out:=x5 }:Merger_merge3) y9).bind fun y10 =>
(Hk y3.1 y8).bind fun y11 =>
(Hk y4.1 y8).bind fun y12 =>
(E3 y11 base y8.Low y8.High).bind fun y13 =>
(E3 y12 base y8.Low y8.High).bind fun y14 =>
(if decide ((y12.length:Int)=0) then some true else (H1 y13 y14).bind fun y15 =>
 some y15).bind fun x9 =>
 if x9 then
(Gj y10 y13).bind fun y16 =>
 E7.j2 x3 y8.High y16.out
 else
 if decide ((y11.length:Int)=0) then
(Gj y10 y14).bind fun y17 =>
 E7.j2 x3 y8.High y17.out
 else
(cut? base y8.Low y8.High).bind fun y18 =>
(Nw y18).bind fun y19 =>
(app? 104 y10.out ([({ Conflict:=true,Lines:=[],Base:=y19,Left:=y13,Right:=y14 }:Chunk)]:Bo)).bind fun y20 =>
 E7.j2 x3 y8.High y20
 else
 some (Step.done (x4,x5))
def E7 (base:Ab) (left:Ab) (right:Ab):Option (Bo×Fault) :=
(Wf base left).bind fun y1 =>
 if !(decide (y1.Code=0) && decide (y1.Index=0)) then
 some ([],y1)
 else
(M8 right (-3)).bind fun y2 =>
 if !(decide (y2.Code=0) && decide (y2.Index=0)) then
 some ([],y2)
 else
(Gq base left).bind fun y3 =>
(Gq base right).bind fun y4 =>
(Ga y3.1 y4.1).bind fun y7 =>
(C7 (fun s=>E7.l1 base y3 y4 y7 s.1 s.2.1 s.2.2) (0,0,[])).bind fun r1 =>
 E7.j1 base r1.1 r1.2
abbrev Da.j1:Option Fault :=
 some ({ Code:=0,Index:=0 }:Fault)
abbrev Da.j2 (x1:Int):Option (Step Int (Fault ⊕ Unit)) :=
(ckK .i64 (x1+1)).bind fun z1 =>
 some (Step.next z1)
abbrev Da.j3 (x1:Int) (y1:Chunk):Option (Step Int (Fault ⊕ Unit)) :=
(ckK .i64 ((y1.Base.length:Int)+(y1.Left.length:Int))).bind fun z2 =>
(ckK .i64 (z2+(y1.Right.length:Int))).bind fun z3 =>
(if y1.Conflict then some (decide ((y1.Lines.length:Int) > 0)) else some false).bind fun x3 =>
(if x3 then some true else (if !y1.Conflict then (if decide ((y1.Lines.length:Int)=0) then some true else some (decide (z3 > 0))).bind fun x6 =>
 some x6 else some false).bind fun x5 =>
 some x5).bind fun x4 =>
 if x4 then
 some (Step.done (Sum.inl ({ Code:=5,Index:=x1 }:Fault)))
 else
 Da.j2 x1
abbrev Da.l2 (x1:Int) (y1:Chunk) (x7:Int):Option (Step Int (Fault ⊕ Unit)) :=
 if decide (x7 < 4) then
(at? ([y1.Lines,y1.Base,y1.Left,y1.Right]:List Ab) x7).bind fun y2 =>
(M8 y2 x1).bind fun y3 =>
 if !(decide (y3.Code=0) && decide (y3.Index=0)) then
 some (Step.done (Sum.inl y3))
 else
(ckK .i64 (x7+1)).bind fun z4 =>
 some (Step.next z4)
 else
 some (Step.done (Sum.inr ()))
abbrev Da.l1 (chunks:Bo) (x1:Int):Option (Step Int (Fault ⊕ Unit)) :=
 if decide (x1 < (chunks.length:Int)) then
(at? chunks x1).bind fun y1 =>
(C7 (fun s=>Da.l2 x1 y1 s) 0).bind fun r2 =>
(match r2 with
| .inl p=>some (Step.done (Sum.inl p))
| .inr _=>Da.j3 x1 y1)
 else
 some (Step.done (Sum.inr ()))
def Da (chunks:Bo):Option Fault :=
 if decide ((chunks.length:Int) > 240) then
 some ({ Code:=2,Index:=(-1) }:Fault)
 else
(C7 (fun s=>Da.l1 chunks s) 0).bind fun r1 =>
(match r1 with
| .inl p=>some p
| .inr _=>Da.j1)
def Wz (l_:Ab):Option (Ab×Fault) :=
 if decide ((l_.length:Int) > 120) then
 some ([],({ Code:=10,Index:=(-1) }:Fault))
 else
 some (l_,({ Code:=0,Index:=0 }:Fault))
abbrev Gz.j1 (x1:Ab):Option (Ab×Bool×Fault) :=
(Wz x1).bind fun y2 =>
 some (y2.1,decide (y2.2.Code=0) && decide (y2.2.Index=0),y2.2)
abbrev Gz.l1 (chunks:Bo) (x2:Int) (x3:Ab):Option (Step (Int×Ab) ((Ab×Bool×Fault) ⊕ Ab)) :=
 if decide (x2 < (chunks.length:Int)) then
(at? chunks x2).bind fun y3 =>
 if y3.Conflict then
 some (Step.done (Sum.inl ([],false,({ Code:=0,Index:=0 }:Fault))))
 else
(app? 16 x3 y3.Lines).bind fun y4 =>
(ckK .i64 (x2+1)).bind fun z1 =>
 some (Step.next (z1,y4))
 else
 some (Step.done (Sum.inr x3))
def Gz (chunks:Bo):Option (Ab×Bool×Fault) :=
(Da chunks).bind fun y1 =>
 if !(decide (y1.Code=0) && decide (y1.Index=0)) then
 some ([],false,y1)
 else
(C7 (fun s=>Gz.l1 chunks s.1 s.2) (0,[])).bind fun r1 =>
(match r1 with
| .inl p=>some p
| .inr p=>Gz.j1 p)
abbrev K5.j1 (left:Version_treecommute):Option (Version_treecommute×Bool) :=
 some (left,false)
def K5 (base:Version_treecommute) (left:Version_treecommute) (right:Version_treecommute):Option (Version_treecommute×Bool) :=
(M2 right base).bind fun y1 =>
(if y1 then some true else (M2 right left).bind fun y2 =>
 some y2).bind fun x1 =>
 if x1 then
 some (left,true)
 else
(M2 left base).bind fun y3 =>
 if y3 then
 some (right,true)
 else
(if base.is then some left.is else some false).bind fun x2 =>
(if x2 then some right.is else some false).bind fun x3 =>
 if x3 then
(E7 base.lines left.lines right.lines).bind fun y4 =>
 if decide (y4.2.Code=0) && decide (y4.2.Index=0) then
(Gz y4.1).bind fun y5 =>
(if y5.2.1 then some (decide (y5.2.2.Code=0) && decide (y5.2.2.Index=0)) else some false).bind fun x4 =>
 if x4 then
 some (({ is:=true,lines:=y5.1 }:Version_treecommute),true)
 else
 K5.j1 left
 else
 K5.j1 left
 else
 K5.j1 left
abbrev A9.j3 (x1:Bq) (x6:Bq) (x7:Ai):Option (FileTree×Bq×Fault) :=
 if decide ((x7.length:Int) > 24) then
 some (({ Files:=[] }:FileTree),[],({ Code:=10,Index:=(-1) }:Fault))
 else
(app? 16 x1 x6).bind fun y4 =>
 some (({ Files:=x7 }:FileTree),y4,({ Code:=0,Index:=0 }:Fault))
abbrev A9.j4 (x8:Int) (x12:Bq) (x13:Ai):Option (Step (Int×Bq×Ai) (Bq×Ai)) :=
(ckK .i64 (x8+1)).bind fun z1 =>
 some (Step.next (z1,x12,x13))
abbrev A9.l1 (left:TreePatch) (right:TreePatch) (x2:Ai) (x5:Ai) (x8:Int) (x9:Bq) (x10:Ai):Option (Step (Int×Bq×Ai) (Bq×Ai)) :=
 if decide (x8 < (x2.length:Int)) then
(at? x2 x8).bind fun y5 =>
(Gr x5 y5.Path (-1)).bind fun y6 =>
 if y6 then
(Dk left y5.Path).bind fun y7 =>
(Dk right y5.Path).bind fun y8 =>
(app? 16 x9 ([({ e0:=y7,e1:=y8 }:Arr2_Int)]:Bq)).bind fun y9 =>
 A9.j4 x8 y9 x10
 else
(Kx ({ Files:=x10 }:FileTree) y5.Path y5.Lines).bind fun y10 =>
 A9.j4 x8 x9 y10.Files
 else
 some (Step.done (x9,x10))
abbrev A9.j2 (left:TreePatch) (right:TreePatch) (x1:Bq) (x2:Ai) (x3:Ai) (x5:Ai):Option (FileTree×Bq×Fault) :=
(C7 (fun s=>A9.l1 left right x2 x5 s.1 s.2.1 s.2.2) (0,[],x3)).bind fun r1 =>
 A9.j3 x1 r1.1 r1.2
abbrev A9.j5 (x14:Int) (x17:Ai):Option (Step (Int×Ai) Ai) :=
(ckK .i64 (x14+1)).bind fun z2 =>
 some (Step.next (z2,x17))
abbrev A9.l2 (x3:Ai) (x4:Ai) (x14:Int) (x15:Ai):Option (Step (Int×Ai) Ai) :=
 if decide (x14 < (x3.length:Int)) then
(at? x3 x14).bind fun y11 =>
(Mj ({ Files:=x4 }:FileTree) y11.Path).bind fun y12 =>
 if !y12.is then
(app? 40 x15 ([y11]:Ai)).bind fun y13 =>
 A9.j5 x14 y13
 else
 A9.j5 x14 x15
 else
 some (Step.done x15)
abbrev A9.j1 (left:TreePatch) (right:TreePatch) (x1:Bq) (x2:Ai) (x3:Ai) (x4:Ai):Option (FileTree×Bq×Fault) :=
(C7 (fun s=>A9.l2 x3 x4 s.1 s.2) (0,[])).bind fun r2 =>
 A9.j2 left right x1 x2 x3 r2
abbrev A9.j6 (x18:Int) (x23:Bq) (x24:Ai) (x25:Ai):Option (Step (Int×Bq×Ai×Ai) (Bq×Ai×Ai×Ai)) :=
(ckK .i64 (x18+1)).bind fun z3 =>
 some (Step.next (z3,x23,x24,x25))
abbrev A9.j8 (x18:Int) (x20:Ai) (x21:Ai) (y15:ByteArray) (y16:Version_treecommute) (y19:Version_treecommute×Bool) (x27:Bq):Option (Step (Int×Bq×Ai×Ai) (Bq×Ai×Ai×Ai)) :=
(if y19.1.is then some y16.is else some false).bind fun x28 =>
 if x28 then
(Kx ({ Files:=x21 }:FileTree) y15 y19.1.lines).bind fun y20 =>
 A9.j6 x18 x27 x20 y20.Files
 else
 if y19.1.is then
(Kx ({ Files:=x20 }:FileTree) y15 y19.1.lines).bind fun y21 =>
 A9.j6 x18 x27 y21.Files x21
 else
 A9.j6 x18 x27 x20 x21
abbrev A9.j7 (left:TreePatch) (right:TreePatch) (x18:Int) (x19:Bq) (x20:Ai) (x21:Ai) (y15:ByteArray) (y16:Version_treecommute) (y19:Version_treecommute×Bool):Option (Step (Int×Bq×Ai×Ai) (Bq×Ai×Ai×Ai)) :=
 if !y19.2 then
(Dk left y15).bind fun y22 =>
(Dk right y15).bind fun y23 =>
(app? 16 x19 ([({ e0:=y22,e1:=y23 }:Arr2_Int)]:Bq)).bind fun y24 =>
 A9.j8 x18 x20 x21 y15 y16 y19 y24
 else
 A9.j8 x18 x20 x21 y15 y16 y19 x19
abbrev A9.l3 (base:FileTree) (left:TreePatch) (right:TreePatch) (y2:FileTree×Fault) (y3:FileTree×Fault) (y14:Ab) (x18:Int) (x19:Bq) (x20:Ai) (x21:Ai):Option (Step (Int×Bq×Ai×Ai) (Bq×Ai×Ai×Ai)) :=
 if decide (x18 < (y14.length:Int)) then
(at? y14 x18).bind fun y15 =>
(Mj y2.1 y15).bind fun y16 =>
(Mj base y15).bind fun y17 =>
(Mj y3.1 y15).bind fun y18 =>
(K5 y17 y16 y18).bind fun y19 =>
 A9.j7 left right x18 x19 x20 x21 y15 y16 y19
 else
 some (Step.done (x19,x20,x21,y3.1.Files))
def A9 (base:FileTree) (left:TreePatch) (right:TreePatch):Option (FileTree×Bq×Fault) :=
(G5 base).bind fun y1 =>
 if !(decide (y1.Code=0) && decide (y1.Index=0)) then
 some (({ Files:=[] }:FileTree),[],y1)
 else
(Ha left base).bind fun y2 =>
 if !(decide (y2.2.Code=0) && decide (y2.2.Index=0)) then
 some (({ Files:=[] }:FileTree),[],({ Code:=y2.2.Code,Index:=(-2) }:Fault))
 else
(Ha right base).bind fun y3 =>
 if !(decide (y3.2.Code=0) && decide (y3.2.Index=0)) then
 some (({ Files:=[] }:FileTree),[],({ Code:=y3.2.Code,Index:=(-3) }:Fault))
 else
(C9 ([base,y2.1,y3.1]:Ea)).bind fun y14 =>
(C7 (fun s=>A9.l3 base left right y2 y3 y14 s.1 s.2.1 s.2.2.1 s.2.2.2) (0,[],[],[])).bind fun r3 =>
 A9.j1 left right r3.1 r3.2.1 r3.2.2.1 r3.2.2.2
abbrev Dq.j3 (s_:State_forge) (m_:Message_forge) (y1:Developer_forge) (y8:FileTree×Bq×Fault) (y10:TreePatch×Fault):Option (Int×State_forge) :=
 if !(decide (y10.2.Code=0) && decide (y10.2.Index=0)) then
 some (y10.2.Code,s_)
 else
(some (s_.developers.set m_.user.toNat ({ tree:=y1.tree,base:=y1.base,sent:=y1.sent,accepted:=m_.number }:Developer_forge))).bind fun y11 =>
(app? 24 s_.versions ([y8.1]:Ea)).bind fun y12 =>
(app? 40 s_.log ([({ User:=m_.user,Number:=m_.number,Patch:=y10.1 }:ForgeEntry)]:D2)).bind fun y13 =>
 some (0,({ keys:=s_.keys,versions:=y12,developers:=y11,flight:=s_.flight,log:=y13 }:State_forge))
abbrev Dq.j2 (s_:State_forge) (m_:Message_forge) (y1:Developer_forge) (y5:FileTree) (y7:TreePatch×Fault):Option (Int×State_forge) :=
 if !(decide (y7.2.Code=0) && decide (y7.2.Index=0)) then
 some (y7.2.Code,s_)
 else
(A9 y5 y7.1 m_.patch).bind fun y8 =>
 if !(decide (y8.2.2.Code=0) && decide (y8.2.2.Index=0)) then
 some (y8.2.2.Code,s_)
 else
 if decide ((y8.2.1.length:Int) > 0) then
 some (19,s_)
 else
(Lf s_).bind fun y9 =>
(Cf y9 y8.1).bind fun y10 =>
 Dq.j3 s_ m_ y1 y8 y10
abbrev Dq.j1 (s_:State_forge) (m_:Message_forge) (y1:Developer_forge) (y4:Bool×Fault):Option (Int×State_forge) :=
 if !y4.1 then
 some (18,s_)
 else
 if decide (m_.number≤y1.accepted) then
 some (16,s_)
 else
(at? s_.versions m_.base).bind fun y5 =>
(Lf s_).bind fun y6 =>
(Cf y5 y6).bind fun y7 =>
 Dq.j2 s_ m_ y1 y5 y7
def Dq (s_:State_forge) (m_:Message_forge):Option (Int×State_forge) :=
(at? s_.developers m_.user).bind fun y1 =>
(at? s_.keys m_.user).bind fun y2 =>
(Lz m_).bind fun y3 =>
(Uo y2 y3 m_.signature).bind fun y4 =>
 Dq.j1 s_ m_ y1 y4
abbrev Ej.j1 (s_:State_forge) (x1:Em):Option (Int×State_forge) :=
 some (0,({ keys:=s_.keys,versions:=s_.versions,developers:=s_.developers,flight:=x1,log:=s_.log }:State_forge))
def Ej (s_:State_forge) (e_:ForgeEvent):Option (Int×State_forge) :=
 if decide (e_.N ≥ (s_.flight.length:Int)) then
 some (6,s_)
 else
(at? s_.flight e_.N).bind fun y1 =>
 if decide (e_.Kind=4) then
(ckK .i64 (e_.N+1)).bind fun z1 =>
(del? s_.flight e_.N z1).bind fun y2 =>
(Dq ({ keys:=s_.keys,versions:=s_.versions,developers:=s_.developers,flight:=y2,log:=s_.log }:State_forge) y1).bind fun y3 =>
 some (y3.1,y3.2)
 else
 if decide (e_.Kind=5) then
(ckK .i64 (e_.N+1)).bind fun z2 =>
(del? s_.flight e_.N z2).bind fun y4 =>
 Ej.j1 s_ y4
 else
 if decide (e_.Kind=6) then
 if decide ((s_.flight.length:Int) ≥ 20) then
 some (14,s_)
 else
(ckK .i64 (e_.N+1)).bind fun z3 =>
(ins? 56 s_.flight z3 ([y1]:Em)).bind fun y5 =>
 Ej.j1 s_ y5
 else
(ckK .i64 (y1.signature+1)).bind fun z4 =>
(rem? z4 2305843009213693951).bind fun z5 =>
(at? s_.flight e_.N).bind fun y6 =>
(some (s_.flight.set e_.N.toNat ({ user:=y6.user,number:=y6.number,base:=y6.base,signature:=z5,patch:=y6.patch }:Message_forge))).bind fun y7 =>
 Ej.j1 s_ y7
abbrev Hb.j1 (keys:(List Int)) (x1:List Int) (x2:List Int) (x3:Ea) (x4:Kd) (x5:Em) (x6:D2):Option (Fault ⊕ (State_forge×(List Int))) :=
 some (Sum.inr (({ keys:=x2,versions:=x3,developers:=x4,flight:=x5,log:=x6 }:State_forge),x1))
abbrev Hb.j2 (keys:(List Int)) (x7:Int) (x8:List Int) (x9:List Int) (x10:Ea) (x11:Kd) (x12:Em) (x13:D2) (y3:ForgeEvent) (x15:Bool):Option (Step (Int×(List Int)×(List Int)×Ea×Kd×Em×D2) ((List Int)×(List Int)×Ea×Kd×Em×D2)) :=
 if x15 then
(Ej ({ keys:=x9,versions:=x10,developers:=x11,flight:=x12,log:=x13 }:State_forge) y3).bind fun y4 =>
(app? 8 x8 ([y4.1]:List Int)).bind fun y5 =>
(ckK .i64 (x7+1)).bind fun z1 =>
 some (Step.next (z1,y5,y4.2.keys,y4.2.versions,y4.2.developers,y4.2.flight,y4.2.log))
 else
(C0 ({ keys:=x9,versions:=x10,developers:=x11,flight:=x12,log:=x13 }:State_forge) y3).bind fun y6 =>
(app? 8 x8 ([y6.1]:List Int)).bind fun y7 =>
(ckK .i64 (x7+1)).bind fun z2 =>
 some (Step.next (z2,y7,y6.2.keys,y6.2.versions,y6.2.developers,y6.2.flight,y6.2.log))
abbrev Hb.l1 (keys:(List Int)) (events:Cx) (x7:Int) (x8:List Int) (x9:List Int) (x10:Ea) (x11:Kd) (x12:Em) (x13:D2):Option (Step (Int×(List Int)×(List Int)×Ea×Kd×Em×D2) ((List Int)×(List Int)×Ea×Kd×Em×D2)) :=
 if decide (x7 < (events.length:Int)) then
(at? events x7).bind fun y3 =>
 if decide (y3.Kind=4) then
 Hb.j2 keys x7 x8 x9 x10 x11 x12 x13 y3 (decide (y3.Kind=4))
 else
 if decide (y3.Kind=5) then
 Hb.j2 keys x7 x8 x9 x10 x11 x12 x13 y3 (decide (y3.Kind=5))
 else
 if decide (y3.Kind=6) then
 Hb.j2 keys x7 x8 x9 x10 x11 x12 x13 y3 (decide (y3.Kind=6))
 else
 Hb.j2 keys x7 x8 x9 x10 x11 x12 x13 y3 (decide (y3.Kind=7))
 else
 some (Step.done (x8,x9,x10,x11,x12,x13))
def Hb (keys:(List Int)) (events:Cx):Option (Fault ⊕ (State_forge×(List Int))) :=
(E9 keys events).bind fun y1 =>
 if !(decide (y1.Code=0) && decide (y1.Index=0)) then
 some (Sum.inl y1)
 else
(mk? 48 (keys.length:Int) ({ tree:=({ Files:=[] }:FileTree),base:=0,sent:=0,accepted:=0 }:Developer_forge)).bind fun y2 =>
(C7 (fun s=>Hb.l1 keys events s.1 s.2.1 s.2.2.1 s.2.2.2.1 s.2.2.2.2.1 s.2.2.2.2.2.1 s.2.2.2.2.2.2) (0,[],keys,([({ Files:=[] }:FileTree)]:Ea),y2,[],[])).bind fun r1 =>
 Hb.j1 keys r1.1 r1.2.1 r1.2.2.1 r1.2.2.2.1 r1.2.2.2.2.1 r1.2.2.2.2.2
def Wj (keys:(List Int)) (events:Cx):Option (FileTree×D2×(List Int)×Fault) :=
(Hb keys events).bind fun y1 =>
(match y1 with
| .inl f1 =>
 some (({ Files:=[] }:FileTree),[],[],f1)
| .inr (x1,z1) =>
(Lf x1).bind fun y2 =>
(Ez y2).bind fun y3 =>
 some (y3,x1.log,z1,({ Code:=0,Index:=0 }:Fault)))
def O8 (keys:(List Int)) (events:Cx) (user:Int):Option (FileTree×Fault) :=
(Hb keys events).bind fun y1 =>
(match y1 with
| .inl f1 =>
 some (({ Files:=[] }:FileTree),f1)
| .inr (x1,z1) =>
(if decide (user < 0) then some true else some (decide (user ≥ (keys.length:Int)))).bind fun x2 =>
 if x2 then
 some (({ Files:=[] }:FileTree),({ Code:=3,Index:=(-20) }:Fault))
 else
(at? x1.developers user).bind fun y2 =>
(Ez y2.tree).bind fun y3 =>
 some (y3,({ Code:=0,Index:=0 }:Fault)))
def Bd (code:Int) (index:Int):Option Fault :=
 some ({ Code:=code,Index:=index }:Fault)
def K3 (e_:ForgeEvent):Option Bool :=
(if decide (e_.Kind=4) then some true else some (decide (e_.Kind=5))).bind fun x1 =>
(if x1 then some true else some (decide (e_.Kind=6))).bind fun x2 =>
(if x2 then some true else some (decide (e_.Kind=7))).bind fun x3 =>
 some x3
def Nc (c_:Int):Option Bool :=
(if decide (c_ ≥ 97) then some (decide (c_≤122)) else some false).bind fun x1 =>
(if x1 then some true else (if decide (c_ ≥ 65) then some (decide (c_≤90)) else some false).bind fun x3 =>
 some x3).bind fun x2 =>
(if x2 then some true else (if decide (c_ ≥ 48) then some (decide (c_≤57)) else some false).bind fun x5 =>
 some x5).bind fun x4 =>
(if x4 then some true else some (decide (c_=46))).bind fun x6 =>
(if x6 then some true else some (decide (c_=95))).bind fun x7 =>
(if x7 then some true else some (decide (c_=45))).bind fun x8 =>
 some x8
abbrev B2.j1:Option Bool :=
 some true
abbrev B2.j2 (x1:Int) (x4:Int):Option (Step (Int×Int) (Bool ⊕ Unit)) :=
(ckK .i64 (x1 - 1)).bind fun z2 =>
 some (Step.next (z2,x4))
abbrev B2.l1 (s_:ByteArray) (x1:Int) (x2:Int):Option (Step (Int×Int) (Bool ⊕ Unit)) :=
 if decide (x1 ≥ (-1)) then
(if decide (x1 ≥ 0) then (sAt? s_ x1).bind fun y1 =>
 some (!decide (y1=47)) else some false).bind fun x5 =>
 if x5 then
(sAt? s_ x1).bind fun y2 =>
(Nc y2).bind fun y3 =>
 if !y3 then
 some (Step.done (Sum.inl false))
 else
 B2.j2 x1 x2
 else
(ckK .i64 (x1+1)).bind fun z3 =>
(scut? s_ z3 x2).bind fun y4 =>
(if decide (y4=(⟨#[]⟩:ByteArray)) then some true else some (decide (y4=(⟨#[46]⟩:ByteArray)))).bind fun x6 =>
(if x6 then some true else some (decide (y4=(⟨#[46,46]⟩:ByteArray)))).bind fun x7 =>
 if x7 then
 some (Step.done (Sum.inl false))
 else
 B2.j2 x1 x1
 else
 some (Step.done (Sum.inr ()))
def B2 (s_:ByteArray):Option Bool :=
 if decide ((s_.size:Int) > 60) then
 some false
 else
(ckK .i64 ((s_.size:Int) - 1)).bind fun z1 =>
(C7 (fun s=>B2.l1 s_ s.1 s.2) (z1,(s_.size:Int))).bind fun r1 =>
(match r1 with
| .inl p=>some p
| .inr _=>B2.j1)
def Cb.body (rec_:ByteArray→ByteArray→Option Bool) (a_:ByteArray) (b_:ByteArray):Option Bool :=
 if decide ((a_.size:Int) > (b_.size:Int)) then
(rec_ b_ a_).bind fun y1 =>
 some y1
 else
(scut? b_ 0 (a_.size:Int)).bind fun y2 =>
(if decide (y2=a_) then (if decide ((a_.size:Int)=(b_.size:Int)) then some true else (sAt? b_ (a_.size:Int)).bind fun y3 =>
 some (decide (y3=47))).bind fun x2 =>
 some x2 else some false).bind fun x1 =>
 some x1
def Cb.m:Nat→ByteArray→ByteArray→Option Bool
| 0=>fun _ _=>Option.none
| k+1=>Cb.body (Cb.m k)
def Cb (a_:ByteArray) (b_:ByteArray):Option Bool:=Cb.m (2) a_ b_
abbrev Bp.j1:Option Fault :=
 some ({ Code:=0,Index:=0 }:Fault)
abbrev Bp.j2 (x1:Int):Option (Step Int (Fault ⊕ Unit)) :=
(ckK .i64 (x1+1)).bind fun z1 =>
 some (Step.next z1)
abbrev Bp.j3 (x1:Int):Option (Step Int (Fault ⊕ Unit)) :=
 Bp.j2 x1
abbrev Bp.l2 (l_:Ab) (x1:Int) (x3:Int):Option (Step Int (Fault ⊕ Unit)) :=
(at? l_ x1).bind fun y4 =>
 if decide (x3 < (y4.size:Int)) then
(at? l_ x1).bind fun y5 =>
(sAt? y5 x3).bind fun y6 =>
 if decide (y6=10) then
(Bd 5 x1).bind fun y7 =>
 some (Step.done (Sum.inl y7))
 else
(ckK .i64 (x3+1)).bind fun z2 =>
 some (Step.next z2)
 else
 some (Step.done (Sum.inr ()))
abbrev Bp.l1 (l_:Ab) (x1:Int):Option (Step Int (Fault ⊕ Unit)) :=
 if decide (x1 < (l_.length:Int)) then
(at? l_ x1).bind fun y2 =>
 if decide ((y2.size:Int) > 80) then
(Bd 2 x1).bind fun y3 =>
 some (Step.done (Sum.inl y3))
 else
(C7 (fun s=>Bp.l2 l_ x1 s) 0).bind fun r2 =>
(match r2 with
| .inl p=>some (Step.done (Sum.inl p))
| .inr _=>Bp.j3 x1)
 else
 some (Step.done (Sum.inr ()))
def Bp (l_:Ab):Option Fault :=
 if decide ((l_.length:Int) > 120) then
(Bd 2 (-1)).bind fun y1 =>
 some y1
 else
(C7 (fun s=>Bp.l1 l_ s) 0).bind fun r1 =>
(match r1 with
| .inl p=>some p
| .inr _=>Bp.j1)
def Dl (l_:Ab):Option Int :=
(Bp l_).bind fun y1 =>
 some y1.Code
def Gv (h_:Hunk):Option Int :=
(ckK .i64 (h_.At+(h_.Old.length:Int))).bind fun z1 =>
 some z1
abbrev Dn.j1:Option Fault :=
 some ({ Code:=0,Index:=0 }:Fault)
abbrev Dn.l1 (p_:Patch) (x1:Int):Option (Step Int (Fault ⊕ Unit)) :=
 if decide (x1 < (p_.Hunks.length:Int)) then
(at? p_.Hunks x1).bind fun y2 =>
(if decide (y2.At < 0) then some true else some (decide (y2.At > 120))).bind fun x3 =>
 if x3 then
(Bd 3 x1).bind fun y3 =>
 some (Step.done (Sum.inl y3))
 else
(Dl y2.Old).bind fun y4 =>
 if !decide (y4=0) then
(Bd y4 x1).bind fun y5 =>
 some (Step.done (Sum.inl y5))
 else
(Dl y2.New).bind fun y6 =>
 if !decide (y6=0) then
(Bd y6 x1).bind fun y7 =>
 some (Step.done (Sum.inl y7))
 else
(ckK .i64 ((y2.Old.length:Int)+(y2.New.length:Int))).bind fun z1 =>
(if decide (z1=0) then some true else (if decide (x1 > 0) then (ckK .i64 (x1 - 1)).bind fun z2 =>
(at? p_.Hunks z2).bind fun y8 =>
(Gv y8).bind fun y9 =>
 some (decide (y2.At≤y9)) else some false).bind fun x5 =>
 some x5).bind fun x4 =>
 if x4 then
(Bd 5 x1).bind fun y10 =>
 some (Step.done (Sum.inl y10))
 else
(Gv y2).bind fun y11 =>
 if decide (y11 > 120) then
(Bd 3 x1).bind fun y12 =>
 some (Step.done (Sum.inl y12))
 else
(ckK .i64 (x1+1)).bind fun z3 =>
 some (Step.next z3)
 else
 some (Step.done (Sum.inr ()))
def Dn (p_:Patch):Option Fault :=
 if decide ((p_.Hunks.length:Int) > 130) then
(Bd 2 (-1)).bind fun y1 =>
 some y1
 else
(C7 (fun s=>Dn.l1 p_ s) 0).bind fun r1 =>
(match r1 with
| .inl p=>some p
| .inr _=>Dn.j1)
def Ln (c_:TreeChange):Option Int :=
(if !(decide (c_.Kind=1)) then some (!(decide (c_.Kind=2))) else some false).bind fun x1 =>
(if x1 then some (!(decide (c_.Kind=3))) else some false).bind fun x2 =>
(if x2 then some (!(decide (c_.Kind=4))) else some false).bind fun x3 =>
 if x3 then
 some 4
 else
(B2 c_.Path).bind fun y1 =>
(if !y1 then some true else (if decide (c_.Kind=3) then (B2 c_.To).bind fun y2 =>
 some !y2 else some false).bind fun x5 =>
 some x5).bind fun x4 =>
 if x4 then
 some 12
 else
(if !(decide (c_.Kind=3)) then some (!decide (c_.To=(⟨#[]⟩:ByteArray))) else some false).bind fun x6 =>
(if x6 then some true else (if decide (c_.Kind=3) then (Cb c_.Path c_.To).bind fun y3 =>
 some y3 else some false).bind fun x8 =>
 some x8).bind fun x7 =>
(if x7 then some true else (if !(decide (c_.Kind=1)) then some (!(decide (c_.Kind=2))) else some false).bind fun x10 =>
(if x10 then some (decide ((c_.Lines.length:Int) > 0)) else some false).bind fun x11 =>
 some x11).bind fun x9 =>
(if x9 then some true else (if decide (c_.Kind=4) then some (decide ((c_.Patch.Hunks.length:Int)=0)) else some false).bind fun x13 =>
 some x13).bind fun x12 =>
(if x12 then some true else (if !(decide (c_.Kind=4)) then some (decide ((c_.Patch.Hunks.length:Int) > 0)) else some false).bind fun x15 =>
 some x15).bind fun x14 =>
 if x14 then
 some 5
 else
(Dl c_.Lines).bind fun y4 =>
 if !decide (y4=0) then
 some y4
 else
(Dn c_.Patch).bind fun y5 =>
 some y5.Code
abbrev C2.j1:Option Fault :=
 some ({ Code:=0,Index:=0 }:Fault)
abbrev C2.l1 (p_:TreePatch) (x1:Int):Option (Step Int (Fault ⊕ Unit)) :=
 if decide (x1 < (p_.Changes.length:Int)) then
(at? p_.Changes x1).bind fun y2 =>
(Ln y2).bind fun y3 =>
 if !decide (y3=0) then
(Bd y3 x1).bind fun y4 =>
 some (Step.done (Sum.inl y4))
 else
(ckK .i64 (x1+1)).bind fun z1 =>
 some (Step.next z1)
 else
 some (Step.done (Sum.inr ()))
def C2 (p_:TreePatch):Option Fault :=
 if decide ((p_.Changes.length:Int) > 30) then
(Bd 2 (-1)).bind fun y1 =>
 some y1
 else
(C7 (fun s=>C2.l1 p_ s) 0).bind fun r1 =>
(match r1 with
| .inl p=>some p
| .inr _=>C2.j1)
abbrev Bt.j2:Option Fault :=
 some ({ Code:=0,Index:=0 }:Fault)
abbrev Bt.j3 (x2:Int):Option (Step Int (Fault ⊕ Unit)) :=
(ckK .i64 (x2+1)).bind fun z1 =>
 some (Step.next z1)
abbrev Bt.l1 (keys:(List Int)) (l_:Cx) (x2:Int):Option (Step Int (Fault ⊕ Unit)) :=
 if decide (x2 < (l_.length:Int)) then
(at? l_ x2).bind fun y3 =>
(if decide (y3.Kind < 1) then some true else some (decide (y3.Kind > 8))).bind fun x4 =>
 if x4 then
(Bd 4 x2).bind fun y4 =>
 some (Step.done (Sum.inl y4))
 else
(K3 y3).bind fun y5 =>
 if y5 then
(if decide (y3.N < 0) then some true else some (decide (y3.N > 1000000000))).bind fun x5 =>
 if x5 then
(Bd 3 x2).bind fun y6 =>
 some (Step.done (Sum.inl y6))
 else
 Bt.j3 x2
 else
(if decide (y3.User < 0) then some true else some (decide (y3.User ≥ (keys.length:Int)))).bind fun x6 =>
(if x6 then some true else (if decide (y3.Kind=3) then (if decide (y3.Key < 1) then some true else some (decide (y3.Key > 1000000000))).bind fun x9 =>
 some x9 else some false).bind fun x8 =>
 some x8).bind fun x7 =>
 if x7 then
(Bd 3 x2).bind fun y7 =>
 some (Step.done (Sum.inl y7))
 else
(if decide (y3.Kind=2) then (C2 y3.Patch).bind fun y8 =>
 some (!decide (y8.Code=0)) else some false).bind fun x10 =>
 if x10 then
(C2 y3.Patch).bind fun y9 =>
(Bd y9.Code x2).bind fun y10 =>
 some (Step.done (Sum.inl y10))
 else
 Bt.j3 x2
 else
 some (Step.done (Sum.inr ()))
abbrev Bt.j1 (keys:(List Int)) (l_:Cx):Option Fault :=
 if decide ((l_.length:Int) > 40) then
(Bd 2 (-1)).bind fun y2 =>
 some y2
 else
(C7 (fun s=>Bt.l1 keys l_ s) 0).bind fun r1 =>
(match r1 with
| .inl p=>some p
| .inr _=>Bt.j2)
abbrev Bt.l2 (keys:(List Int)) (x11:Int):Option (Step Int (Fault ⊕ Unit)) :=
 if decide (x11 < (keys.length:Int)) then
(at? keys x11).bind fun y11 =>
(if decide (y11 < 1) then some true else (at? keys x11).bind fun y12 =>
 some (decide (y12 > 1000000000))).bind fun x13 =>
 if x13 then
(ckK .i64 ((-3) - x11)).bind fun z2 =>
(Bd 3 z2).bind fun y13 =>
 some (Step.done (Sum.inl y13))
 else
(ckK .i64 (x11+1)).bind fun z3 =>
 some (Step.next z3)
 else
 some (Step.done (Sum.inr ()))
def Bt (keys:(List Int)) (l_:Cx):Option Fault :=
(if decide ((keys.length:Int)=0) then some true else some (decide ((keys.length:Int) > 4))).bind fun x1 =>
 if x1 then
(Bd 9 (-2)).bind fun y1 =>
 some y1
 else
(C7 (fun s=>Bt.l2 keys s) 0).bind fun r2 =>
(match r2 with
| .inl p=>some p
| .inr _=>Bt.j1 keys l_)
abbrev D5.j1:Option Bool :=
 some true
abbrev D5.l1 (a_:Ab) (b_:Ab) (x1:Int):Option (Step Int (Bool ⊕ Unit)) :=
 if decide (x1 < (a_.length:Int)) then
(at? a_ x1).bind fun y1 =>
(at? b_ x1).bind fun y2 =>
 if !decide (y1=y2) then
 some (Step.done (Sum.inl false))
 else
(ckK .i64 (x1+1)).bind fun z1 =>
 some (Step.next z1)
 else
 some (Step.done (Sum.inr ()))
def D5 (a_:Ab) (b_:Ab):Option Bool :=
 if !decide ((a_.length:Int)=(b_.length:Int)) then
 some false
 else
(C7 (fun s=>D5.l1 a_ b_ s) 0).bind fun r1 =>
(match r1 with
| .inl p=>some p
| .inr _=>D5.j1)
abbrev Eh.j1:Option Bool :=
 some true
abbrev Eh.l1 (a_:FileTree) (b_:FileTree) (x1:Int):Option (Step Int (Bool ⊕ Unit)) :=
 if decide (x1 < (a_.Files.length:Int)) then
(at? a_.Files x1).bind fun y1 =>
(at? b_.Files x1).bind fun y2 =>
(if !decide (y1.Path=y2.Path) then some true else (at? a_.Files x1).bind fun y3 =>
(at? b_.Files x1).bind fun y4 =>
(D5 y3.Lines y4.Lines).bind fun y5 =>
 some !y5).bind fun x3 =>
 if x3 then
 some (Step.done (Sum.inl false))
 else
(ckK .i64 (x1+1)).bind fun z1 =>
 some (Step.next z1)
 else
 some (Step.done (Sum.inr ()))
def Eh (a_:FileTree) (b_:FileTree):Option Bool :=
 if !decide ((a_.Files.length:Int)=(b_.Files.length:Int)) then
 some false
 else
(C7 (fun s=>Eh.l1 a_ b_ s) 0).bind fun r1 =>
(match r1 with
| .inl p=>some p
| .inr _=>Eh.j1)
abbrev E1.j1:Option Bool :=
 some true
abbrev E1.l1 (a_:Patch) (b_:Patch) (x1:Int):Option (Step Int (Bool ⊕ Unit)) :=
 if decide (x1 < (a_.Hunks.length:Int)) then
(at? a_.Hunks x1).bind fun y1 =>
(at? b_.Hunks x1).bind fun y2 =>
(if !decide (y1.At=y2.At) then some true else (at? a_.Hunks x1).bind fun y3 =>
(at? b_.Hunks x1).bind fun y4 =>
(D5 y3.Old y4.Old).bind fun y5 =>
 some !y5).bind fun x3 =>
(if x3 then some true else (at? a_.Hunks x1).bind fun y6 =>
(at? b_.Hunks x1).bind fun y7 =>
(D5 y6.New y7.New).bind fun y8 =>
 some !y8).bind fun x4 =>
 if x4 then
 some (Step.done (Sum.inl false))
 else
(ckK .i64 (x1+1)).bind fun z1 =>
 some (Step.next z1)
 else
 some (Step.done (Sum.inr ()))
def E1 (a_:Patch) (b_:Patch):Option Bool :=
 if !decide ((a_.Hunks.length:Int)=(b_.Hunks.length:Int)) then
 some false
 else
(C7 (fun s=>E1.l1 a_ b_ s) 0).bind fun r1 =>
(match r1 with
| .inl p=>some p
| .inr _=>E1.j1)
def Li (a_:TreeChange) (b_:TreeChange):Option Bool :=
(if decide (a_.Kind=b_.Kind) then some (decide (a_.Path=b_.Path)) else some false).bind fun x1 =>
(if x1 then some (decide (a_.To=b_.To)) else some false).bind fun x2 =>
(if x2 then (D5 a_.Lines b_.Lines).bind fun y1 =>
 some y1 else some false).bind fun x3 =>
(if x3 then (E1 a_.Patch b_.Patch).bind fun y2 =>
 some y2 else some false).bind fun x4 =>
 some x4
abbrev Ed.j1:Option Bool :=
 some true
abbrev Ed.l1 (a_:TreePatch) (b_:TreePatch) (x1:Int):Option (Step Int (Bool ⊕ Unit)) :=
 if decide (x1 < (a_.Changes.length:Int)) then
(at? a_.Changes x1).bind fun y1 =>
(at? b_.Changes x1).bind fun y2 =>
(Li y1 y2).bind fun y3 =>
 if !y3 then
 some (Step.done (Sum.inl false))
 else
(ckK .i64 (x1+1)).bind fun z1 =>
 some (Step.next z1)
 else
 some (Step.done (Sum.inr ()))
def Ed (a_:TreePatch) (b_:TreePatch):Option Bool :=
 if !decide ((a_.Changes.length:Int)=(b_.Changes.length:Int)) then
 some false
 else
(C7 (fun s=>Ed.l1 a_ b_ s) 0).bind fun r1 =>
(match r1 with
| .inl p=>some p
| .inr _=>Ed.j1)
abbrev Ef.j1:Option Bool :=
 some true
abbrev Ef.l1 (a_:D2) (b_:D2) (x1:Int):Option (Step Int (Bool ⊕ Unit)) :=
 if decide (x1 < (a_.length:Int)) then
(at? a_ x1).bind fun y1 =>
(at? b_ x1).bind fun y2 =>
(if !decide (y1.User=y2.User) then some true else (at? a_ x1).bind fun y3 =>
(at? b_ x1).bind fun y4 =>
 some (!decide (y3.Number=y4.Number))).bind fun x3 =>
(if x3 then some true else (at? a_ x1).bind fun y5 =>
(at? b_ x1).bind fun y6 =>
(Ed y5.Patch y6.Patch).bind fun y7 =>
 some !y7).bind fun x4 =>
 if x4 then
 some (Step.done (Sum.inl false))
 else
(ckK .i64 (x1+1)).bind fun z1 =>
 some (Step.next z1)
 else
 some (Step.done (Sum.inr ()))
def Ef (a_:D2) (b_:D2):Option Bool :=
 if !decide ((a_.length:Int)=(b_.length:Int)) then
 some false
 else
(C7 (fun s=>Ef.l1 a_ b_ s) 0).bind fun r1 =>
(match r1 with
| .inl p=>some p
| .inr _=>Ef.j1)
abbrev Gl.j1:Option Bool :=
 some true
abbrev Gl.l1 (a_:(List Int)) (b_:(List Int)) (x1:Int):Option (Step Int (Bool ⊕ Unit)) :=
 if decide (x1 < (a_.length:Int)) then
(at? a_ x1).bind fun y1 =>
(at? b_ x1).bind fun y2 =>
 if !decide (y1=y2) then
 some (Step.done (Sum.inl false))
 else
(ckK .i64 (x1+1)).bind fun z1 =>
 some (Step.next z1)
 else
 some (Step.done (Sum.inr ()))
def Gl (a_:(List Int)) (b_:(List Int)):Option Bool :=
 if !decide ((a_.length:Int)=(b_.length:Int)) then
 some false
 else
(C7 (fun s=>Gl.l1 a_ b_ s) 0).bind fun r1 =>
(match r1 with
| .inl p=>some p
| .inr _=>Gl.j1)
def Nx (c_:TreeChange):Option TreePatch :=
 some ({ Changes:=([c_]:Ap) }:TreePatch)
def Qg (path:ByteArray) (l_:Ab):Option FileTree :=
 some ({ Files:=([({ Path:=path,Lines:=l_ }:File)]:Ai) }:FileTree)
abbrev Ei.j1 (x1:Bool):Option Bool :=
 some x1
def Ei:Option Bool :=
(Nx ({ Kind:=1,Path:=(⟨#[97]⟩:ByteArray),To:=ByteArray.empty,Lines:=([(⟨#[120]⟩:ByteArray)]:Ab),Patch:=({ Hunks:=[] }:Patch) }:TreeChange)).bind fun y1 =>
(Wj ([5]:List Int) ([({ Kind:=2,User:=0,Key:=0,N:=0,Patch:=y1 }:ForgeEvent),({ Kind:=3,User:=0,Key:=5,N:=0,Patch:=({ Changes:=[] }:TreePatch) }:ForgeEvent),({ Kind:=4,User:=0,Key:=0,N:=0,Patch:=({ Changes:=[] }:TreePatch) }:ForgeEvent)]:Cx)).bind fun y2 =>
 if decide (y2.2.2.2.Code=0) then
(Qg (⟨#[97]⟩:ByteArray) ([(⟨#[120]⟩:ByteArray)]:Ab)).bind fun y3 =>
(Eh y2.1 y3).bind fun y4 =>
 if y4 then
(Ef y2.2.1 ([({ User:=0,Number:=1,Patch:=y1 }:ForgeEntry)]:D2)).bind fun y5 =>
 if y5 then
(Gl y2.2.2.1 ([0,0,0]:List Int)).bind fun y6 =>
 Ei.j1 y6
 else
 Ei.j1 false
 else
 Ei.j1 false
 else
 Ei.j1 false
abbrev Dj.j1:Option Bool :=
 some true
abbrev Dj.l1 (a_:Ab) (b_:Ab) (x1:Int):Option (Step Int (Bool ⊕ Unit)) :=
 if decide (x1 < (a_.length:Int)) then
(at? a_ x1).bind fun y1 =>
(at? b_ x1).bind fun y2 =>
 if !decide (y1=y2) then
 some (Step.done (Sum.inl false))
 else
(ckK .i64 (x1+1)).bind fun z1 =>
 some (Step.next z1)
 else
 some (Step.done (Sum.inr ()))
def Dj (a_:Ab) (b_:Ab):Option Bool :=
 if !decide ((a_.length:Int)=(b_.length:Int)) then
 some false
 else
(C7 (fun s=>Dj.l1 a_ b_ s) 0).bind fun r1 =>
(match r1 with
| .inl p=>some p
| .inr _=>Dj.j1)
abbrev Bv.j1:Option Fault :=
 some ({ Code:=0,Index:=0 }:Fault)
abbrev Bv.j2 (x1:Int):Option (Step Int (Fault ⊕ Unit)) :=
(ckK .i64 (x1+1)).bind fun z1 =>
 some (Step.next z1)
abbrev Bv.j3 (x1:Int) (y2:File):Option (Step Int (Fault ⊕ Unit)) :=
(Dl y2.Lines).bind fun y7 =>
 if !decide (y7=0) then
(Bd y7 x1).bind fun y8 =>
 some (Step.done (Sum.inl y8))
 else
 Bv.j2 x1
abbrev Bv.l2 (t_:FileTree) (x1:Int) (y2:File) (x4:Int):Option (Step Int (Fault ⊕ Unit)) :=
 if decide (x4 < x1) then
(at? t_.Files x4).bind fun y9 =>
(Cb y9.Path y2.Path).bind fun y10 =>
 if y10 then
(Bd 7 x1).bind fun y11 =>
 some (Step.done (Sum.inl y11))
 else
(ckK .i64 (x4+1)).bind fun z3 =>
 some (Step.next z3)
 else
 some (Step.done (Sum.inr ()))
abbrev Bv.l1 (t_:FileTree) (x1:Int):Option (Step Int (Fault ⊕ Unit)) :=
 if decide (x1 < (t_.Files.length:Int)) then
(at? t_.Files x1).bind fun y2 =>
(B2 y2.Path).bind fun y3 =>
 if !y3 then
(Bd 12 x1).bind fun y4 =>
 some (Step.done (Sum.inl y4))
 else
(if decide (x1 > 0) then (ckK .i64 (x1 - 1)).bind fun z2 =>
(at? t_.Files z2).bind fun y5 =>
 some (sLt y2.Path y5.Path || decide (y2.Path=y5.Path)) else some false).bind fun x3 =>
 if x3 then
(Bd 5 x1).bind fun y6 =>
 some (Step.done (Sum.inl y6))
 else
(C7 (fun s=>Bv.l2 t_ x1 y2 s) 0).bind fun r2 =>
(match r2 with
| .inl p=>some (Step.done (Sum.inl p))
| .inr _=>Bv.j3 x1 y2)
 else
 some (Step.done (Sum.inr ()))
def Bv (t_:FileTree):Option Fault :=
 if decide ((t_.Files.length:Int) > 24) then
(Bd 2 (-1)).bind fun y1 =>
 some y1
 else
(C7 (fun s=>Bv.l1 t_ s) 0).bind fun r1 =>
(match r1 with
| .inl p=>some p
| .inr _=>Bv.j1)
abbrev H4.j1 (x1:Int) (x2:Int):Option Fault :=
 some ({ Code:=x1,Index:=x2 }:Fault)
def H4 (a_:FileTree) (b_:FileTree):Option Fault :=
(Bv a_).bind fun y1 =>
(if decide (y1.Code=0) then (Bv b_).bind fun y2 =>
 some (!decide (y2.Code=0)) else some false).bind fun x3 =>
 if x3 then
(Bv b_).bind fun y3 =>
(Bd y3.Code (-2)).bind fun y4 =>
 H4.j1 y4.Code y4.Index
 else
 H4.j1 y1.Code y1.Index
abbrev B4.j1:Option Int :=
 some (-1)
abbrev B4.l1 (t_:FileTree) (path:ByteArray) (x1:Int):Option (Step Int (Int ⊕ Unit)) :=
 if decide (x1 < (t_.Files.length:Int)) then
(at? t_.Files x1).bind fun y1 =>
 if decide (y1.Path=path) then
 some (Step.done (Sum.inl x1))
 else
(ckK .i64 (x1+1)).bind fun z1 =>
 some (Step.next z1)
 else
 some (Step.done (Sum.inr ()))
def B4 (t_:FileTree) (path:ByteArray):Option Int :=
(C7 (fun s=>B4.l1 t_ path s) 0).bind fun r1 =>
(match r1 with
| .inl p=>some p
| .inr _=>B4.j1)
abbrev Bu.j1 (x1:A7):Option Patch :=
 some ({ Hunks:=x1 }:Patch)
abbrev Bu.j2 (x2:Int) (x7:Bool) (x8:Int) (x9:A7):Option (Step (Int×Bool×Int×A7) A7) :=
(ckK .i64 (x2+1)).bind fun z1 =>
 some (Step.next (z1,x7,x8,x9))
abbrev Bu.j3 (l_:C6) (x2:Int) (x4:Int) (x10:Bool) (x11:A7):Option (Step (Int×Bool×Int×A7) A7) :=
(ckK .i64 ((x11.length:Int) - 1)).bind fun z3 =>
(at? x11 z3).bind fun y2 =>
(at? l_ x2).bind fun y3 =>
 if decide (y3.Kind=1) then
(at? l_ x2).bind fun y4 =>
(app? 16 y2.Old ([y4.Text]:Ab)).bind fun y5 =>
(ckK .i64 (x4+1)).bind fun z4 =>
(some (x11.set z3.toNat ({ At:=y2.At,Old:=y5,New:=y2.New }:Hunk))).bind fun y6 =>
 Bu.j2 x2 x10 z4 y6
 else
(at? l_ x2).bind fun y7 =>
(app? 16 y2.New ([y7.Text]:Ab)).bind fun y8 =>
(some (x11.set z3.toNat ({ At:=y2.At,Old:=y2.Old,New:=y8 }:Hunk))).bind fun y9 =>
 Bu.j2 x2 x10 x4 y9
abbrev Bu.l1 (l_:C6) (x2:Int) (x3:Bool) (x4:Int) (x5:A7):Option (Step (Int×Bool×Int×A7) A7) :=
 if decide (x2 < (l_.length:Int)) then
(at? l_ x2).bind fun y1 =>
 if decide (y1.Kind=0) then
(ckK .i64 (x4+1)).bind fun z2 =>
 Bu.j2 x2 false z2 x5
 else
 if !x3 then
(app? 56 x5 ([({ At:=x4,Old:=[],New:=[] }:Hunk)]:A7)).bind fun y10 =>
 Bu.j3 l_ x2 x4 true y10
 else
 Bu.j3 l_ x2 x4 x3 x5
 else
 some (Step.done x5)
def Bu (l_:C6):Option Patch :=
(C7 (fun s=>Bu.l1 l_ s.1 s.2.1 s.2.2.1 s.2.2.2) (0,false,0,[])).bind fun r1 =>
 Bu.j1 r1
abbrev A0.j1 (x1:List (List Int)):Option (List (List Int)) :=
 some x1
abbrev A0.j2 (x2:Int) (x5:List (List Int)):Option (Step (Int×(List (List Int))) (List (List Int))) :=
(ckK .i64 (x2 - 1)).bind fun z2 =>
 some (Step.next (z2,x5))
abbrev A0.j3 (x2:Int) (x6:List (List Int)):Option (Step (Int×(List (List Int))) (List (List Int))) :=
 A0.j2 x2 x6
abbrev A0.j5 (x2:Int) (x7:Int) (x12:Int) (x13:List (List Int)):Option (Step (Int×(List (List Int))) (List (List Int))) :=
(at? x13 x2).bind fun y8 =>
(at? y8 x7).bind fun y9 =>
(some (y8.set x7.toNat x12)).bind fun y10 =>
(ckK .i64 (x7 - 1)).bind fun z6 =>
(some (x13.set x2.toNat y10)).bind fun y11 =>
 some (Step.next (z6,y11))
abbrev A0.j4 (a_:Ab) (b_:Ab) (x2:Int) (x7:Int) (x10:Int) (x11:List (List Int)):Option (Step (Int×(List (List Int))) (List (List Int))) :=
(at? a_ x7).bind fun y12 =>
(at? b_ x2).bind fun y13 =>
(if decide (y12=y13) then (ckK .i64 (x2+1)).bind fun z7 =>
(at? x11 z7).bind fun y14 =>
(ckK .i64 (x7+1)).bind fun z8 =>
(at? y14 z8).bind fun y15 =>
(ckK .i64 (y15+1)).bind fun z9 =>
 some (decide (z9 > x10)) else some false).bind fun x14 =>
 if x14 then
(ckK .i64 (x2+1)).bind fun z10 =>
(at? x11 z10).bind fun y16 =>
(ckK .i64 (x7+1)).bind fun z11 =>
(at? y16 z11).bind fun y17 =>
(ckK .i64 (y17+1)).bind fun z12 =>
 A0.j5 x2 x7 z12 x11
 else
 A0.j5 x2 x7 x10 x11
abbrev A0.l2 (a_:Ab) (b_:Ab) (x2:Int) (x7:Int) (x8:List (List Int)):Option (Step (Int×(List (List Int))) (List (List Int))) :=
 if decide (x7 ≥ 0) then
(ckK .i64 (x2+1)).bind fun z5 =>
(at? x8 z5).bind fun y6 =>
(at? y6 x7).bind fun y7 =>
(at? x8 x2).bind fun y18 =>
(ckK .i64 (x7+1)).bind fun z13 =>
(at? y18 z13).bind fun y19 =>
 if decide (y19 > y7) then
(ckK .i64 (x7+1)).bind fun z14 =>
(at? y18 z14).bind fun y20 =>
 A0.j4 a_ b_ x2 x7 y20 x8
 else
 A0.j4 a_ b_ x2 x7 y7 x8
 else
 some (Step.done x8)
abbrev A0.l1 (a_:Ab) (b_:Ab) (x2:Int) (x3:List (List Int)):Option (Step (Int×(List (List Int))) (List (List Int))) :=
 if decide (x2 ≥ 0) then
(ckK .i64 ((a_.length:Int)+1)).bind fun z3 =>
(mk? 8 z3 (0:Int)).bind fun y2 =>
(at? x3 x2).bind fun y3 =>
 if decide (x2=(b_.length:Int)) then
(some (x3.set x2.toNat y2)).bind fun y4 =>
 A0.j2 x2 y4
 else
(ckK .i64 ((a_.length:Int) - 1)).bind fun z4 =>
(some (x3.set x2.toNat y2)).bind fun y5 =>
(C7 (fun s=>A0.l2 a_ b_ x2 s.1 s.2) (z4,y5)).bind fun r2 =>
 A0.j3 x2 r2
 else
 some (Step.done x3)
def A0 (a_:Ab) (b_:Ab):Option (List (List Int)) :=
(ckK .i64 ((b_.length:Int)+1)).bind fun z1 =>
(mk? 24 z1 ([]:List Int)).bind fun y1 =>
(C7 (fun s=>A0.l1 a_ b_ s.1 s.2) ((b_.length:Int),y1)).bind fun r1 =>
 A0.j1 r1
abbrev Du.j1 (x1:C6):Option C6 :=
 some x1
abbrev Du.l1 (a_:Ab) (b_:Ab) (y1:(List (List Int))) (x2:Int) (x3:Int) (x4:C6):Option (Step (Int×Int×C6) C6) :=
(if decide (x3 < (a_.length:Int)) then some true else some (decide (x2 < (b_.length:Int)))).bind fun x6 =>
 if x6 then
(if decide (x3 < (a_.length:Int)) then some (decide (x2 < (b_.length:Int))) else some false).bind fun x7 =>
(if x7 then (at? a_ x3).bind fun y2 =>
(at? b_ x2).bind fun y3 =>
 some (decide (y2=y3)) else some false).bind fun x8 =>
 if x8 then
(at? a_ x3).bind fun y4 =>
(app? 24 x4 ([({ Kind:=0,Text:=y4 }:Step_changeforgeref1)]:C6)).bind fun y5 =>
(ckK .i64 (x3+1)).bind fun z1 =>
(ckK .i64 (x2+1)).bind fun z2 =>
 some (Step.next (z2,z1,y5))
 else
(if decide (x2=(b_.length:Int)) then some true else (if decide (x3 < (a_.length:Int)) then (at? y1 x2).bind fun y6 =>
(ckK .i64 (x3+1)).bind fun z3 =>
(at? y6 z3).bind fun y7 =>
(ckK .i64 (x2+1)).bind fun z4 =>
(at? y1 z4).bind fun y8 =>
(at? y8 x3).bind fun y9 =>
 some (decide (y7 ≥ y9)) else some false).bind fun x10 =>
 some x10).bind fun x9 =>
 if x9 then
(at? a_ x3).bind fun y10 =>
(app? 24 x4 ([({ Kind:=1,Text:=y10 }:Step_changeforgeref1)]:C6)).bind fun y11 =>
(ckK .i64 (x3+1)).bind fun z5 =>
 some (Step.next (x2,z5,y11))
 else
(at? b_ x2).bind fun y12 =>
(app? 24 x4 ([({ Kind:=2,Text:=y12 }:Step_changeforgeref1)]:C6)).bind fun y13 =>
(ckK .i64 (x2+1)).bind fun z6 =>
 some (Step.next (z6,x3,y13))
 else
 some (Step.done x4)
def Du (a_:Ab) (b_:Ab):Option C6 :=
(A0 a_ b_).bind fun y1 =>
(C7 (fun s=>Du.l1 a_ b_ y1 s.1 s.2.1 s.2.2) (0,0,[])).bind fun r1 =>
 Du.j1 r1
def K6 (a_:Ab) (b_:Ab):Option Patch :=
(Du a_ b_).bind fun y1 =>
(Bu y1).bind fun y2 =>
 some y2
abbrev Au.j3 (x3:Ap):Option (TreePatch×Fault) :=
 if decide ((x3.length:Int) > 30) then
(Bd 10 (-1)).bind fun y2 =>
 some (({ Changes:=[] }:TreePatch),y2)
 else
 some (({ Changes:=x3 }:TreePatch),({ Code:=0,Index:=0 }:Fault))
abbrev Au.j4 (x4:Int) (x7:Ap):Option (Step (Int×Ap) Ap) :=
(ckK .i64 (x4+1)).bind fun z1 =>
 some (Step.next (z1,x7))
abbrev Au.l1 (a_:FileTree) (b_:FileTree) (x4:Int) (x5:Ap):Option (Step (Int×Ap) Ap) :=
 if decide (x4 < (b_.Files.length:Int)) then
(at? b_.Files x4).bind fun y3 =>
(B4 a_ y3.Path).bind fun y4 =>
 if decide (y4 < 0) then
(at? b_.Files x4).bind fun y5 =>
(at? b_.Files x4).bind fun y6 =>
(app? 88 x5 ([({ Kind:=1,Path:=y5.Path,To:=ByteArray.empty,Lines:=y6.Lines,Patch:=({ Hunks:=[] }:Patch) }:TreeChange)]:Ap)).bind fun y7 =>
 Au.j4 x4 y7
 else
 Au.j4 x4 x5
 else
 some (Step.done x5)
abbrev Au.j2 (a_:FileTree) (b_:FileTree) (x2:Ap):Option (TreePatch×Fault) :=
(C7 (fun s=>Au.l1 a_ b_ s.1 s.2) (0,x2)).bind fun r1 =>
 Au.j3 r1
abbrev Au.j5 (x8:Int) (x11:Ap):Option (Step (Int×Ap) Ap) :=
(ckK .i64 (x8+1)).bind fun z2 =>
 some (Step.next (z2,x11))
abbrev Au.l2 (a_:FileTree) (b_:FileTree) (x8:Int) (x9:Ap):Option (Step (Int×Ap) Ap) :=
 if decide (x8 < (b_.Files.length:Int)) then
(at? b_.Files x8).bind fun y8 =>
(B4 a_ y8.Path).bind fun y9 =>
(if decide (y9 ≥ 0) then (at? a_.Files y9).bind fun y10 =>
(at? b_.Files x8).bind fun y11 =>
(Dj y10.Lines y11.Lines).bind fun y12 =>
 some !y12 else some false).bind fun x12 =>
 if x12 then
(at? b_.Files x8).bind fun y13 =>
(at? a_.Files y9).bind fun y14 =>
(at? b_.Files x8).bind fun y15 =>
(K6 y14.Lines y15.Lines).bind fun y16 =>
(app? 88 x9 ([({ Kind:=4,Path:=y13.Path,To:=ByteArray.empty,Lines:=[],Patch:=y16 }:TreeChange)]:Ap)).bind fun y17 =>
 Au.j5 x8 y17
 else
 Au.j5 x8 x9
 else
 some (Step.done x9)
abbrev Au.j1 (a_:FileTree) (b_:FileTree) (x1:Ap):Option (TreePatch×Fault) :=
(C7 (fun s=>Au.l2 a_ b_ s.1 s.2) (0,x1)).bind fun r2 =>
 Au.j2 a_ b_ r2
abbrev Au.j6 (x13:Int) (x16:Ap):Option (Step (Int×Ap) Ap) :=
(ckK .i64 (x13+1)).bind fun z3 =>
 some (Step.next (z3,x16))
abbrev Au.l3 (a_:FileTree) (b_:FileTree) (x13:Int) (x14:Ap):Option (Step (Int×Ap) Ap) :=
 if decide (x13 < (a_.Files.length:Int)) then
(at? a_.Files x13).bind fun y18 =>
(B4 b_ y18.Path).bind fun y19 =>
 if decide (y19 < 0) then
(at? a_.Files x13).bind fun y20 =>
(at? a_.Files x13).bind fun y21 =>
(app? 88 x14 ([({ Kind:=2,Path:=y20.Path,To:=ByteArray.empty,Lines:=y21.Lines,Patch:=({ Hunks:=[] }:Patch) }:TreeChange)]:Ap)).bind fun y22 =>
 Au.j6 x13 y22
 else
 Au.j6 x13 x14
 else
 some (Step.done x14)
def Au (a_:FileTree) (b_:FileTree):Option (TreePatch×Fault) :=
(H4 a_ b_).bind fun y1 =>
 if !decide (y1.Code=0) then
 some (({ Changes:=[] }:TreePatch),y1)
 else
(C7 (fun s=>Au.l3 a_ b_ s.1 s.2) (0,[])).bind fun r3 =>
 Au.j1 a_ b_ r3
abbrev A4.j1 (x1:Ai):Option FileTree :=
 some ({ Files:=x1 }:FileTree)
abbrev A4.j2 (x2:Int) (x5:Ai):Option (Step (Int×Ai) Ai) :=
(ckK .i64 (x2+1)).bind fun z1 =>
 some (Step.next (z1,x5))
abbrev A4.j3 (l_:Ai) (x2:Int) (x6:Int) (x7:Ai):Option (Step (Int×Ai) Ai) :=
(at? l_ x2).bind fun y3 =>
(at? x7 x6).bind fun y4 =>
(some (x7.set x6.toNat y3)).bind fun y5 =>
 A4.j2 x2 y5
abbrev A4.l2 (l_:Ai) (x2:Int) (x8:Int) (x9:Ai):Option (Step (Int×Ai) (Int×Ai)) :=
(if decide (x8 > 0) then (at? l_ x2).bind fun y6 =>
(ckK .i64 (x8 - 1)).bind fun z2 =>
(at? x9 z2).bind fun y7 =>
 some (sLt y6.Path y7.Path) else some false).bind fun x11 =>
 if x11 then
(ckK .i64 (x8 - 1)).bind fun z3 =>
(at? x9 z3).bind fun y8 =>
(at? x9 x8).bind fun y9 =>
(some (x9.set x8.toNat y8)).bind fun y10 =>
(ckK .i64 (x8 - 1)).bind fun z4 =>
 some (Step.next (z4,y10))
 else
 some (Step.done (x8,x9))
abbrev A4.l1 (l_:Ai) (x2:Int) (x3:Ai):Option (Step (Int×Ai) Ai) :=
 if decide (x2 < (l_.length:Int)) then
(at? l_ x2).bind fun y1 =>
(app? 40 x3 ([y1]:Ai)).bind fun y2 =>
(C7 (fun s=>A4.l2 l_ x2 s.1 s.2) ((x3.length:Int),y2)).bind fun r2 =>
 A4.j3 l_ x2 r2.1 r2.2
 else
 some (Step.done x3)
def A4 (l_:Ai):Option FileTree :=
(C7 (fun s=>A4.l1 l_ s.1 s.2) (0,[])).bind fun r1 =>
 A4.j1 r1
abbrev Dw.j2 (y1:Ai) (x1:Ai):Option (FileTree×Int) :=
(app? 40 y1 x1).bind fun y2 =>
(A4 y2).bind fun y3 =>
 some (y3,0)
abbrev Dw.j1 (t_:FileTree) (x_:File):Option (FileTree×Int) :=
 if decide ((t_.Files.length:Int) ≥ 24) then
 some (t_,14)
 else
(app? 40 ([]:Ai) t_.Files).bind fun y1 =>
 Dw.j2 y1 ([x_]:Ai)
abbrev Dw.l1 (t_:FileTree) (x_:File) (x3:Int):Option (Step Int ((FileTree×Int) ⊕ Unit)) :=
 if decide (x3 < (t_.Files.length:Int)) then
(at? t_.Files x3).bind fun y4 =>
(Cb y4.Path x_.Path).bind fun y5 =>
 if y5 then
 some (Step.done (Sum.inl (t_,7)))
 else
(ckK .i64 (x3+1)).bind fun z1 =>
 some (Step.next z1)
 else
 some (Step.done (Sum.inr ()))
def Dw (t_:FileTree) (x_:File):Option (FileTree×Int) :=
(C7 (fun s=>Dw.l1 t_ x_ s) 0).bind fun r1 =>
(match r1 with
| .inl p=>some p
| .inr _=>Dw.j1 t_ x_)
def Kw (t_:FileTree) (i_:Int):Option FileTree :=
(cut? t_.Files 0 i_).bind fun y1 =>
(app? 40 ([]:Ai) y1).bind fun y2 =>
(ckK .i64 (i_+1)).bind fun z1 =>
(cut? t_.Files z1 (t_.Files.length:Int)).bind fun y3 =>
(app? 40 y2 y3).bind fun y4 =>
 some ({ Files:=y4 }:FileTree)
def Mx (text:Ab) (at_:Int) (l_:Ab):Option Bool :=
(if decide (at_ < 0) then some true else (ckK .i64 (at_+(l_.length:Int))).bind fun z1 =>
 some (decide (z1 > (text.length:Int)))).bind fun x1 =>
 if x1 then
 some false
 else
(ckK .i64 (at_+(l_.length:Int))).bind fun z2 =>
(cut? text at_ z2).bind fun y1 =>
(Dj y1 l_).bind fun y2 =>
 some y2
abbrev B6.j2 (x1:Ab):Option (Ab×Fault) :=
 if decide ((x1.length:Int) > 120) then
(Bd 10 (-1)).bind fun y5 =>
 some ([],y5)
 else
 some (x1,({ Code:=0,Index:=0 }:Fault))
abbrev B6.l1 (p_:Patch) (x2:Int) (x3:Ab):Option (Step (Int×Ab) Ab) :=
 if decide (x2 ≥ 0) then
(at? p_.Hunks x2).bind fun y6 =>
(Gv y6).bind fun y7 =>
(cut? x3 y7 (x3.length:Int)).bind fun y8 =>
(app? 16 ([]:Ab) y8).bind fun y9 =>
(cut? x3 0 y6.At).bind fun y10 =>
(app? 16 y10 y6.New).bind fun y11 =>
(app? 16 y11 y9).bind fun y12 =>
(ckK .i64 (x2 - 1)).bind fun z2 =>
 some (Step.next (z2,y12))
 else
 some (Step.done x3)
abbrev B6.j1 (p_:Patch) (text:Ab):Option (Ab×Fault) :=
(app? 16 ([]:Ab) text).bind fun y4 =>
(ckK .i64 ((p_.Hunks.length:Int) - 1)).bind fun z1 =>
(C7 (fun s=>B6.l1 p_ s.1 s.2) (z1,y4)).bind fun r1 =>
 B6.j2 r1
abbrev B6.l2 (p_:Patch) (text:Ab) (x5:Int):Option (Step Int ((Ab×Fault) ⊕ Unit)) :=
 if decide (x5 < (p_.Hunks.length:Int)) then
(at? p_.Hunks x5).bind fun y13 =>
(at? p_.Hunks x5).bind fun y14 =>
(Mx text y13.At y14.Old).bind fun y15 =>
 if !y15 then
(Bd 19 x5).bind fun y16 =>
 some (Step.done (Sum.inl ([],y16)))
 else
(ckK .i64 (x5+1)).bind fun z3 =>
 some (Step.next z3)
 else
 some (Step.done (Sum.inr ()))
def B6 (p_:Patch) (text:Ab):Option (Ab×Fault) :=
(Dn p_).bind fun y1 =>
 if !decide (y1.Code=0) then
 some ([],y1)
 else
(Dl text).bind fun y2 =>
 if !decide (y2=0) then
(Bd y2 (-2)).bind fun y3 =>
 some ([],y3)
 else
(C7 (fun s=>B6.l2 p_ text s) 0).bind fun r2 =>
(match r2 with
| .inl p=>some p
| .inr _=>B6.j1 p_ text)
abbrev H2.j1 (t_:FileTree) (c_:TreeChange) (y2:Int) (y10:Ab×Fault):Option (FileTree×Int) :=
 if !decide (y10.2.Code=0) then
 some (t_,y10.2.Code)
 else
(Kw t_ y2).bind fun y11 =>
(Dw y11 ({ Path:=c_.Path,Lines:=y10.1 }:File)).bind fun y12 =>
 some (y12.1,y12.2)
def H2 (t_:FileTree) (c_:TreeChange):Option (FileTree×Int) :=
 if decide (c_.Kind=1) then
(Dw t_ ({ Path:=c_.Path,Lines:=c_.Lines }:File)).bind fun y1 =>
 some (y1.1,y1.2)
 else
(B4 t_ c_.Path).bind fun y2 =>
 if decide (y2 < 0) then
 some (t_,6)
 else
 if decide (c_.Kind=2) then
(at? t_.Files y2).bind fun y3 =>
(Dj y3.Lines c_.Lines).bind fun y4 =>
 if !y4 then
 some (t_,19)
 else
(Kw t_ y2).bind fun y5 =>
 some (y5,0)
 else
 if decide (c_.Kind=3) then
(at? t_.Files y2).bind fun y6 =>
(Kw t_ y2).bind fun y7 =>
(Dw y7 ({ Path:=c_.To,Lines:=y6.Lines }:File)).bind fun y8 =>
 some (y8.1,y8.2)
 else
(at? t_.Files y2).bind fun y9 =>
(B6 c_.Patch y9.Lines).bind fun y10 =>
 H2.j1 t_ c_ y2 y10
abbrev Df.j1 (x1:Ai):Option (FileTree×Fault) :=
 some (({ Files:=x1 }:FileTree),({ Code:=0,Index:=0 }:Fault))
abbrev Df.l1 (p_:TreePatch) (x2:Int) (x3:Ai):Option (Step (Int×Ai) ((FileTree×Fault) ⊕ Ai)) :=
 if decide (x2 < (p_.Changes.length:Int)) then
(at? p_.Changes x2).bind fun y4 =>
(H2 ({ Files:=x3 }:FileTree) y4).bind fun y5 =>
 if !decide (y5.2=0) then
(Bd y5.2 x2).bind fun y6 =>
 some (Step.done (Sum.inl (({ Files:=[] }:FileTree),y6)))
 else
(ckK .i64 (x2+1)).bind fun z1 =>
 some (Step.next (z1,y5.1.Files))
 else
 some (Step.done (Sum.inr x3))
def Df (p_:TreePatch) (t_:FileTree):Option (FileTree×Fault) :=
(C2 p_).bind fun y1 =>
 if !decide (y1.Code=0) then
 some (({ Files:=[] }:FileTree),y1)
 else
(Bv t_).bind fun y2 =>
 if !decide (y2.Code=0) then
(Bd y2.Code (-2)).bind fun y3 =>
 some (({ Files:=[] }:FileTree),y3)
 else
(C7 (fun s=>Df.l1 p_ s.1 s.2) (0,t_.Files)).bind fun r1 =>
(match r1 with
| .inl p=>some p
| .inr p=>Df.j1 p)
def K8 (a_:FileTree) (b_:FileTree) (path:ByteArray):Option Bool :=
(B4 a_ path).bind fun y1 =>
(B4 b_ path).bind fun y2 =>
(if decide (y1 < 0) then some true else some (decide (y2 < 0))).bind fun x1 =>
 if x1 then
(if decide (y1 < 0) then some (decide (y2 < 0)) else some false).bind fun x2 =>
 some x2
 else
(at? a_.Files y1).bind fun y3 =>
(at? b_.Files y2).bind fun y4 =>
(Dj y3.Lines y4.Lines).bind fun y5 =>
 some y5
abbrev Hm.j1 (x1:Int) (x2:Int):Option Fault :=
 some ({ Code:=x1,Index:=x2 }:Fault)
def Hm (a_:Ab) (b_:Ab):Option Fault :=
(Bp a_).bind fun y1 =>
(if decide (y1.Code=0) then (Dl b_).bind fun y2 =>
 some (!decide (y2=0)) else some false).bind fun x3 =>
 if x3 then
(Dl b_).bind fun y3 =>
(Bd y3 (-2)).bind fun y4 =>
 Hm.j1 y4.Code y4.Index
 else
 Hm.j1 y1.Code y1.Index
abbrev A5.j1 (x1:List Int):Option (List Int) :=
 some x1
abbrev A5.j2 (x2:Int) (x5:List Int):Option (Step (Int×(List Int)) (List Int)) :=
(ckK .i64 (x2+1)).bind fun z2 =>
 some (Step.next (z2,x5))
abbrev A5.j4 (x2:Int) (x7:List Int):Option (Step (Int×(List Int)) (List Int)) :=
 A5.j2 x2 x7
abbrev A5.j5 (x8:Int) (x11:List Int):Option (Step (Int×(List Int)) (List Int)) :=
(ckK .i64 (x8+1)).bind fun z3 =>
 some (Step.next (z3,x11))
abbrev A5.j6 (x8:Int) (x12:List Int):Option (Step (Int×(List Int)) (List Int)) :=
 A5.j5 x8 x12
abbrev A5.l3 (x6:A7) (x8:Int) (x13:Int) (x14:List Int):Option (Step (Int×(List Int)) (List Int)) :=
(at? x6 x8).bind fun y3 =>
(Gv y3).bind fun y4 =>
 if decide (x13≤y4) then
(at? x14 x13).bind fun y5 =>
(some (x14.set x13.toNat 1)).bind fun y6 =>
(ckK .i64 (x13+1)).bind fun z4 =>
 some (Step.next (z4,y6))
 else
 some (Step.done x14)
abbrev A5.l2 (x6:A7) (x8:Int) (x9:List Int):Option (Step (Int×(List Int)) (List Int)) :=
 if decide (x8 < (x6.length:Int)) then
(at? x6 x8).bind fun y2 =>
(C7 (fun s=>A5.l3 x6 x8 s.1 s.2) (y2.At,x9)).bind fun r3 =>
 A5.j6 x8 r3
 else
 some (Step.done x9)
abbrev A5.j3 (x2:Int) (x3:List Int) (x6:A7):Option (Step (Int×(List Int)) (List Int)) :=
(C7 (fun s=>A5.l2 x6 s.1 s.2) (0,x3)).bind fun r2 =>
 A5.j4 x2 r2
abbrev A5.l1 (p_:Patch) (q_:Patch) (x2:Int) (x3:List Int):Option (Step (Int×(List Int)) (List Int)) :=
 if decide (x2 < 2) then
 if decide (x2=1) then
 A5.j3 x2 x3 q_.Hunks
 else
 A5.j3 x2 x3 p_.Hunks
 else
 some (Step.done x3)
def A5 (base:Ab) (p_:Patch) (q_:Patch):Option (List Int) :=
(ckK .i64 ((base.length:Int)+1)).bind fun z1 =>
(mk? 8 z1 (0:Int)).bind fun y1 =>
(C7 (fun s=>A5.l1 p_ q_ s.1 s.2) (0,y1)).bind fun r1 =>
 A5.j1 r1
abbrev Cp.j2:Option Bool :=
 some false
abbrev Cp.l1 (q_:Patch) (k_:Int) (x1:Int):Option (Step Int (Bool ⊕ Unit)) :=
 if decide (x1 < (q_.Hunks.length:Int)) then
(at? q_.Hunks x1).bind fun y1 =>
(if decide (y1.At≤k_) then (at? q_.Hunks x1).bind fun y2 =>
(Gv y2).bind fun y3 =>
 some (decide (k_ < y3)) else some false).bind fun x3 =>
 if x3 then
 some (Step.done (Sum.inl true))
 else
(ckK .i64 (x1+1)).bind fun z1 =>
 some (Step.next z1)
 else
 some (Step.done (Sum.inr ()))
abbrev Cp.j1 (q_:Patch) (k_:Int):Option Bool :=
(C7 (fun s=>Cp.l1 q_ k_ s) 0).bind fun r1 =>
(match r1 with
| .inl p=>some p
| .inr _=>Cp.j2)
abbrev Cp.l2 (p_:Patch) (k_:Int) (x4:Int):Option (Step Int (Bool ⊕ Unit)) :=
 if decide (x4 < (p_.Hunks.length:Int)) then
(at? p_.Hunks x4).bind fun y4 =>
(if decide (y4.At≤k_) then (at? p_.Hunks x4).bind fun y5 =>
(Gv y5).bind fun y6 =>
 some (decide (k_ < y6)) else some false).bind fun x6 =>
 if x6 then
 some (Step.done (Sum.inl true))
 else
(ckK .i64 (x4+1)).bind fun z2 =>
 some (Step.next z2)
 else
 some (Step.done (Sum.inr ()))
def Cp (p_:Patch) (q_:Patch) (k_:Int):Option Bool :=
(C7 (fun s=>Cp.l2 p_ k_ s) 0).bind fun r2 =>
(match r2 with
| .inl p=>some p
| .inr _=>Cp.j1 q_ k_)
abbrev A1.j1 (x1:Bool) (x2:Ab):Option (Ab×Bool) :=
 some (x2,x1)
abbrev A1.j2 (x3:Int) (x7:Ab) (x8:Bool):Option (Step (Int×Bool×Ab) (Bool×Ab)) :=
(ckK .i64 (x3+1)).bind fun z1 =>
 some (Step.next (z1,x8,x7))
abbrev A1.j4 (base:Ab) (high:Int) (x3:Int) (x9:Bool) (x10:Ab) (x11:Bool):Option (Step (Int×Bool×Ab) (Bool×Ab)) :=
(if decide (x3 < high) then some !x11 else some false).bind fun x12 =>
 if x12 then
(at? base x3).bind fun y1 =>
(app? 16 x10 ([y1]:Ab)).bind fun y2 =>
 A1.j2 x3 y2 x9
 else
 A1.j2 x3 x10 x9
abbrev A1.j5 (x13:Int) (x16:Bool):Option (Step (Int×Bool) Bool) :=
(ckK .i64 (x13+1)).bind fun z2 =>
 some (Step.next (z2,x16))
abbrev A1.l2 (p_:Patch) (x3:Int) (x13:Int) (x14:Bool):Option (Step (Int×Bool) Bool) :=
 if decide (x13 < (p_.Hunks.length:Int)) then
(at? p_.Hunks x13).bind fun y3 =>
(if decide (y3.At≤x3) then (at? p_.Hunks x13).bind fun y4 =>
(Gv y4).bind fun y5 =>
 some (decide (x3 < y5)) else some false).bind fun x17 =>
 if x17 then
 A1.j5 x13 true
 else
 A1.j5 x13 x14
 else
 some (Step.done x14)
abbrev A1.j3 (base:Ab) (p_:Patch) (high:Int) (x3:Int) (x9:Bool) (x10:Ab):Option (Step (Int×Bool×Ab) (Bool×Ab)) :=
(C7 (fun s=>A1.l2 p_ x3 s.1 s.2) (0,false)).bind fun r2 =>
 A1.j4 base high x3 x9 x10 r2
abbrev A1.j6 (x18:Int) (x22:Bool) (x23:Ab):Option (Step (Int×Bool×Ab) (Bool×Ab)) :=
(ckK .i64 (x18+1)).bind fun z3 =>
 some (Step.next (z3,x22,x23))
abbrev A1.l3 (p_:Patch) (x3:Int) (x18:Int) (x19:Bool) (x20:Ab):Option (Step (Int×Bool×Ab) (Bool×Ab)) :=
 if decide (x18 < (p_.Hunks.length:Int)) then
(at? p_.Hunks x18).bind fun y6 =>
 if decide (y6.At=x3) then
(at? p_.Hunks x18).bind fun y7 =>
(app? 16 x20 y7.New).bind fun y8 =>
 A1.j6 x18 true y8
 else
 A1.j6 x18 x19 x20
 else
 some (Step.done (x19,x20))
abbrev A1.l1 (base:Ab) (p_:Patch) (high:Int) (x3:Int) (x4:Bool) (x5:Ab):Option (Step (Int×Bool×Ab) (Bool×Ab)) :=
 if decide (x3≤high) then
(C7 (fun s=>A1.l3 p_ x3 s.1 s.2.1 s.2.2) (0,x4,x5)).bind fun r3 =>
 A1.j3 base p_ high x3 r3.1 r3.2
 else
 some (Step.done (x4,x5))
def A1 (base:Ab) (p_:Patch) (low:Int) (high:Int):Option (Ab×Bool) :=
(C7 (fun s=>A1.l1 base p_ high s.1 s.2.1 s.2.2) (low,false,[])).bind fun r1 =>
 A1.j1 r1.1 r1.2
abbrev Ax.j2 (x3:Bo):Option (Bo×Fault) :=
 some (x3,({ Code:=0,Index:=0 }:Fault))
abbrev Ax.j1 (x1:Ab) (x2:Bo):Option (Bo×Fault) :=
 if decide ((x1.length:Int) > 0) then
(app? 104 x2 ([({ Conflict:=false,Lines:=x1,Base:=[],Left:=[],Right:=[] }:Chunk)]:Bo)).bind fun y7 =>
 Ax.j2 y7
 else
 Ax.j2 x2
abbrev Ax.j3 (x8:Ab) (x9:Int) (x10:Bo):Option (Step (Int×Ab×Bo) (Ab×Bo)) :=
(ckK .i64 (x9+1)).bind fun z1 =>
 some (Step.next (z1,x8,x10))
abbrev Ax.j4 (x4:Int) (x6:Bo) (x11:Ab):Option (Step (Int×Ab×Bo) (Ab×Bo)) :=
 Ax.j3 x11 x4 x6
abbrev Ax.j6 (base:Ab) (x12:Int) (x13:Ab) (x14:Bo):Option (Step (Int×Ab×Bo) (Ab×Bo)) :=
 if decide (x12 < (base.length:Int)) then
(at? base x12).bind fun y13 =>
(app? 16 x13 ([y13]:Ab)).bind fun y14 =>
 Ax.j3 y14 x12 x14
 else
 Ax.j3 x13 x12 x14
abbrev Ax.j7 (base:Ab) (x4:Int) (x12:Int) (y11:Ab×Bool) (y12:Ab×Bool) (x16:Ab) (x17:Bo):Option (Step (Int×Ab×Bo) (Ab×Bo)) :=
(cut? base x4 x12).bind fun y18 =>
(app? 104 x17 ([({ Conflict:=true,Lines:=[],Base:=y18,Left:=y11.1,Right:=y12.1 }:Chunk)]:Bo)).bind fun y19 =>
 Ax.j6 base x12 x16 y19
abbrev Ax.j5 (base:Ab) (y4:Patch) (y5:Patch) (x4:Int) (x5:Ab) (x6:Bo) (x12:Int):Option (Step (Int×Ab×Bo) (Ab×Bo)) :=
(A1 base y4 x4 x12).bind fun y11 =>
(A1 base y5 x4 x12).bind fun y12 =>
(if !y12.2 then some true else (Dj y11.1 y12.1).bind fun y15 =>
 some y15).bind fun x15 =>
 if x15 then
(app? 16 x5 y11.1).bind fun y16 =>
 Ax.j6 base x12 y16 x6
 else
 if !y11.2 then
(app? 16 x5 y12.1).bind fun y17 =>
 Ax.j6 base x12 y17 x6
 else
 if decide ((x5.length:Int) > 0) then
(app? 104 x6 ([({ Conflict:=false,Lines:=x5,Base:=[],Left:=[],Right:=[] }:Chunk)]:Bo)).bind fun y20 =>
 Ax.j7 base x4 x12 y11 y12 [] y20
 else
 Ax.j7 base x4 x12 y11 y12 x5 x6
abbrev Ax.l2 (base:Ab) (y4:Patch) (y5:Patch) (x18:Int):Option (Step Int Int) :=
(if decide (x18 < (base.length:Int)) then (Cp y4 y5 x18).bind fun y21 =>
 some y21 else some false).bind fun x20 =>
 if x20 then
(ckK .i64 (x18+1)).bind fun z2 =>
 some (Step.next z2)
 else
 some (Step.done x18)
abbrev Ax.l1 (base:Ab) (y4:Patch) (y5:Patch) (y6:(List Int)) (x4:Int) (x5:Ab) (x6:Bo):Option (Step (Int×Ab×Bo) (Ab×Bo)) :=
 if decide (x4≤(base.length:Int)) then
(at? y6 x4).bind fun y8 =>
 if decide (y8=0) then
 if decide (x4 < (base.length:Int)) then
(at? base x4).bind fun y9 =>
(app? 16 x5 ([y9]:Ab)).bind fun y10 =>
 Ax.j4 x4 x6 y10
 else
 Ax.j4 x4 x6 x5
 else
(C7 (fun s=>Ax.l2 base y4 y5 s) x4).bind fun r2 =>
 Ax.j5 base y4 y5 x4 x5 x6 r2
 else
 some (Step.done (x5,x6))
def Ax (base:Ab) (left:Ab) (right:Ab):Option (Bo×Fault) :=
(Hm base left).bind fun y1 =>
 if !decide (y1.Code=0) then
 some ([],y1)
 else
(Dl right).bind fun y2 =>
 if !decide (y2=0) then
(Bd y2 (-3)).bind fun y3 =>
 some ([],y3)
 else
(K6 base left).bind fun y4 =>
(K6 base right).bind fun y5 =>
(A5 base y4 y5).bind fun y6 =>
(C7 (fun s=>Ax.l1 base y4 y5 y6 s.1 s.2.1 s.2.2) (0,[],[])).bind fun r1 =>
 Ax.j1 r1.1 r1.2
abbrev Bb.j1:Option Fault :=
 some ({ Code:=0,Index:=0 }:Fault)
abbrev Bb.j5 (x1:Int) (x6:Int):Option (Step Int (Fault ⊕ Unit)) :=
 if !decide (x6=0) then
(Bd x6 x1).bind fun y4 =>
 some (Step.done (Sum.inl y4))
 else
(ckK .i64 (x1+1)).bind fun z1 =>
 some (Step.next z1)
abbrev Bb.j4 (x1:Int) (y2:Chunk) (x5:Int):Option (Step Int (Fault ⊕ Unit)) :=
(if decide (x5=0) then some (!decide (y2.Conflict=decide ((y2.Lines.length:Int)=0))) else some false).bind fun x7 =>
(if x7 then some true else (if decide (x5=0) then some !y2.Conflict else some false).bind fun x9 =>
(if x9 then (ckK .i64 ((y2.Base.length:Int)+(y2.Left.length:Int))).bind fun z2 =>
(ckK .i64 (z2+(y2.Right.length:Int))).bind fun z3 =>
 some (decide (z3 > 0)) else some false).bind fun x10 =>
 some x10).bind fun x8 =>
 if x8 then
 Bb.j5 x1 5
 else
 Bb.j5 x1 x5
abbrev Bb.j3 (x1:Int) (y2:Chunk) (x4:Int):Option (Step Int (Fault ⊕ Unit)) :=
 if decide (x4=0) then
(Dl y2.Right).bind fun y5 =>
 Bb.j4 x1 y2 y5
 else
 Bb.j4 x1 y2 x4
abbrev Bb.j2 (x1:Int) (y2:Chunk) (x3:Int):Option (Step Int (Fault ⊕ Unit)) :=
 if decide (x3=0) then
(Dl y2.Left).bind fun y6 =>
 Bb.j3 x1 y2 y6
 else
 Bb.j3 x1 y2 x3
abbrev Bb.l1 (l_:Bo) (x1:Int):Option (Step Int (Fault ⊕ Unit)) :=
 if decide (x1 < (l_.length:Int)) then
(at? l_ x1).bind fun y2 =>
(Dl y2.Lines).bind fun y3 =>
 if decide (y3=0) then
(Dl y2.Base).bind fun y7 =>
 Bb.j2 x1 y2 y7
 else
 Bb.j2 x1 y2 y3
 else
 some (Step.done (Sum.inr ()))
def Bb (l_:Bo):Option Fault :=
 if decide ((l_.length:Int) > 240) then
(Bd 2 (-1)).bind fun y1 =>
 some y1
 else
(C7 (fun s=>Bb.l1 l_ s) 0).bind fun r1 =>
(match r1 with
| .inl p=>some p
| .inr _=>Bb.j1)
abbrev Cz.j1 (x1:Int):Option Int :=
 some x1
abbrev Cz.j2 (x2:Int) (x5:Int):Option (Step (Int×Int) Int) :=
(ckK .i64 (x2+1)).bind fun z1 =>
 some (Step.next (z1,x5))
abbrev Cz.l1 (l_:Bo) (x2:Int) (x3:Int):Option (Step (Int×Int) Int) :=
 if decide (x2 < (l_.length:Int)) then
(at? l_ x2).bind fun y1 =>
 if y1.Conflict then
(ckK .i64 (x3+1)).bind fun z2 =>
 Cz.j2 x2 z2
 else
 Cz.j2 x2 x3
 else
 some (Step.done x3)
def Cz (l_:Bo):Option Int :=
(C7 (fun s=>Cz.l1 l_ s.1 s.2) (0,0)).bind fun r1 =>
 Cz.j1 r1
abbrev Be.j2 (x1:Ab):Option (Ab×Fault) :=
 if decide ((x1.length:Int) > 120) then
(Bd 10 (-1)).bind fun y4 =>
 some ([],y4)
 else
 some (x1,({ Code:=0,Index:=0 }:Fault))
abbrev Be.j3 (x2:Int) (x6:Ab) (x7:Int):Option (Step (Int×Int×Ab) Ab) :=
(ckK .i64 (x2+1)).bind fun z1 =>
 some (Step.next (z1,x7,x6))
abbrev Be.j5 (l_:Bo) (x2:Int) (y8:Int) (z2:Int) (x9:Ab):Option (Step (Int×Int×Ab) Ab) :=
 if decide (y8 ≥ 2) then
(at? l_ x2).bind fun y9 =>
(app? 16 x9 y9.Right).bind fun y10 =>
 Be.j3 x2 y10 z2
 else
 Be.j3 x2 x9 z2
abbrev Be.j4 (l_:Bo) (x2:Int) (y8:Int) (z2:Int) (x8:Ab):Option (Step (Int×Int×Ab) Ab) :=
(rem? y8 2).bind fun z3 =>
 if decide (z3=1) then
(at? l_ x2).bind fun y11 =>
(app? 16 x8 y11.Left).bind fun y12 =>
 Be.j5 l_ x2 y8 z2 y12
 else
 Be.j5 l_ x2 y8 z2 x8
abbrev Be.l1 (l_:Bo) (choices:(List Int)) (x2:Int) (x3:Int) (x4:Ab):Option (Step (Int×Int×Ab) Ab) :=
 if decide (x2 < (l_.length:Int)) then
(at? l_ x2).bind fun y5 =>
 if !y5.Conflict then
(at? l_ x2).bind fun y6 =>
(app? 16 x4 y6.Lines).bind fun y7 =>
 Be.j3 x2 y7 x3
 else
(at? choices x3).bind fun y8 =>
(ckK .i64 (x3+1)).bind fun z2 =>
 if decide (y8=0) then
(at? l_ x2).bind fun y13 =>
(app? 16 x4 y13.Base).bind fun y14 =>
 Be.j4 l_ x2 y8 z2 y14
 else
 Be.j4 l_ x2 y8 z2 x4
 else
 some (Step.done x4)
abbrev Be.j1 (l_:Bo) (choices:(List Int)):Option (Ab×Fault) :=
(C7 (fun s=>Be.l1 l_ choices s.1 s.2.1 s.2.2) (0,0,[])).bind fun r1 =>
 Be.j2 r1
abbrev Be.l2 (choices:(List Int)) (x10:Int):Option (Step Int ((Ab×Fault) ⊕ Unit)) :=
 if decide (x10 < (choices.length:Int)) then
(at? choices x10).bind fun y15 =>
(if decide (y15 < 0) then some true else (at? choices x10).bind fun y16 =>
 some (decide (y16 > 3))).bind fun x12 =>
 if x12 then
(ckK .i64 ((-3) - x10)).bind fun z4 =>
(Bd 3 z4).bind fun y17 =>
 some (Step.done (Sum.inl ([],y17)))
 else
(ckK .i64 (x10+1)).bind fun z5 =>
 some (Step.next z5)
 else
 some (Step.done (Sum.inr ()))
def Be (l_:Bo) (choices:(List Int)):Option (Ab×Fault) :=
(Bb l_).bind fun y1 =>
 if !decide (y1.Code=0) then
 some ([],y1)
 else
(Cz l_).bind fun y2 =>
 if !decide ((choices.length:Int)=y2) then
(Bd 9 (-2)).bind fun y3 =>
 some ([],y3)
 else
(C7 (fun s=>Be.l2 choices s) 0).bind fun r2 =>
(match r2 with
| .inl p=>some p
| .inr _=>Be.j1 l_ choices)
def L3 (l_:Bo):Option (Ab×Bool×Fault) :=
(Bb l_).bind fun y1 =>
 if !decide (y1.Code=0) then
 some ([],false,y1)
 else
(Cz l_).bind fun y2 =>
 if decide (y2 > 0) then
 some ([],false,({ Code:=0,Index:=0 }:Fault))
 else
(Be l_ ([]:List Int)).bind fun y3 =>
 some (y3.1,decide (y3.2.Code=0),y3.2)
abbrev Gw.j1 (y7:Bo×Fault):Option (Ab×Bool) :=
 if !decide (y7.2.Code=0) then
 some ([],false)
 else
(L3 y7.1).bind fun y8 =>
(if y8.2.1 then some (decide (y8.2.2.Code=0)) else some false).bind fun x4 =>
 some (y8.1,x4)
def Gw (base:FileTree) (l_:FileTree) (r_:FileTree) (path:ByteArray):Option (Ab×Bool) :=
(B4 base path).bind fun y1 =>
(B4 l_ path).bind fun y2 =>
(B4 r_ path).bind fun y3 =>
(if decide (y1 < 0) then some true else some (decide (y2 < 0))).bind fun x1 =>
(if x1 then some true else some (decide (y3 < 0))).bind fun x2 =>
 if x2 then
 some ([],false)
 else
(at? base.Files y1).bind fun y4 =>
(at? l_.Files y2).bind fun y5 =>
(at? r_.Files y3).bind fun y6 =>
(Ax y4.Lines y5.Lines y6.Lines).bind fun y7 =>
 Gw.j1 y7
def Mi (c_:TreeChange) (path:ByteArray):Option Bool :=
(Cb c_.Path path).bind fun y1 =>
(if y1 then some true else (if decide (c_.Kind=3) then (Cb c_.To path).bind fun y2 =>
 some y2 else some false).bind fun x2 =>
 some x2).bind fun x1 =>
 some x1
abbrev Co.j1 (x1:Int):Option Int :=
 some x1
abbrev Co.j2 (x2:Int) (x5:Int):Option (Step (Int×Int) Int) :=
(ckK .i64 (x2+1)).bind fun z1 =>
 some (Step.next (z1,x5))
abbrev Co.l1 (p_:TreePatch) (path:ByteArray) (x2:Int) (x3:Int):Option (Step (Int×Int) Int) :=
 if decide (x2 < (p_.Changes.length:Int)) then
(at? p_.Changes x2).bind fun y1 =>
(Mi y1 path).bind fun y2 =>
 if y2 then
 Co.j2 x2 x2
 else
 Co.j2 x2 x3
 else
 some (Step.done x3)
def Co (p_:TreePatch) (path:ByteArray):Option Int :=
(C7 (fun s=>Co.l1 p_ path s.1 s.2) (0,(-1))).bind fun r1 =>
 Co.j1 r1
abbrev Ao.j3 (x5:Ai) (x6:Bq):Option (FileTree×Bq×Fault) :=
 if decide ((x5.length:Int) > 24) then
(Bd 10 (-1)).bind fun y11 =>
 some (({ Files:=[] }:FileTree),[],y11)
 else
(A4 x5).bind fun y12 =>
 some (y12,x6,({ Code:=0,Index:=0 }:Fault))
abbrev Ao.j4 (x7:Int) (x11:Bq) (x12:Ai):Option (Step (Int×Ai×Bq) (Ai×Bq)) :=
(ckK .i64 (x7+1)).bind fun z1 =>
 some (Step.next (z1,x12,x11))
abbrev Ao.j5 (left:TreePatch) (right:TreePatch) (x2:Ai) (x7:Int) (x8:Ai) (x9:Bq) (x13:Bool):Option (Step (Int×Ai×Bq) (Ai×Bq)) :=
 if x13 then
(at? x2 x7).bind fun y13 =>
(at? x2 x7).bind fun y14 =>
(Co left y13.Path).bind fun y15 =>
(Co right y14.Path).bind fun y16 =>
(app? 16 x9 ([({ e0:=y15,e1:=y16 }:Arr2_Int)]:Bq)).bind fun y17 =>
 Ao.j4 x7 y17 x8
 else
(at? x2 x7).bind fun y18 =>
(app? 40 x8 ([y18]:Ai)).bind fun y19 =>
 Ao.j4 x7 x9 y19
abbrev Ao.l2 (y4:FileTree×Fault) (x2:Ai) (x3:Ai) (x7:Int) (x14:Int) (x15:Bool):Option (Step (Int×Bool) Bool) :=
 if decide (x14 < (x3.length:Int)) then
(if x15 then some true else (at? x3 x14).bind fun y20 =>
(B4 y4.1 y20.Path).bind fun y21 =>
(if decide (y21 < 0) then (at? x3 x14).bind fun y22 =>
(at? x2 x7).bind fun y23 =>
(Cb y22.Path y23.Path).bind fun y24 =>
 some y24 else some false).bind fun x18 =>
 some x18).bind fun x17 =>
(ckK .i64 (x14+1)).bind fun z2 =>
 some (Step.next (z2,x17))
 else
 some (Step.done x15)
abbrev Ao.l1 (left:TreePatch) (right:TreePatch) (y4:FileTree×Fault) (x2:Ai) (x3:Ai) (x7:Int) (x8:Ai) (x9:Bq):Option (Step (Int×Ai×Bq) (Ai×Bq)) :=
 if decide (x7 < (x2.length:Int)) then
(C7 (fun s=>Ao.l2 y4 x2 x3 x7 s.1 s.2) (0,false)).bind fun r2 =>
 Ao.j5 left right x2 x7 x8 x9 r2
 else
 some (Step.done (x8,x9))
abbrev Ao.j2 (left:TreePatch) (right:TreePatch) (y4:FileTree×Fault) (x2:Ai) (x3:Ai) (x4:Bq):Option (FileTree×Bq×Fault) :=
(app? 40 ([]:Ai) x3).bind fun y10 =>
(C7 (fun s=>Ao.l1 left right y4 x2 x3 s.1 s.2.1 s.2.2) (0,y10,x4)).bind fun r1 =>
 Ao.j3 r1.1 r1.2
abbrev Ao.j6 (x19:Int) (x24:Ai) (x25:Ai) (x26:Bq):Option (Step (Int×Ai×Ai×Bq) (Ai×Ai×Bq)) :=
(ckK .i64 (x19+1)).bind fun z3 =>
 some (Step.next (z3,x24,x25,x26))
abbrev Ao.j7 (y4:FileTree×Fault) (x19:Int) (x20:Ai) (x22:Bq) (y27:Int) (y28:Int) (x29:Ai):Option (Step (Int×Ai×Ai×Bq) (Ai×Ai×Bq)) :=
 if decide (y27 < 0) then
(at? y4.1.Files y28).bind fun y34 =>
(app? 40 x20 ([y34]:Ai)).bind fun y35 =>
 Ao.j6 x19 y35 x29 x22
 else
 Ao.j6 x19 x20 x29 x22
abbrev Ao.l3 (base:FileTree) (left:TreePatch) (right:TreePatch) (y2:FileTree×Fault) (y4:FileTree×Fault) (y9:FileTree) (x19:Int) (x20:Ai) (x21:Ai) (x22:Bq):Option (Step (Int×Ai×Ai×Bq) (Ai×Ai×Bq)) :=
 if decide (x19 < (y9.Files.length:Int)) then
(at? y9.Files x19).bind fun y25 =>
(if decide (x19 > 0) then (ckK .i64 (x19 - 1)).bind fun z4 =>
(at? y9.Files z4).bind fun y26 =>
 some (decide (y26.Path=y25.Path)) else some false).bind fun x27 =>
 if x27 then
 Ao.j6 x19 x20 x21 x22
 else
(B4 y2.1 y25.Path).bind fun y27 =>
(B4 y4.1 y25.Path).bind fun y28 =>
(K8 y4.1 base y25.Path).bind fun y29 =>
(if y29 then some true else (K8 y2.1 y4.1 y25.Path).bind fun y30 =>
 some y30).bind fun x28 =>
 if x28 then
 if decide (y27 ≥ 0) then
(at? y2.1.Files y27).bind fun y31 =>
(app? 40 x21 ([y31]:Ai)).bind fun y32 =>
 Ao.j6 x19 x20 y32 x22
 else
 Ao.j6 x19 x20 x21 x22
 else
(K8 y2.1 base y25.Path).bind fun y33 =>
 if y33 then
(if decide (y27 ≥ 0) then some (decide (y28 ≥ 0)) else some false).bind fun x30 =>
 if x30 then
(at? y4.1.Files y28).bind fun y36 =>
(app? 40 x21 ([y36]:Ai)).bind fun y37 =>
 Ao.j7 y4 x19 x20 x22 y27 y28 y37
 else
 Ao.j7 y4 x19 x20 x22 y27 y28 x21
 else
(Gw base y2.1 y4.1 y25.Path).bind fun y38 =>
 if y38.2 then
(app? 40 x21 ([({ Path:=y25.Path,Lines:=y38.1 }:File)]:Ai)).bind fun y39 =>
 Ao.j6 x19 x20 y39 x22
 else
(Co left y25.Path).bind fun y40 =>
(Co right y25.Path).bind fun y41 =>
(app? 16 x22 ([({ e0:=y40,e1:=y41 }:Arr2_Int)]:Bq)).bind fun y42 =>
 if decide (y27 ≥ 0) then
(at? y2.1.Files y27).bind fun y43 =>
(app? 40 x21 ([y43]:Ai)).bind fun y44 =>
 Ao.j6 x19 x20 y44 y42
 else
 Ao.j6 x19 x20 x21 y42
 else
 some (Step.done (x20,x21,x22))
abbrev Ao.j1 (base:FileTree) (left:TreePatch) (right:TreePatch) (y2:FileTree×Fault) (y4:FileTree×Fault) (y9:FileTree):Option (FileTree×Bq×Fault) :=
(C7 (fun s=>Ao.l3 base left right y2 y4 y9 s.1 s.2.1 s.2.2.1 s.2.2.2) (0,[],[],[])).bind fun r3 =>
 Ao.j2 left right y4 r3.1 r3.2.1 r3.2.2
def Ao (base:FileTree) (left:TreePatch) (right:TreePatch):Option (FileTree×Bq×Fault) :=
(Bv base).bind fun y1 =>
 if !decide (y1.Code=0) then
 some (({ Files:=[] }:FileTree),[],y1)
 else
(Df left base).bind fun y2 =>
 if !decide (y2.2.Code=0) then
(Bd y2.2.Code (-2)).bind fun y3 =>
 some (({ Files:=[] }:FileTree),[],y3)
 else
(Df right base).bind fun y4 =>
 if !decide (y4.2.Code=0) then
(Bd y4.2.Code (-3)).bind fun y5 =>
 some (({ Files:=[] }:FileTree),[],y5)
 else
(app? 40 ([]:Ai) base.Files).bind fun y6 =>
(app? 40 y6 y2.1.Files).bind fun y7 =>
(app? 40 y7 y4.1.Files).bind fun y8 =>
(A4 y8).bind fun y9 =>
 Ao.j1 base left right y2 y4 y9
abbrev Dr.j2 (s_:Forge_changeforgeref2) (m_:Letter_changeforgeref2) (y2:FileTree) (y6:FileTree×Bq×Fault):Option (Forge_changeforgeref2×Int) :=
 if !decide (y6.2.2.Code=0) then
 some (s_,y6.2.2.Code)
 else
 if decide ((y6.2.1.length:Int) > 0) then
 some (s_,19)
 else
(Au y2 y6.1).bind fun y7 =>
 if !decide (y7.2.Code=0) then
 some (s_,y7.2.Code)
 else
(app? 24 s_.Versions ([y6.1]:Ea)).bind fun y8 =>
(app? 40 s_.Log ([({ User:=m_.User,Number:=m_.Number,Patch:=y7.1 }:ForgeEntry)]:D2)).bind fun y9 =>
(at? s_.Last m_.User).bind fun y10 =>
(some (s_.Last.set m_.User.toNat m_.Number)).bind fun y11 =>
 some (({ Versions:=y8,Log:=y9,Last:=y11,Base:=s_.Base,Sent:=s_.Sent,Working:=s_.Working,Flight:=s_.Flight }:Forge_changeforgeref2),0)
abbrev Dr.j1 (s_:Forge_changeforgeref2) (m_:Letter_changeforgeref2) (y2:FileTree) (y4:TreePatch×Fault):Option (Forge_changeforgeref2×Int) :=
 if !decide (y4.2.Code=0) then
 some (s_,y4.2.Code)
 else
(at? s_.Versions m_.Base).bind fun y5 =>
(Ao y5 y4.1 m_.Patch).bind fun y6 =>
 Dr.j2 s_ m_ y2 y6
def Dr (s_:Forge_changeforgeref2) (m_:Letter_changeforgeref2):Option (Forge_changeforgeref2×Int) :=
 if !decide (m_.Signature=m_.Right) then
 some (s_,18)
 else
(at? s_.Last m_.User).bind fun y1 =>
 if decide (m_.Number≤y1) then
 some (s_,16)
 else
(ckK .i64 ((s_.Versions.length:Int) - 1)).bind fun z1 =>
(at? s_.Versions z1).bind fun y2 =>
(at? s_.Versions m_.Base).bind fun y3 =>
(Au y3 y2).bind fun y4 =>
 Dr.j1 s_ m_ y2 y4
abbrev Et.j1:Option Bool :=
 some true
abbrev Et.l1 (a_:FileTree) (b_:FileTree) (x1:Int):Option (Step Int (Bool ⊕ Unit)) :=
 if decide (x1 < (a_.Files.length:Int)) then
(at? a_.Files x1).bind fun y1 =>
(at? b_.Files x1).bind fun y2 =>
(if !decide (y1.Path=y2.Path) then some true else (at? a_.Files x1).bind fun y3 =>
(at? b_.Files x1).bind fun y4 =>
(Dj y3.Lines y4.Lines).bind fun y5 =>
 some !y5).bind fun x3 =>
 if x3 then
 some (Step.done (Sum.inl false))
 else
(ckK .i64 (x1+1)).bind fun z1 =>
 some (Step.next z1)
 else
 some (Step.done (Sum.inr ()))
def Et (a_:FileTree) (b_:FileTree):Option Bool :=
 if !decide ((a_.Files.length:Int)=(b_.Files.length:Int)) then
 some false
 else
(C7 (fun s=>Et.l1 a_ b_ s) 0).bind fun r1 =>
(match r1 with
| .inl p=>some p
| .inr _=>Et.j1)
abbrev Cr.j1 (x1:Int):Option Int :=
 some x1
abbrev Cr.j2 (x3:Int) (x4:Int) (x6:Int):Option (Step (Int×Int×Int) Int) :=
(ckK .i64 (x3+x3)).bind fun z1 =>
(rem? z1 2305843009213693951).bind fun z2 =>
(quo? .i64 x4 2).bind fun z3 =>
 some (Step.next (x6,z2,z3))
abbrev Cr.l1 (x2:Int) (x3:Int) (x4:Int):Option (Step (Int×Int×Int) Int) :=
 if decide (x4 > 0) then
(rem? x4 2).bind fun z4 =>
 if decide (z4=1) then
(ckK .i64 (x2+x3)).bind fun z5 =>
(rem? z5 2305843009213693951).bind fun z6 =>
 Cr.j2 x3 x4 z6
 else
 Cr.j2 x3 x4 x2
 else
 some (Step.done x2)
def Cr (a_:Int) (b_:Int):Option Int :=
(C7 (fun s=>Cr.l1 s.1 s.2.1 s.2.2) (0,a_,b_)).bind fun r1 =>
 Cr.j1 r1
def Dy (a_:Int) (b_:Int):Option Int :=
(Cr a_ 1000003).bind fun y1 =>
(Cr b_ 31).bind fun y2 =>
(ckK .i64 (y1+y2)).bind fun z1 =>
(ckK .i64 (z1+7)).bind fun z2 =>
(rem? z2 2305843009213693951).bind fun z3 =>
 some z3
abbrev Cu.j1 (x1:Int):Option Int :=
 some x1
abbrev Cu.l1 (data:(List UInt8)) (x2:Int) (x3:Int):Option (Step (Int×Int) Int) :=
 if decide (x2 < (data.length:Int)) then
(at? data x2).bind fun y1 =>
(ckK .i64 (y1.toNat:Int)).bind fun z1 =>
(Cr x3 257).bind fun y2 =>
(ckK .i64 (y2+z1)).bind fun z2 =>
(ckK .i64 (z2+1)).bind fun z3 =>
(rem? z3 2305843009213693951).bind fun z4 =>
(ckK .i64 (x2+1)).bind fun z5 =>
 some (Step.next (z5,z4))
 else
 some (Step.done x3)
def Cu (data:(List UInt8)):Option Int :=
(C7 (fun s=>Cu.l1 data s.1 s.2) (0,1)).bind fun r1 =>
 Cu.j1 r1
abbrev C8.j1 (x1:Int):Option (Int×Fault) :=
 some (x1,({ Code:=0,Index:=0 }:Fault))
abbrev C8.l1 (list:Ab) (x2:Int) (x3:Int):Option (Step (Int×Int) ((Int×Fault) ⊕ Int)) :=
 if decide (x2 < (list.length:Int)) then
(at? list x2).bind fun y2 =>
 if decide ((y2.size:Int) > 4096) then
(Bd 2 x2).bind fun y3 =>
 some (Step.done (Sum.inl (0,y3)))
 else
(at? list x2).bind fun y4 =>
(Cu y4.data.toList).bind fun y5 =>
(Dy x3 y5).bind fun y6 =>
(ckK .i64 (x2+1)).bind fun z1 =>
 some (Step.next (z1,y6))
 else
 some (Step.done (Sum.inr x3))
def C8 (list:Ab):Option (Int×Fault) :=
 if decide ((list.length:Int) > 120) then
(Bd 2 (-1)).bind fun y1 =>
 some (0,y1)
 else
(C7 (fun s=>C8.l1 list s.1 s.2) (0,2)).bind fun r1 =>
(match r1 with
| .inl p=>some p
| .inr p=>C8.j1 p)
abbrev Bi.j1 (x1:Int):Option Int :=
 some x1
abbrev Bi.j2 (x2:Int) (x5:Int):Option (Step (Int×Int) Int) :=
(ckK .i64 (x2+1)).bind fun z1 =>
 some (Step.next (z1,x5))
abbrev Bi.j4 (x2:Int) (x7:Int):Option (Step (Int×Int) Int) :=
 Bi.j2 x2 x7
abbrev Bi.l2 (y1:TreeChange) (x8:Int) (x9:Int):Option (Step (Int×Int) Int) :=
 if decide (x8 < (y1.Patch.Hunks.length:Int)) then
(at? y1.Patch.Hunks x8).bind fun y9 =>
(C8 y9.Old).bind fun y10 =>
(C8 y9.New).bind fun y11 =>
(Dy x9 y9.At).bind fun y12 =>
(Dy y12 y10.1).bind fun y13 =>
(Dy y13 y11.1).bind fun y14 =>
(ckK .i64 (x8+1)).bind fun z2 =>
 some (Step.next (z2,y14))
 else
 some (Step.done x9)
abbrev Bi.j3 (x2:Int) (y1:TreeChange) (y2:Int×Fault) (y3:Int) (x6:List UInt8):Option (Step (Int×Int) Int) :=
(Cu x6).bind fun y4 =>
(Dy y3 y4).bind fun y5 =>
(Cu y1.To.data.toList).bind fun y6 =>
(Dy y5 y6).bind fun y7 =>
(Dy y7 y2.1).bind fun y8 =>
(C7 (fun s=>Bi.l2 y1 s.1 s.2) (0,y8)).bind fun r2 =>
 Bi.j4 x2 r2
abbrev Bi.l1 (p_:TreePatch) (x2:Int) (x3:Int):Option (Step (Int×Int) Int) :=
 if decide (x2 < (p_.Changes.length:Int)) then
(at? p_.Changes x2).bind fun y1 =>
(C8 y1.Lines).bind fun y2 =>
(Dy x3 y1.Kind).bind fun y3 =>
 Bi.j3 x2 y1 y2 y3 y1.Path.data.toList
 else
 some (Step.done x3)
def Bi (p_:TreePatch):Option Int :=
(C7 (fun s=>Bi.l1 p_ s.1 s.2) (0,3)).bind fun r1 =>
 Bi.j1 r1
abbrev Cc.j1 (key:Int) (x1:List UInt8):Option Int :=
(Cu x1).bind fun y2 =>
(Dy key y2).bind fun y3 =>
 some y3
abbrev Cc.j2 (x2:Int) (x5:List UInt8):Option (Step (Int×(List UInt8)) (List UInt8)) :=
(ckK .i64 (x2+1)).bind fun z1 =>
 some (Step.next (z1,x5))
abbrev Cc.j3 (x2:Int) (x6:List UInt8):Option (Step (Int×(List UInt8)) (List UInt8)) :=
 Cc.j2 x2 x6
abbrev Cc.l2 (m_:Letter_changeforgeref2) (y1:Int) (x2:Int) (x7:Int) (x8:Int) (x9:List UInt8):Option (Step (Int×Int×(List UInt8)) (List UInt8)) :=
 if decide (x7 < 8) then
(at? ([m_.User,m_.Number,m_.Base,y1]:List Int) x2).bind fun y4 =>
(quo? .i64 y4 x8).bind fun z2 =>
(rem? z2 256).bind fun z3 =>
(some (u8w z3)).bind fun z4 =>
(app? 1 x9 ([z4]:List UInt8)).bind fun y5 =>
(quo? .i64 x8 256).bind fun z5 =>
(ckK .i64 (x7+1)).bind fun z6 =>
 some (Step.next (z6,z5,y5))
 else
 some (Step.done x9)
abbrev Cc.l1 (m_:Letter_changeforgeref2) (y1:Int) (x2:Int) (x3:List UInt8):Option (Step (Int×(List UInt8)) (List UInt8)) :=
 if decide (x2 < (([m_.User,m_.Number,m_.Base,y1]:List Int).length:Int)) then
(C7 (fun s=>Cc.l2 m_ y1 x2 s.1 s.2.1 s.2.2) (0,72057594037927936,x3)).bind fun r2 =>
 Cc.j3 x2 r2
 else
 some (Step.done x3)
def Cc (key:Int) (m_:Letter_changeforgeref2):Option Int :=
(Bi m_.Patch).bind fun y1 =>
(C7 (fun s=>Cc.l1 m_ y1 s.1 s.2) (0,[])).bind fun r1 =>
 Cc.j1 key r1
abbrev B9.j2 (s_:Forge_changeforgeref2) (y17:FileTree×Fault) (x2:Ea):Option (Forge_changeforgeref2×Int) :=
 some (({ Versions:=s_.Versions,Log:=s_.Log,Last:=s_.Last,Base:=s_.Base,Sent:=s_.Sent,Working:=x2,Flight:=s_.Flight }:Forge_changeforgeref2),y17.2.Code)
abbrev B9.j1 (s_:Forge_changeforgeref2) (e_:ForgeEvent) (y17:FileTree×Fault):Option (Forge_changeforgeref2×Int) :=
 if decide (y17.2.Code=0) then
(at? s_.Working e_.User).bind fun y18 =>
(some (s_.Working.set e_.User.toNat y17.1)).bind fun y19 =>
 B9.j2 s_ y17 y19
 else
 B9.j2 s_ y17 s_.Working
abbrev B9.j4 (s_:Forge_changeforgeref2) (y32:List Int) (y38:Dx) (x4:Dx):Option (Forge_changeforgeref2×Int) :=
(app? 64 y38 x4).bind fun y39 =>
 some (({ Versions:=s_.Versions,Log:=s_.Log,Last:=s_.Last,Base:=s_.Base,Sent:=y32,Working:=s_.Working,Flight:=y39 }:Forge_changeforgeref2),0)
abbrev B9.j3 (s_:Forge_changeforgeref2) (keys:(List Int)) (e_:ForgeEvent) (y29:TreePatch×Fault):Option (Forge_changeforgeref2×Int) :=
 if !decide (y29.2.Code=0) then
 some (s_,y29.2.Code)
 else
 if decide ((y29.1.Changes.length:Int)=0) then
 some (s_,11)
 else
 if decide ((s_.Flight.length:Int) ≥ 20) then
 some (s_,14)
 else
(at? s_.Sent e_.User).bind fun y30 =>
(ckK .i64 (y30+1)).bind fun z5 =>
(at? s_.Sent e_.User).bind fun y31 =>
(some (s_.Sent.set e_.User.toNat z5)).bind fun y32 =>
(at? y32 e_.User).bind fun y33 =>
(at? s_.Base e_.User).bind fun y34 =>
(Cc e_.Key ({ User:=e_.User,Number:=y33,Base:=y34,Signature:=0,Right:=0,Patch:=y29.1 }:Letter_changeforgeref2)).bind fun y35 =>
(at? keys e_.User).bind fun y36 =>
(Cc y36 ({ User:=e_.User,Number:=y33,Base:=y34,Signature:=y35,Right:=0,Patch:=y29.1 }:Letter_changeforgeref2)).bind fun y37 =>
(app? 64 ([]:Dx) s_.Flight).bind fun y38 =>
 B9.j4 s_ y32 y38 ([({ User:=e_.User,Number:=y33,Base:=y34,Signature:=y35,Right:=y37,Patch:=y29.1 }:Letter_changeforgeref2)]:Dx)
def B9 (s_:Forge_changeforgeref2) (keys:(List Int)) (e_:ForgeEvent):Option (Forge_changeforgeref2×Int) :=
(K3 e_).bind fun y1 =>
 if y1 then
 if decide (e_.N ≥ (s_.Flight.length:Int)) then
 some (s_,6)
 else
(at? s_.Flight e_.N).bind fun y2 =>
(cut? s_.Flight 0 e_.N).bind fun y3 =>
(app? 64 ([]:Dx) y3).bind fun y4 =>
(ckK .i64 (e_.N+1)).bind fun z1 =>
(cut? s_.Flight z1 (s_.Flight.length:Int)).bind fun y5 =>
 if decide (e_.Kind=7) then
(ckK .i64 (y2.Signature+1)).bind fun z2 =>
(rem? z2 2305843009213693951).bind fun z3 =>
(app? 64 y4 ([({ User:=y2.User,Number:=y2.Number,Base:=y2.Base,Signature:=z3,Right:=y2.Right,Patch:=y2.Patch }:Letter_changeforgeref2)]:Dx)).bind fun y6 =>
(app? 64 y6 y5).bind fun y7 =>
 some (({ Versions:=s_.Versions,Log:=s_.Log,Last:=s_.Last,Base:=s_.Base,Sent:=s_.Sent,Working:=s_.Working,Flight:=y7 }:Forge_changeforgeref2),0)
 else
 if decide (e_.Kind=6) then
 if decide ((s_.Flight.length:Int) ≥ 20) then
 some (s_,14)
 else
(app? 64 y4 ([y2,y2]:Dx)).bind fun y8 =>
(app? 64 y8 y5).bind fun y9 =>
 some (({ Versions:=s_.Versions,Log:=s_.Log,Last:=s_.Last,Base:=s_.Base,Sent:=s_.Sent,Working:=s_.Working,Flight:=y9 }:Forge_changeforgeref2),0)
 else
(app? 64 y4 y5).bind fun y10 =>
 if decide (e_.Kind=5) then
 some (({ Versions:=s_.Versions,Log:=s_.Log,Last:=s_.Last,Base:=s_.Base,Sent:=s_.Sent,Working:=s_.Working,Flight:=y10 }:Forge_changeforgeref2),0)
 else
(Dr ({ Versions:=s_.Versions,Log:=s_.Log,Last:=s_.Last,Base:=s_.Base,Sent:=s_.Sent,Working:=s_.Working,Flight:=y10 }:Forge_changeforgeref2) y2).bind fun y11 =>
 some (y11.1,y11.2)
 else
(at? s_.Base e_.User).bind fun y12 =>
(at? s_.Versions y12).bind fun y13 =>
 if decide (e_.Kind=8) then
(at? s_.Working e_.User).bind fun y14 =>
(some (s_.Working.set e_.User.toNat y13)).bind fun y15 =>
 some (({ Versions:=s_.Versions,Log:=s_.Log,Last:=s_.Last,Base:=s_.Base,Sent:=s_.Sent,Working:=y15,Flight:=s_.Flight }:Forge_changeforgeref2),0)
 else
 if decide (e_.Kind=2) then
(at? s_.Working e_.User).bind fun y16 =>
(Df e_.Patch y16).bind fun y17 =>
 B9.j1 s_ e_ y17
 else
 if decide (e_.Kind=1) then
(at? s_.Working e_.User).bind fun y20 =>
(Et y20 y13).bind fun y21 =>
 if !y21 then
 some (s_,15)
 else
(ckK .i64 ((s_.Versions.length:Int) - 1)).bind fun z4 =>
(at? s_.Base e_.User).bind fun y22 =>
(some (s_.Base.set e_.User.toNat z4)).bind fun y23 =>
(at? y23 e_.User).bind fun y24 =>
(at? s_.Versions y24).bind fun y25 =>
(at? s_.Working e_.User).bind fun y26 =>
(some (s_.Working.set e_.User.toNat y25)).bind fun y27 =>
 some (({ Versions:=s_.Versions,Log:=s_.Log,Last:=s_.Last,Base:=y23,Sent:=s_.Sent,Working:=y27,Flight:=s_.Flight }:Forge_changeforgeref2),0)
 else
(at? s_.Working e_.User).bind fun y28 =>
(Au y13 y28).bind fun y29 =>
 B9.j3 s_ keys e_ y29
abbrev C5.j2 (x6:List Int) (x7:Ea) (x8:D2) (x9:List Int) (x10:List Int) (x11:List Int) (x12:Ea) (x13:Dx):Option (Forge_changeforgeref2×(List Int)) :=
 some (({ Versions:=x7,Log:=x8,Last:=x9,Base:=x10,Sent:=x11,Working:=x12,Flight:=x13 }:Forge_changeforgeref2),x6)
abbrev C5.l1 (keys:(List Int)) (l_:Cx) (x14:Int) (x15:List Int) (x16:Ea) (x17:D2) (x18:List Int) (x19:List Int) (x20:List Int) (x21:Ea) (x22:Dx):Option (Step (Int×(List Int)×Ea×D2×(List Int)×(List Int)×(List Int)×Ea×Dx) ((List Int)×Ea×D2×(List Int)×(List Int)×(List Int)×Ea×Dx)) :=
 if decide (x14 < (l_.length:Int)) then
(at? l_ x14).bind fun y6 =>
(B9 ({ Versions:=x16,Log:=x17,Last:=x18,Base:=x19,Sent:=x20,Working:=x21,Flight:=x22 }:Forge_changeforgeref2) keys y6).bind fun y7 =>
(app? 8 x15 ([y7.2]:List Int)).bind fun y8 =>
(ckK .i64 (x14+1)).bind fun z1 =>
 some (Step.next (z1,y8,y7.1.Versions,y7.1.Log,y7.1.Last,y7.1.Base,y7.1.Sent,y7.1.Working,y7.1.Flight))
 else
 some (Step.done (x15,x16,x17,x18,x19,x20,x21,x22))
abbrev C5.j1 (keys:(List Int)) (l_:Cx) (y1:Ea) (y2:List Int) (y3:List Int) (y4:List Int) (y5:Ea):Option (Forge_changeforgeref2×(List Int)) :=
(C7 (fun s=>C5.l1 keys l_ s.1 s.2.1 s.2.2.1 s.2.2.2.1 s.2.2.2.2.1 s.2.2.2.2.2.1 s.2.2.2.2.2.2.1 s.2.2.2.2.2.2.2.1 s.2.2.2.2.2.2.2.2) (0,[],y1,[],y2,y3,y4,y5,[])).bind fun r1 =>
 C5.j2 r1.1 r1.2.1 r1.2.2.1 r1.2.2.2.1 r1.2.2.2.2.1 r1.2.2.2.2.2.1 r1.2.2.2.2.2.2.1 r1.2.2.2.2.2.2.2
def C5 (keys:(List Int)) (l_:Cx):Option (Forge_changeforgeref2×(List Int)) :=
(mk? 24 1 ({ Files:=[] }:FileTree)).bind fun y1 =>
(mk? 8 (keys.length:Int) (0:Int)).bind fun y2 =>
(mk? 8 (keys.length:Int) (0:Int)).bind fun y3 =>
(mk? 8 (keys.length:Int) (0:Int)).bind fun y4 =>
(mk? 24 (keys.length:Int) ({ Files:=[] }:FileTree)).bind fun y5 =>
 C5.j1 keys l_ y1 y2 y3 y4 y5
def Lh (keys:(List Int)) (events:Cx) (user:Int):Option Bool :=
(Wj keys events).bind fun y1 =>
(O8 keys events user).bind fun y2 =>
(Bt keys events).bind fun y3 =>
(E9 keys events).bind fun y4 =>
(if !(decide (y4.Code=y3.Code) && decide (y4.Index=y3.Index)) then some true else some (!(decide (y1.2.2.2.Code=y3.Code) && decide (y1.2.2.2.Index=y3.Index)))).bind fun x1 =>
 if x1 then
 some false
 else
 if !decide (y3.Code=0) then
(if decide (y2.2.Code=y3.Code) && decide (y2.2.Index=y3.Index) then (ckK .i64 ((y1.1.Files.length:Int)+(y1.2.1.length:Int))).bind fun z1 =>
(ckK .i64 (z1+(y1.2.2.1.length:Int))).bind fun z2 =>
(ckK .i64 (z2+(y2.1.Files.length:Int))).bind fun z3 =>
 some (decide (z3=0)) else some false).bind fun x2 =>
(if x2 then (Ei).bind fun y5 =>
 some y5 else some false).bind fun x3 =>
 some x3
 else
(C5 keys events).bind fun y6 =>
(ckK .i64 ((y6.1.Versions.length:Int) - 1)).bind fun z4 =>
(at? y6.1.Versions z4).bind fun y7 =>
(Eh y1.1 y7).bind fun y8 =>
(if !y8 then some true else (Ef y1.2.1 y6.1.Log).bind fun y9 =>
 some !y9).bind fun x4 =>
(if x4 then some true else (Gl y1.2.2.1 y6.2).bind fun y10 =>
 some !y10).bind fun x5 =>
 if x5 then
 some false
 else
(if decide (user < 0) then some true else some (decide (user ≥ (keys.length:Int)))).bind fun x6 =>
 if x6 then
(Bd 3 (-20)).bind fun y11 =>
(if decide (y2.2.Code=y11.Code) && decide (y2.2.Index=y11.Index) then some (decide ((y2.1.Files.length:Int)=0)) else some false).bind fun x7 =>
(if x7 then (Ei).bind fun y12 =>
 some y12 else some false).bind fun x8 =>
 some x8
 else
(if decide (y2.2.Code=0) then (at? y6.1.Working user).bind fun y13 =>
(Eh y2.1 y13).bind fun y14 =>
 some y14 else some false).bind fun x9 =>
(if x9 then (Ei).bind fun y15 =>
 some y15 else some false).bind fun x10 =>
 some x10
end Go.Dc
