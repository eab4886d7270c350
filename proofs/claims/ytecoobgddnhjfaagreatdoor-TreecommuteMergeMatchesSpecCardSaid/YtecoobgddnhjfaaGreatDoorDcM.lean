import Derived.Test.YtecoobgddnhjfaaGreatDoorDcTy
import Derived.Test.YtecoobgddnhjfaaGreatDoorDcR
import Derived.Test.YtecoobgddnhjfaaGreatDoorDcRS
noncomputable section
namespace Go.Dc
open Go
set_option linter.unusedVariables false
def Oh (s_:ByteArray) (prefix_:ByteArray):Option Bool :=
(if decide ((s_.size:Int) ≥ (prefix_.size:Int)) then (scut? s_ 0 (prefix_.size:Int)).bind fun y1 =>
 some (decide (y1=prefix_)) else some false).bind fun x1 =>
 some x1
def Nx (s_:ByteArray) (prefix_:ByteArray):Option Bool :=
(Oh s_ prefix_).bind fun y1 =>
 some y1
def L7 (a_:ByteArray) (b_:ByteArray):Option Bool :=
(if decide (a_=b_) then some true else (cat? b_ (⟨#[47]⟩:ByteArray)).bind fun z1 =>
(Nx a_ z1).bind fun y1 =>
 some y1).bind fun x1 =>
(if x1 then some true else (cat? a_ (⟨#[47]⟩:ByteArray)).bind fun z2 =>
(Nx b_ z2).bind fun y2 =>
 some y2).bind fun x2 =>
 some x2
def E2.j1:Option Bool :=
 some false
def E2.l1 (files:Ai) (path:ByteArray) (except:Int) (x1:Int):Option (Step Int (Bool ⊕ Unit)) :=
 if decide (x1 < (files.length:Int)) then
(at? files x1).bind fun y1 =>
(if !decide (x1=except) then (L7 y1.Path path).bind fun y2 =>
 some y2 else some false).bind fun x3 =>
 if x3 then
 some (Step.done (Sum.inl true))
 else
(ckK .i64 (x1+1)).bind fun z1 =>
 some (Step.next z1)
 else
 some (Step.done (Sum.inr ()))
def E2 (files:Ai) (path:ByteArray) (except:Int):Option Bool :=
(Eo (fun s=>E2.l1 files path except s) 0).bind fun r1 =>
(match r1 with
| .inl p=>some p
| .inr _=>E2.j1)
def L9 (s_:ByteArray) (c_:Int):Option Int :=
 some (idxB s_ c_)
def Tp (s_:ByteArray):Option Int :=
 if decide ((⟨#[47]⟩:ByteArray)=s_) then
 some 0
 else
(sAt? (⟨#[47]⟩:ByteArray) 0).bind fun y1 =>
(L9 s_ y1).bind fun y2 =>
 some y2
def Uo (s_:ByteArray):Option Int :=
(Tp s_).bind fun y1 =>
 some y1
def M9 (c_:Int):Option Bool :=
(if decide (c_ ≥ 97) then some (decide (c_≤122)) else some false).bind fun x1 =>
(if x1 then some true else (if decide (c_ ≥ 65) then some (decide (c_≤90)) else some false).bind fun x3 =>
 some x3).bind fun x2 =>
(if x2 then some true else (if decide (c_ ≥ 48) then some (decide (c_≤57)) else some false).bind fun x5 =>
 some x5).bind fun x4 =>
(if x4 then some true else some (decide (c_=46))).bind fun x6 =>
(if x6 then some true else some (decide (c_=95))).bind fun x7 =>
(if x7 then some true else some (decide (c_=45))).bind fun x8 =>
 some x8
def Bl.j2:Option Bool :=
 some false
def Bl.j3:Option Bool :=
 some true
def Bl.j4:Option Bool :=
 Bl.j3
def Bl.l1 (x1:ByteArray) (x4:Int):Option (Step Int (Unit ⊕ Unit)) :=
 if decide (x4 < (x1.size:Int)) then
(sAt? x1 x4).bind fun y1 =>
(M9 y1).bind fun y2 =>
 if !y2 then
 some (Step.done (Sum.inl ()))
 else
(ckK .i64 (x4+1)).bind fun z1 =>
 some (Step.next z1)
 else
 some (Step.done (Sum.inr ()))
def Bl.j1 (x1:ByteArray):Option Bool :=
(if decide (x1=(⟨#[]⟩:ByteArray)) then some true else some (decide (x1=(⟨#[46]⟩:ByteArray)))).bind fun x2 =>
(if x2 then some true else some (decide (x1=(⟨#[46,46]⟩:ByteArray)))).bind fun x3 =>
 if x3 then
 Bl.j2
 else
(Eo (fun s=>Bl.l1 x1 s) 0).bind fun r1 =>
(match r1 with
| .inl _=>Bl.j2
| .inr _=>Bl.j4)
def Bl.j5:Option (Step ByteArray (Bool ⊕ ByteArray)) :=
 some (Step.done (Sum.inl false))
def Bl.j6 (x6:ByteArray) (y3:Int):Option (Step ByteArray (Bool ⊕ ByteArray)) :=
(ckK .i64 (y3+1)).bind fun z3 =>
(scut? x6 z3 (x6.size:Int)).bind fun y5 =>
 some (Step.next y5)
def Bl.j7 (x6:ByteArray) (y3:Int):Option (Step ByteArray (Bool ⊕ ByteArray)) :=
 Bl.j6 x6 y3
def Bl.l3 (y4:ByteArray) (x10:Int):Option (Step Int (Unit ⊕ Unit)) :=
 if decide (x10 < (y4.size:Int)) then
(sAt? y4 x10).bind fun y6 =>
(M9 y6).bind fun y7 =>
 if !y7 then
 some (Step.done (Sum.inl ()))
 else
(ckK .i64 (x10+1)).bind fun z4 =>
 some (Step.next z4)
 else
 some (Step.done (Sum.inr ()))
def Bl.l2 (x6:ByteArray):Option (Step ByteArray (Bool ⊕ ByteArray)) :=
(Uo x6).bind fun y3 =>
 if decide (y3 < 0) then
 some (Step.done (Sum.inr x6))
 else
(ckK .i64 (y3+0)).bind fun z2 =>
(scut? x6 0 z2).bind fun y4 =>
(if decide (y4=(⟨#[]⟩:ByteArray)) then some true else some (decide (y4=(⟨#[46]⟩:ByteArray)))).bind fun x8 =>
(if x8 then some true else some (decide (y4=(⟨#[46,46]⟩:ByteArray)))).bind fun x9 =>
 if x9 then
 Bl.j5
 else
(Eo (fun s=>Bl.l3 y4 s) 0).bind fun r3 =>
(match r3 with
| .inl _=>Bl.j5
| .inr _=>Bl.j7 x6 y3)
def Bl (path:ByteArray):Option Bool :=
 if decide ((path.size:Int) > 60) then
 some false
 else
(Eo (fun s=>Bl.l2 s) path).bind fun r2 =>
(match r2 with
| .inl p=>some p
| .inr p=>Bl.j1 p)
def O6 (s_:ByteArray) (c_:Int):Option Int :=
(L9 s_ c_).bind fun y1 =>
 some y1
def Gd.j1:Option Fault :=
 some ({ Code:=0,Index:=0 }:Fault)
def Gd.l1 (lines:Ac) (x1:Int):Option (Step Int (Fault ⊕ Unit)) :=
 if decide (x1 < (lines.length:Int)) then
(at? lines x1).bind fun y1 =>
 if decide ((y1.size:Int) > 80) then
 some (Step.done (Sum.inl ({ Code:=2,Index:=x1 }:Fault)))
 else
(O6 y1 10).bind fun y2 =>
 if decide (y2 ≥ 0) then
 some (Step.done (Sum.inl ({ Code:=5,Index:=x1 }:Fault)))
 else
(ckK .i64 (x1+1)).bind fun z1 =>
 some (Step.next z1)
 else
 some (Step.done (Sum.inr ()))
def Gd (lines:Ac):Option Fault :=
 if decide ((lines.length:Int) > 120) then
 some ({ Code:=2,Index:=(-1) }:Fault)
 else
(Eo (fun s=>Gd.l1 lines s) 0).bind fun r1 =>
(match r1 with
| .inl p=>some p
| .inr _=>Gd.j1)
def Nc (b_:Ac) (index:Int):Option Fault :=
(Gd b_).bind fun y1 =>
 if !(decide (y1.Code=0) && decide (y1.Index=0)) then
 some ({ Code:=y1.Code,Index:=index }:Fault)
 else
 some ({ Code:=0,Index:=0 }:Fault)
def G3.j1:Option Fault :=
 some ({ Code:=0,Index:=0 }:Fault)
def G3.l1 (t_:FileTree) (x1:Int):Option (Step Int (Fault ⊕ Unit)) :=
 if decide (x1 < (t_.Files.length:Int)) then
(at? t_.Files x1).bind fun y1 =>
(Bl y1.Path).bind fun y2 =>
 if !y2 then
 some (Step.done (Sum.inl ({ Code:=12,Index:=x1 }:Fault)))
 else
(if decide (x1 > 0) then (ckK .i64 (x1 - 1)).bind fun z1 =>
(at? t_.Files z1).bind fun y3 =>
 some (sLt y1.Path y3.Path || decide (y1.Path=y3.Path)) else some false).bind fun x3 =>
 if x3 then
 some (Step.done (Sum.inl ({ Code:=5,Index:=x1 }:Fault)))
 else
(cut? t_.Files 0 x1).bind fun y4 =>
(E2 y4 y1.Path (-1)).bind fun y5 =>
 if y5 then
 some (Step.done (Sum.inl ({ Code:=7,Index:=x1 }:Fault)))
 else
(Nc y1.Lines x1).bind fun y6 =>
 if !(decide (y6.Code=0) && decide (y6.Index=0)) then
 some (Step.done (Sum.inl y6))
 else
(ckK .i64 (x1+1)).bind fun z2 =>
 some (Step.next z2)
 else
 some (Step.done (Sum.inr ()))
def G3 (t_:FileTree):Option Fault :=
 if decide ((t_.Files.length:Int) > 24) then
 some ({ Code:=2,Index:=(-1) }:Fault)
 else
(Eo (fun s=>G3.l1 t_ s) 0).bind fun r1 =>
(match r1 with
| .inl p=>some p
| .inr _=>G3.j1)
def Nd (h_:Hunk):Option Int :=
(ckK .i64 (h_.At+(h_.Old.length:Int))).bind fun z1 =>
 some z1
def Hj.j1 (h_:Hunk) (end_:Int):Option Int :=
(ckK .i64 ((h_.Old.length:Int)+(h_.New.length:Int))).bind fun z1 =>
(if decide (z1=0) then some true else some (decide (h_.At≤end_))).bind fun x2 =>
 if x2 then
 some 5
 else
(Nd h_).bind fun y1 =>
 if decide (y1 > 120) then
 some 3
 else
 some 0
def Hj.l1 (h_:Hunk) (x3:Int):Option (Step Int (Int ⊕ Unit)) :=
 if decide (x3 < 2) then
(at? ([h_.Old,h_.New]:List Ac) x3).bind fun y2 =>
(Gd y2).bind fun y3 =>
 if !(decide (y3.Code=0) && decide (y3.Index=0)) then
 some (Step.done (Sum.inl y3.Code))
 else
(ckK .i64 (x3+1)).bind fun z2 =>
 some (Step.next z2)
 else
 some (Step.done (Sum.inr ()))
def Hj (h_:Hunk) (end_:Int):Option Int :=
(if decide (h_.At < 0) then some true else some (decide (h_.At > 120))).bind fun x1 =>
 if x1 then
 some 3
 else
(Eo (fun s=>Hj.l1 h_ s) 0).bind fun r1 =>
(match r1 with
| .inl p=>some p
| .inr _=>Hj.j1 h_ end_)
def Ga.j1:Option Fault :=
 some ({ Code:=0,Index:=0 }:Fault)
def Ga.l1 (p_:Patch) (x1:Int) (x2:Int):Option (Step (Int×Int) (Fault ⊕ Unit)) :=
 if decide (x1 < (p_.Hunks.length:Int)) then
(at? p_.Hunks x1).bind fun y1 =>
(Hj y1 x2).bind fun y2 =>
 if !decide (y2=0) then
 some (Step.done (Sum.inl ({ Code:=y2,Index:=x1 }:Fault)))
 else
(Nd y1).bind fun y3 =>
(ckK .i64 (x1+1)).bind fun z1 =>
 some (Step.next (z1,y3))
 else
 some (Step.done (Sum.inr ()))
def Ga (p_:Patch):Option Fault :=
 if decide ((p_.Hunks.length:Int) > 130) then
 some ({ Code:=2,Index:=(-1) }:Fault)
 else
(Eo (fun s=>Ga.l1 p_ s.1 s.2) (0,(-1))).bind fun r1 =>
(match r1 with
| .inl p=>some p
| .inr _=>Ga.j1)
def Ta (c_:TreeChange):Option Int :=
(if decide (c_.Kind < 1) then some true else some (decide (c_.Kind > 4))).bind fun x1 =>
 if x1 then
 some 4
 else
(Bl c_.Path).bind fun y1 =>
(if !y1 then some true else (if decide (c_.Kind=3) then (Bl c_.To).bind fun y2 =>
 some !y2 else some false).bind fun x3 =>
 some x3).bind fun x2 =>
 if x2 then
 some 12
 else
(if !(decide (c_.Kind=3)) then some (!decide (c_.To=(⟨#[]⟩:ByteArray))) else some false).bind fun x4 =>
(if x4 then some true else (if decide (c_.Kind=3) then (L7 c_.Path c_.To).bind fun y3 =>
 some y3 else some false).bind fun x6 =>
 some x6).bind fun x5 =>
 if x5 then
 some 5
 else
(if decide ((c_.Lines.length:Int) > 0) then (if decide (c_.Kind=4) then some true else some (decide (c_.Kind=3))).bind fun x8 =>
 some x8 else some false).bind fun x7 =>
 if x7 then
 some 5
 else
 if !decide (decide (c_.Kind=4)=decide ((c_.Patch.Hunks.length:Int) > 0)) then
 some 5
 else
(Gd c_.Lines).bind fun y4 =>
 if !(decide (y4.Code=0) && decide (y4.Index=0)) then
 some y4.Code
 else
(Ga c_.Patch).bind fun y5 =>
 some y5.Code
def Dl.j1:Option Fault :=
 some ({ Code:=0,Index:=0 }:Fault)
def Dl.l1 (p_:TreePatch) (x1:Int):Option (Step Int (Fault ⊕ Unit)) :=
 if decide (x1 < (p_.Changes.length:Int)) then
(at? p_.Changes x1).bind fun y1 =>
(Ta y1).bind fun y2 =>
 if !decide (y2=0) then
 some (Step.done (Sum.inl ({ Code:=y2,Index:=x1 }:Fault)))
 else
(ckK .i64 (x1+1)).bind fun z1 =>
 some (Step.next z1)
 else
 some (Step.done (Sum.inr ()))
def Dl (p_:TreePatch):Option Fault :=
 if decide ((p_.Changes.length:Int) > 30) then
 some ({ Code:=2,Index:=(-1) }:Fault)
 else
(Eo (fun s=>Dl.l1 p_ s) 0).bind fun r1 =>
(match r1 with
| .inl p=>some p
| .inr _=>Dl.j1)
def Qq (t_:FileTree) (index:Int):Option Fault :=
(G3 t_).bind fun y1 =>
 if !(decide (y1.Code=0) && decide (y1.Index=0)) then
 some ({ Code:=y1.Code,Index:=index }:Fault)
 else
 some ({ Code:=0,Index:=0 }:Fault)
def Nf (s_:Ac):Option Ac :=
 nilIf s_ (
 some []) (
(app? 16 ([]:Ac) s_).bind fun y1 =>
 some y1)
def Gf.j1 (x1:Ai):Option FileTree :=
 some ({ Files:=x1 }:FileTree)
def Gf.l1 (t_:FileTree) (x2:Int) (x3:Ai):Option (Step (Int×Ai) Ai) :=
 if decide (x2 < (t_.Files.length:Int)) then
(at? t_.Files x2).bind fun y1 =>
(Nf y1.Lines).bind fun y2 =>
(app? 40 x3 ([({ Path:=y1.Path,Lines:=y2 }:File)]:Ai)).bind fun y3 =>
(ckK .i64 (x2+1)).bind fun z1 =>
 some (Step.next (z1,y3))
 else
 some (Step.done x3)
def Gf (t_:FileTree):Option FileTree :=
(Eo (fun s=>Gf.l1 t_ s.1 s.2) (0,[])).bind fun r1 =>
 Gf.j1 r1
def Tj (a_:ByteArray) (b_:ByteArray):Option Int :=
 some (cmpB a_ b_)
def Wr (a_:ByteArray) (b_:ByteArray):Option Int :=
(Tj a_ b_).bind fun y1 =>
 some y1
def Oz (f:File) (path:ByteArray):Option Int :=
(Wr f.Path path).bind fun y1 =>
 some y1
def Es.j1 (files:Ai) (path:ByteArray) (x1:Int):Option (Int×Bool) :=
(if decide (x1 < (files.length:Int)) then (at? files x1).bind fun y1 =>
(Oz y1 path).bind fun y2 =>
 some (decide (y2=0)) else some false).bind fun x2 =>
 some (x1,x2)
def Es.l1 (files:Ai) (path:ByteArray) (x3:Int) (x4:Int):Option (Step (Int×Int) Int) :=
 if decide (x4 < x3) then
(ckK .i64 (x4+x3)).bind fun z1 =>
(ckK .u64 z1).bind fun z2 =>
(shr? .u64 z2 1).bind fun z3 =>
(ckK .i64 z3).bind fun z4 =>
(at? files z4).bind fun y3 =>
(Oz y3 path).bind fun y4 =>
 if decide (y4 < 0) then
(ckK .i64 (z4+1)).bind fun z5 =>
 some (Step.next (x3,z5))
 else
 some (Step.next (z4,x4))
 else
 some (Step.done x4)
def Es (files:Ai) (path:ByteArray):Option (Int×Bool) :=
(Eo (fun s=>Es.l1 files path s.1 s.2) ((files.length:Int),0)).bind fun r1 =>
 Es.j1 files path r1
def Ku.j1 (l_:Ac) (y1:Int×Bool) (x1:Ai):Option FileTree :=
(Nf l_).bind fun y2 =>
(at? x1 y1.1).bind fun y3 =>
(some (x1.set y1.1.toNat ({ Path:=y3.Path,Lines:=y2 }:File))).bind fun y4 =>
 some ({ Files:=y4 }:FileTree)
def Ku (t_:FileTree) (path:ByteArray) (l_:Ac):Option FileTree :=
(Es t_.Files path).bind fun y1 =>
 if !y1.2 then
(ins? 40 t_.Files y1.1 ([({ Path:=path,Lines:=[] }:File)]:Ai)).bind fun y5 =>
 Ku.j1 l_ y1 y5
 else
 Ku.j1 l_ y1 t_.Files
def H6.j1:Option Bool :=
 some true
def H6.l1 (s1_:Ac) (s2_:Ac) (x1:Int):Option (Step Int (Bool ⊕ Unit)) :=
 if decide (x1 < (s1_.length:Int)) then
(at? s1_ x1).bind fun y1 =>
(at? s2_ x1).bind fun y2 =>
 if !decide (y1=y2) then
 some (Step.done (Sum.inl false))
 else
(ckK .i64 (x1+1)).bind fun z1 =>
 some (Step.next z1)
 else
 some (Step.done (Sum.inr ()))
def H6 (s1_:Ac) (s2_:Ac):Option Bool :=
 if !decide ((s1_.length:Int)=(s2_.length:Int)) then
 some false
 else
(Eo (fun s=>H6.l1 s1_ s2_ s) 0).bind fun r1 =>
(match r1 with
| .inl p=>some p
| .inr _=>H6.j1)
def Ez.j1 (text:Ac) (high:Int) (x1:Ac) (x2:Int):Option Ac :=
(cut? text x2 high).bind fun y1 =>
(app? 16 x1 y1).bind fun y2 =>
 some y2
def Ez.l1 (hunks:Bc) (text:Ac) (x3:Int) (x4:Ac) (x5:Int):Option (Step (Int×Ac×Int) (Ac×Int)) :=
 if decide (x3 < (hunks.length:Int)) then
(at? hunks x3).bind fun y3 =>
(cut? text x5 y3.At).bind fun y4 =>
(app? 16 x4 y4).bind fun y5 =>
(app? 16 y5 y3.New).bind fun y6 =>
(Nd y3).bind fun y7 =>
(ckK .i64 (x3+1)).bind fun z1 =>
 some (Step.next (z1,y6,y7))
 else
 some (Step.done (x4,x5))
def Ez (hunks:Bc) (text:Ac) (low:Int) (high:Int):Option Ac :=
(Eo (fun s=>Ez.l1 hunks text s.1 s.2.1 s.2.2) (0,[],low)).bind fun r1 =>
 Ez.j1 text high r1.1 r1.2
def T8 (text:Ac) (part:Ac) (at_:Int):Option Bool :=
(if decide (at_ ≥ 0) then some (decide (at_≤(text.length:Int))) else some false).bind fun x1 =>
(if x1 then (ckK .i64 ((text.length:Int) - at_)).bind fun z1 =>
 some (decide ((part.length:Int)≤z1)) else some false).bind fun x2 =>
(if x2 then (ckK .i64 (at_+(part.length:Int))).bind fun z2 =>
(cut? text at_ z2).bind fun y1 =>
(H6 y1 part).bind fun y2 =>
 some y2 else some false).bind fun x3 =>
 some x3
def Hc.j1 (p_:Patch) (text:Ac):Option (Ac×Fault) :=
(Ez p_.Hunks text 0 (text.length:Int)).bind fun y3 =>
 if decide ((y3.length:Int) > 120) then
 some ([],({ Code:=10,Index:=(-1) }:Fault))
 else
 some (y3,({ Code:=0,Index:=0 }:Fault))
def Hc.l1 (p_:Patch) (text:Ac) (x1:Int):Option (Step Int ((Ac×Fault) ⊕ Unit)) :=
 if decide (x1 < (p_.Hunks.length:Int)) then
(at? p_.Hunks x1).bind fun y4 =>
(T8 text y4.Old y4.At).bind fun y5 =>
 if !y5 then
 some (Step.done (Sum.inl ([],({ Code:=19,Index:=x1 }:Fault))))
 else
(ckK .i64 (x1+1)).bind fun z1 =>
 some (Step.next z1)
 else
 some (Step.done (Sum.inr ()))
def Hc (p_:Patch) (text:Ac):Option (Ac×Fault) :=
(Ga p_).bind fun y1 =>
 if !(decide (y1.Code=0) && decide (y1.Index=0)) then
 some ([],y1)
 else
(Nc text (-2)).bind fun y2 =>
 if !(decide (y2.Code=0) && decide (y2.Index=0)) then
 some ([],y2)
 else
(Eo (fun s=>Hc.l1 p_ text s) 0).bind fun r1 =>
(match r1 with
| .inl p=>some p
| .inr _=>Hc.j1 p_ text)
def Ly.j1 (x1:Ai):Option (Int×FileTree) :=
 some (0,({ Files:=x1 }:FileTree))
def Ly (c_:TreeChange) (t_:FileTree):Option (Int×FileTree) :=
(Es t_.Files c_.Path).bind fun y1 =>
 if decide (c_.Kind=1) then
(E2 t_.Files c_.Path (-1)).bind fun y2 =>
 if y2 then
 some (7,t_)
 else
 if decide ((t_.Files.length:Int) ≥ 24) then
 some (14,t_)
 else
(Ku t_ c_.Path c_.Lines).bind fun y3 =>
 some (0,y3)
 else
 if !y1.2 then
 some (6,t_)
 else
(at? t_.Files y1.1).bind fun y4 =>
 if decide (c_.Kind=2) then
(H6 y4.Lines c_.Lines).bind fun y5 =>
 if !y5 then
 some (19,t_)
 else
(ckK .i64 (y1.1+1)).bind fun z1 =>
(del? t_.Files y1.1 z1).bind fun y6 =>
 Ly.j1 y6
 else
 if decide (c_.Kind=3) then
(E2 t_.Files c_.To y1.1).bind fun y7 =>
 if y7 then
 some (7,t_)
 else
(ckK .i64 (y1.1+1)).bind fun z2 =>
(del? t_.Files y1.1 z2).bind fun y8 =>
(Ku ({ Files:=y8 }:FileTree) c_.To y4.Lines).bind fun y9 =>
 Ly.j1 y9.Files
 else
(Hc c_.Patch y4.Lines).bind fun y10 =>
 if !(decide (y10.2.Code=0) && decide (y10.2.Index=0)) then
 some (y10.2.Code,t_)
 else
(at? t_.Files y1.1).bind fun y11 =>
(some (t_.Files.set y1.1.toNat ({ Path:=y11.Path,Lines:=y10.1 }:File))).bind fun y12 =>
 Ly.j1 y12
def Hd.j1 (x1:Ai):Option (FileTree×Fault) :=
 some (({ Files:=x1 }:FileTree),({ Code:=0,Index:=0 }:Fault))
def Hd.l1 (p_:TreePatch) (x2:Int) (x3:Ai):Option (Step (Int×Ai) ((FileTree×Fault) ⊕ Ai)) :=
 if decide (x2 < (p_.Changes.length:Int)) then
(at? p_.Changes x2).bind fun y4 =>
(Ly y4 ({ Files:=x3 }:FileTree)).bind fun y5 =>
 if !decide (y5.1=0) then
 some (Step.done (Sum.inl (({ Files:=[] }:FileTree),({ Code:=y5.1,Index:=x2 }:Fault))))
 else
(ckK .i64 (x2+1)).bind fun z1 =>
 some (Step.next (z1,y5.2.Files))
 else
 some (Step.done (Sum.inr x3))
def Hd (p_:TreePatch) (t_:FileTree):Option (FileTree×Fault) :=
(Dl p_).bind fun y1 =>
 if !(decide (y1.Code=0) && decide (y1.Index=0)) then
 some (({ Files:=[] }:FileTree),y1)
 else
(Qq t_ (-2)).bind fun y2 =>
 if !(decide (y2.Code=0) && decide (y2.Index=0)) then
 some (({ Files:=[] }:FileTree),y2)
 else
(Gf t_).bind fun y3 =>
(Eo (fun s=>Hd.l1 p_ s.1 s.2) (0,y3.Files)).bind fun r1 =>
(match r1 with
| .inl p=>some p
| .inr p=>Hd.j1 p)
def Nu (c_:TreeChange):Option Ac :=
 if decide (c_.Kind=3) then
 some ([c_.Path,c_.To]:Ac)
 else
 some ([c_.Path]:Ac)
def Ck.j1:Option Bool :=
 some false
def Ck.j2 (x1:Int) (x3:Int):Option (Step Int (Bool ⊕ Unit)) :=
 if decide (x3 ≥ 0) then
 some (Step.done (Sum.inl true))
 else
(ckK .i64 (x1+1)).bind fun z1 =>
 some (Step.next z1)
def Ck.j3 (x1:Int):Option (Step Int (Bool ⊕ Unit)) :=
 Ck.j2 x1 (-1)
def Ck.l2 (path:ByteArray) (y2:Ac) (x4:Int):Option (Step Int (Int ⊕ Unit)) :=
 if decide (x4 < (y2.length:Int)) then
(at? y2 x4).bind fun y3 =>
(L7 y3 path).bind fun y4 =>
 if y4 then
 some (Step.done (Sum.inl x4))
 else
(ckK .i64 (x4+1)).bind fun z2 =>
 some (Step.next z2)
 else
 some (Step.done (Sum.inr ()))
def Ck.l1 (path:ByteArray) (changes:Ei) (x1:Int):Option (Step Int (Bool ⊕ Unit)) :=
 if decide (x1 < (changes.length:Int)) then
(at? changes x1).bind fun y1 =>
(Nu y1).bind fun y2 =>
(Eo (fun s=>Ck.l2 path y2 s) 0).bind fun r2 =>
(match r2 with
| .inl p=>Ck.j2 x1 p
| .inr _=>Ck.j3 x1)
 else
 some (Step.done (Sum.inr ()))
def Ck (path:ByteArray) (changes:Ei):Option Bool :=
(Eo (fun s=>Ck.l1 path changes s) 0).bind fun r1 =>
(match r1 with
| .inl p=>some p
| .inr _=>Ck.j1)
def D9.j1:Option Int :=
 some (-1)
def D9.l1 (p_:TreePatch) (path:ByteArray) (x1:Int):Option (Step Int (Int ⊕ Unit)) :=
 if decide (x1 ≥ 0) then
(at? p_.Changes x1).bind fun y1 =>
(Ck path ([y1]:Ei)).bind fun y2 =>
 if y2 then
 some (Step.done (Sum.inl x1))
 else
(ckK .i64 (x1 - 1)).bind fun z2 =>
 some (Step.next z2)
 else
 some (Step.done (Sum.inr ()))
def D9 (p_:TreePatch) (path:ByteArray):Option Int :=
(ckK .i64 ((p_.Changes.length:Int) - 1)).bind fun z1 =>
(Eo (fun s=>D9.l1 p_ path s) z1).bind fun r1 =>
(match r1 with
| .inl p=>some p
| .inr _=>D9.j1)
def Dj.j1 (s_:Ac):Option Ac :=
 some s_
def Dj.j2 (x1:Int):Option (Step Int (Ac ⊕ Unit)) :=
(ckK .i64 (x1+1)).bind fun z1 =>
 some (Step.next z1)
def Dj.j3 (x3:Int) (x4:Ac):Option (Step Int (Ac ⊕ Unit)) :=
(als? x4 x3).bind fun z4 =>
(clr? x4 x3 z4 ByteArray.empty).bind fun y3 =>
(cut? y3 0 x3).bind fun y4 =>
 some (Step.done (Sum.inl y4))
def Dj.j4 (x5:Int) (x9:Int) (x10:Ac):Option (Step (Int×Int×Ac) (Int×Ac)) :=
(ckK .i64 (x5+1)).bind fun z5 =>
 some (Step.next (z5,x9,x10))
def Dj.l2 (x1:Int) (z3:Int) (x5:Int) (x6:Int) (x7:Ac):Option (Step (Int×Int×Ac) (Int×Ac)) :=
 if decide (x5 < z3) then
(atA? x7 x1 z3 x5).bind fun y5 =>
(ckK .i64 (x5 - 1)).bind fun z6 =>
(atA? x7 x1 z3 z6).bind fun y6 =>
 if !decide (y5=y6) then
(atA? x7 x1 z3 x5).bind fun y7 =>
(at? x7 x6).bind fun y8 =>
(some (x7.set x6.toNat y7)).bind fun y9 =>
(ckK .i64 (x6+1)).bind fun z7 =>
 Dj.j4 x5 z7 y9
 else
 Dj.j4 x5 x6 x7
 else
 some (Step.done (x6,x7))
def Dj.l1 (s_:Ac) (x1:Int):Option (Step Int (Ac ⊕ Unit)) :=
 if decide (x1 < (s_.length:Int)) then
(at? s_ x1).bind fun y1 =>
(ckK .i64 (x1 - 1)).bind fun z2 =>
(at? s_ z2).bind fun y2 =>
 if decide (y1=y2) then
(als? s_ x1).bind fun z3 =>
(Eo (fun s=>Dj.l2 x1 z3 s.1 s.2.1 s.2.2) (1,x1,s_)).bind fun r2 =>
 Dj.j3 r2.1 r2.2
 else
 Dj.j2 x1
 else
 some (Step.done (Sum.inr ()))
def Dj (s_:Ac):Option Ac :=
 if decide ((s_.length:Int) < 2) then
 some s_
 else
(Eo (fun s=>Dj.l1 s_ s) 1).bind fun r1 =>
(match r1 with
| .inl p=>some p
| .inr _=>Dj.j1 s_)
def Dd.j1 (x1:Ac):Option Ac :=
(sortS? x1).bind fun y1 =>
(Dj y1).bind fun y2 =>
 some y2
def Dd.j2 (x2:Int) (x5:Ac):Option (Step (Int×Ac) Ac) :=
(ckK .i64 (x2+1)).bind fun z1 =>
 some (Step.next (z1,x5))
def Dd.j3 (x2:Int) (x6:Ac):Option (Step (Int×Ac) Ac) :=
 Dd.j2 x2 x6
def Dd.l2 (y3:FileTree) (x7:Int) (x8:Ac):Option (Step (Int×Ac) Ac) :=
 if decide (x7 < (y3.Files.length:Int)) then
(at? y3.Files x7).bind fun y4 =>
(app? 16 x8 ([y4.Path]:Ac)).bind fun y5 =>
(ckK .i64 (x7+1)).bind fun z2 =>
 some (Step.next (z2,y5))
 else
 some (Step.done x8)
def Dd.l1 (trees:(List FileTree)) (x2:Int) (x3:Ac):Option (Step (Int×Ac) Ac) :=
 if decide (x2 < (trees.length:Int)) then
(at? trees x2).bind fun y3 =>
(Eo (fun s=>Dd.l2 y3 s.1 s.2) (0,x3)).bind fun r2 =>
 Dd.j3 x2 r2
 else
 some (Step.done x3)
def Dd (trees:(List FileTree)):Option Ac :=
(Eo (fun s=>Dd.l1 trees s.1 s.2) (0,[])).bind fun r1 =>
 Dd.j1 r1
def Mr (t_:FileTree) (path:ByteArray):Option Version_treecommute :=
(Es t_.Files path).bind fun y1 =>
 if !y1.2 then
 some ({ is:=false,lines:=[] }:Version_treecommute)
 else
(at? t_.Files y1.1).bind fun y2 =>
 some ({ is:=true,lines:=y2.Lines }:Version_treecommute)
def M7 (a_:Version_treecommute) (b_:Version_treecommute):Option Bool :=
(if decide (a_.is=b_.is) then (H6 a_.lines b_.lines).bind fun y1 =>
 some y1 else some false).bind fun x1 =>
 some x1
def U7 (a_:Ac) (b_:Ac):Option Fault :=
(Gd a_).bind fun y1 =>
 if !(decide (y1.Code=0) && decide (y1.Index=0)) then
 some y1
 else
(Nc b_ (-2)).bind fun y2 =>
 some y2
def Ni (i_:Int) (j:Int) (u2:(List Int)) (u3:Int):Option Int :=
(ckK .i64 (i_ * u3)).bind fun z1 =>
(ckK .i64 (z1+j)).bind fun z2 =>
(at? u2 z2).bind fun y1 =>
 some y1
def Ee.j2 (x2:List Int):Option (List Int) :=
 some x2
def Ee.l1 (a_:Ac) (b_:Ac) (z1:Int) (x1:List Int) (x3:Int) (x4:Int) (x5:List Int):Option (Step (Int×Int×(List Int)) (List Int)) :=
(if decide (x4 < (a_.length:Int)) then some true else some (decide (x3 < (b_.length:Int)))).bind fun x7 =>
 if x7 then
(if decide (x4 < (a_.length:Int)) then some (decide (x3 < (b_.length:Int))) else some false).bind fun x8 =>
(if x8 then (at? a_ x4).bind fun y2 =>
(at? b_ x3).bind fun y3 =>
 some (decide (y2=y3)) else some false).bind fun x9 =>
 if x9 then
(app? 8 x5 ([0]:List Int)).bind fun y4 =>
(ckK .i64 (x4+1)).bind fun z4 =>
(ckK .i64 (x3+1)).bind fun z5 =>
 some (Step.next (z5,z4,y4))
 else
(if decide (x3=(b_.length:Int)) then some true else (if decide (x4 < (a_.length:Int)) then (ckK .i64 (x4+1)).bind fun z6 =>
(Ni z6 x3 x1 z1).bind fun y5 =>
(ckK .i64 (x3+1)).bind fun z7 =>
(Ni x4 z7 x1 z1).bind fun y6 =>
 some (decide (y5 ≥ y6)) else some false).bind fun x11 =>
 some x11).bind fun x10 =>
 if x10 then
(app? 8 x5 ([1]:List Int)).bind fun y7 =>
(ckK .i64 (x4+1)).bind fun z8 =>
 some (Step.next (x3,z8,y7))
 else
(app? 8 x5 ([2]:List Int)).bind fun y8 =>
(ckK .i64 (x3+1)).bind fun z9 =>
 some (Step.next (z9,x4,y8))
 else
 some (Step.done x5)
def Ee.j1 (a_:Ac) (b_:Ac) (z1:Int) (x1:List Int):Option (List Int) :=
(Eo (fun s=>Ee.l1 a_ b_ z1 x1 s.1 s.2.1 s.2.2) (0,0,[])).bind fun r1 =>
 Ee.j2 r1
def Ee.j3 (x12:Int) (x15:List Int):Option (Step (Int×(List Int)) (List Int)) :=
(ckK .i64 (x12 - 1)).bind fun z11 =>
 some (Step.next (z11,x15))
def Ee.j4 (x12:Int) (x16:List Int):Option (Step (Int×(List Int)) (List Int)) :=
 Ee.j3 x12 x16
def Ee.j5 (z1:Int) (x12:Int) (x17:Int) (x18:List Int) (x20:Int):Option (Step (Int×(List Int)) (List Int)) :=
(ckK .i64 (x12 * z1)).bind fun z15 =>
(ckK .i64 (z15+x17)).bind fun z16 =>
(at? x18 z16).bind fun y11 =>
(some (x18.set z16.toNat x20)).bind fun y12 =>
(ckK .i64 (x17 - 1)).bind fun z17 =>
 some (Step.next (z17,y12))
def Ee.l3 (a_:Ac) (b_:Ac) (z1:Int) (x12:Int) (x17:Int) (x18:List Int):Option (Step (Int×(List Int)) (List Int)) :=
 if decide (x17 ≥ 0) then
(ckK .i64 (x12+1)).bind fun z13 =>
(Ni z13 x17 x18 z1).bind fun y9 =>
(ckK .i64 (x17+1)).bind fun z14 =>
(Ni x12 z14 x18 z1).bind fun y10 =>
(at? a_ x12).bind fun y13 =>
(at? b_ x17).bind fun y14 =>
 if decide (y13=y14) then
(ckK .i64 (x12+1)).bind fun z18 =>
(ckK .i64 (x17+1)).bind fun z19 =>
(Ni z18 z19 x18 z1).bind fun y15 =>
(ckK .i64 (y15+1)).bind fun z20 =>
 Ee.j5 z1 x12 x17 x18 z20
 else
 Ee.j5 z1 x12 x17 x18 (max y9 y10)
 else
 some (Step.done x18)
def Ee.l2 (a_:Ac) (b_:Ac) (z1:Int) (x12:Int) (x13:List Int):Option (Step (Int×(List Int)) (List Int)) :=
 if decide (x12 ≥ 0) then
(ckK .i64 ((b_.length:Int) - 1)).bind fun z12 =>
(Eo (fun s=>Ee.l3 a_ b_ z1 x12 s.1 s.2) (z12,x13)).bind fun r3 =>
 Ee.j4 x12 r3
 else
 some (Step.done x13)
def Ee (a_:Ac) (b_:Ac):Option (List Int) :=
(ckK .i64 ((b_.length:Int)+1)).bind fun z1 =>
(ckK .i64 ((a_.length:Int)+1)).bind fun z2 =>
(ckK .i64 (z2 * z1)).bind fun z3 =>
(mk? 8 z3 (0:Int)).bind fun y1 =>
(ckK .i64 ((a_.length:Int) - 1)).bind fun z10 =>
(Eo (fun s=>Ee.l2 a_ b_ z1 s.1 s.2) (z10,y1)).bind fun r2 =>
 Ee.j1 a_ b_ z1 r2
def Nq (c_:Collector_diff) (n_:Int):Option Collector_diff :=
 if decide (n_ > 0) then
(ckK .i64 (c_.at_+n_)).bind fun z1 =>
 some ({ hunks:=c_.hunks,at_:=z1,open_:=false }:Collector_diff)
 else
 some c_
def Hg.j1 (c_:Collector_diff) (line:ByteArray) (x1:Bc) (x2:Bool):Option Collector_diff :=
(ckK .i64 ((x1.length:Int) - 1)).bind fun z1 =>
(at? x1 z1).bind fun y1 =>
(app? 16 y1.Old ([line]:Ac)).bind fun y2 =>
(ckK .i64 (c_.at_+1)).bind fun z2 =>
(some (x1.set z1.toNat ({ At:=y1.At,Old:=y2,New:=y1.New }:Hunk))).bind fun y3 =>
 some ({ hunks:=y3,at_:=z2,open_:=x2 }:Collector_diff)
def Hg (c_:Collector_diff) (line:ByteArray):Option Collector_diff :=
 if !c_.open_ then
(app? 56 c_.hunks ([({ At:=c_.at_,Old:=[],New:=[] }:Hunk)]:Bc)).bind fun y4 =>
 Hg.j1 c_ line y4 true
 else
 Hg.j1 c_ line c_.hunks c_.open_
def Hi.j1 (c_:Collector_diff) (line:ByteArray) (x1:Bc) (x2:Bool):Option Collector_diff :=
(ckK .i64 ((x1.length:Int) - 1)).bind fun z1 =>
(at? x1 z1).bind fun y1 =>
(app? 16 y1.New ([line]:Ac)).bind fun y2 =>
(some (x1.set z1.toNat ({ At:=y1.At,Old:=y1.Old,New:=y2 }:Hunk))).bind fun y3 =>
 some ({ hunks:=y3,at_:=c_.at_,open_:=x2 }:Collector_diff)
def Hi (c_:Collector_diff) (line:ByteArray):Option Collector_diff :=
 if !c_.open_ then
(app? 56 c_.hunks ([({ At:=c_.at_,Old:=[],New:=[] }:Hunk)]:Bc)).bind fun y4 =>
 Hi.j1 c_ line y4 true
 else
 Hi.j1 c_ line c_.hunks c_.open_
def Gk.j1 (x1:Bc) (x2:Int) (x3:Bool):Option (Patch×Fault) :=
 some (({ Hunks:=x1 }:Patch),({ Code:=0,Index:=0 }:Fault))
def Gk.j2 (x4:Int) (x11:Int) (x12:Int) (x13:Bc) (x14:Int) (x15:Bool):Option (Step (Int×Int×Int×Bc×Int×Bool) (Bc×Int×Bool)) :=
(ckK .i64 (x4+1)).bind fun z1 =>
 some (Step.next (z1,x11,x12,x13,x14,x15))
def Gk.l1 (a_:Ac) (b_:Ac) (y2:(List Int)) (x4:Int) (x5:Int) (x6:Int) (x7:Bc) (x8:Int) (x9:Bool):Option (Step (Int×Int×Int×Bc×Int×Bool) (Bc×Int×Bool)) :=
 if decide (x4 < (y2.length:Int)) then
(at? y2 x4).bind fun y3 =>
 if decide (y3=0) then
(Nq ({ hunks:=x7,at_:=x8,open_:=x9 }:Collector_diff) 1).bind fun y4 =>
(ckK .i64 (x6+1)).bind fun z2 =>
(ckK .i64 (x5+1)).bind fun z3 =>
 Gk.j2 x4 z3 z2 y4.hunks y4.at_ y4.open_
 else
 if decide (y3=1) then
(at? a_ x6).bind fun y5 =>
(Hg ({ hunks:=x7,at_:=x8,open_:=x9 }:Collector_diff) y5).bind fun y6 =>
(ckK .i64 (x6+1)).bind fun z4 =>
 Gk.j2 x4 x5 z4 y6.hunks y6.at_ y6.open_
 else
(at? b_ x5).bind fun y7 =>
(Hi ({ hunks:=x7,at_:=x8,open_:=x9 }:Collector_diff) y7).bind fun y8 =>
(ckK .i64 (x5+1)).bind fun z5 =>
 Gk.j2 x4 z5 x6 y8.hunks y8.at_ y8.open_
 else
 some (Step.done (x7,x8,x9))
def Gk (a_:Ac) (b_:Ac):Option (Patch×Fault) :=
(U7 a_ b_).bind fun y1 =>
 if !(decide (y1.Code=0) && decide (y1.Index=0)) then
 some (({ Hunks:=[] }:Patch),y1)
 else
(Ee a_ b_).bind fun y2 =>
(Eo (fun s=>Gk.l1 a_ b_ y2 s.1 s.2.1 s.2.2.1 s.2.2.2.1 s.2.2.2.2.1 s.2.2.2.2.2) (0,0,0,[],0,false)).bind fun r1 =>
 Gk.j1 r1.1 r1.2.1 r1.2.2
def Qs (h_:Hunk):Option Int :=
(ckK .i64 ((h_.New.length:Int) - (h_.Old.length:Int))).bind fun z1 =>
 some z1
def Gu.j1 (x1:H7):Option H7 :=
 some x1
def Gu.l1 (p_:Patch) (x2:Int) (x3:H7):Option (Step (Int×H7) H7) :=
 if decide (x2 < (p_.Hunks.length:Int)) then
(at? p_.Hunks x2).bind fun y1 =>
(Nd y1).bind fun y2 =>
(Qs y1).bind fun y3 =>
(app? 24 x3 ([({ Low:=y1.At,High:=y2,Growth:=y3 }:Range_commute)]:H7)).bind fun y4 =>
(ckK .i64 (x2+1)).bind fun z1 =>
 some (Step.next (z1,y4))
 else
 some (Step.done x3)
def Gu (p_:Patch):Option H7 :=
(Eo (fun s=>Gu.l1 p_ s.1 s.2) (0,[])).bind fun r1 =>
 Gu.j1 r1
def Hh (a_:RangeX_commute) (b_:RangeX_commute):Option Int :=
 if !decide (a_.Low=b_.Low) then
(ckK .i64 (a_.Low - b_.Low)).bind fun z1 =>
 some z1
 else
(ckK .i64 (a_.High - b_.High)).bind fun z2 =>
 some z2
def Tf (a_:RangeX_commute) (b_:RangeX_commute):Option Bool :=
(if decide (a_.High ≥ b_.Low) then some (decide (b_.High ≥ a_.Low)) else some false).bind fun x1 =>
 some x1
def Gl.j1 (x1:Gs):Option Gs :=
 some x1
def Gl.j2 (x2:Int) (x5:Gs):Option (Step (Int×Gs) Gs) :=
(ckK .i64 (x2+1)).bind fun z1 =>
 some (Step.next (z1,x5))
def Gl.l1 (y4:Gs) (x2:Int) (x3:Gs):Option (Step (Int×Gs) Gs) :=
 if decide (x2 < (y4.length:Int)) then
(at? y4 x2).bind fun y5 =>
(if decide ((x3.length:Int) > 0) then (ckK .i64 ((x3.length:Int) - 1)).bind fun z2 =>
(at? x3 z2).bind fun y6 =>
(Tf y6 y5).bind fun y7 =>
 some y7 else some false).bind fun x6 =>
 if x6 then
(ckK .i64 ((x3.length:Int) - 1)).bind fun z3 =>
(ckK .i64 ((x3.length:Int) - 1)).bind fun z4 =>
(at? x3 z4).bind fun y8 =>
(at? x3 z3).bind fun y9 =>
(some (x3.set z3.toNat ({ Low:=y9.Low,High:=max y8.High y5.High,Growth:=y9.Growth }:RangeX_commute))).bind fun y10 =>
 Gl.j2 x2 y10
 else
(app? 24 x3 ([y5]:Gs)).bind fun y11 =>
 Gl.j2 x2 y11
 else
 some (Step.done x3)
def Gl (p_:Patch) (q_:Patch):Option Gs :=
(Gu p_).bind fun y1 =>
(Gu q_).bind fun y2 =>
(app? 24 (y1.map Ns) (y2.map Ns)).bind fun y3 =>
(sortM Hh y3).bind fun y4 =>
(Eo (fun s=>Gl.l1 y4 s.1 s.2) (0,[])).bind fun r1 =>
 Gl.j1 r1
def Gw.j1 (l_:Ac) (x1:B0):Option Merger_merge3 :=
(ckK .i64 ((x1.length:Int) - 1)).bind fun z1 =>
(at? x1 z1).bind fun y1 =>
(app? 16 y1.Lines l_).bind fun y2 =>
(some (x1.set z1.toNat ({ Conflict:=y1.Conflict,Lines:=y2,Base:=y1.Base,Left:=y1.Left,Right:=y1.Right }:Chunk))).bind fun y3 =>
 some ({ out:=y3 }:Merger_merge3)
def Gw (m_:Merger_merge3) (l_:Ac):Option Merger_merge3 :=
 if decide ((l_.length:Int)=0) then
 some m_
 else
(if decide ((m_.out.length:Int)=0) then some true else (ckK .i64 ((m_.out.length:Int) - 1)).bind fun z2 =>
(at? m_.out z2).bind fun y4 =>
 some y4.Conflict).bind fun x2 =>
 if x2 then
(app? 104 m_.out ([({ Conflict:=false,Lines:=[],Base:=[],Left:=[],Right:=[] }:Chunk)]:B0)).bind fun y5 =>
 Gw.j1 l_ y5
 else
 Gw.j1 l_ m_.out
def G6.j1 (x1:Bc):Option Bc :=
 some x1
def G6.j2 (x2:Int) (x5:Bc):Option (Step (Int×Bc) Bc) :=
(ckK .i64 (x2+1)).bind fun z1 =>
 some (Step.next (z1,x5))
def G6.l1 (p_:Patch) (r_:RangeX_commute) (x2:Int) (x3:Bc):Option (Step (Int×Bc) Bc) :=
 if decide (x2 < (p_.Hunks.length:Int)) then
(at? p_.Hunks x2).bind fun y1 =>
(if decide (y1.At ≥ r_.Low) then (Nd y1).bind fun y2 =>
 some (decide (y2≤r_.High)) else some false).bind fun x6 =>
 if x6 then
(app? 56 x3 ([y1]:Bc)).bind fun y3 =>
 G6.j2 x2 y3
 else
 G6.j2 x2 x3
 else
 some (Step.done x3)
def G6 (p_:Patch) (r_:RangeX_commute):Option Bc :=
(Eo (fun s=>G6.l1 p_ r_ s.1 s.2) (0,[])).bind fun r1 =>
 G6.j1 r1
def Gj.j1 (base:Ac) (x1:Int) (x2:B0):Option (B0×Fault) :=
(cut? base x1 (base.length:Int)).bind fun y5 =>
(Gw ({ out:=x2 }:Merger_merge3) y5).bind fun y6 =>
 some (y6.out,({ Code:=0,Index:=0 }:Fault))
def Gj.j2 (x3:Int) (x7:Int) (x8:B0):Option (Step (Int×Int×B0) (Int×B0)) :=
(ckK .i64 (x3+1)).bind fun z1 =>
 some (Step.next (z1,x7,x8))
def Gj.l1 (base:Ac) (y3:Patch×Fault) (y4:Patch×Fault) (y7:Gs) (x3:Int) (x4:Int) (x5:B0):Option (Step (Int×Int×B0) (Int×B0)) :=
 if decide (x3 < (y7.length:Int)) then
(at? y7 x3).bind fun y8 =>
(cut? base x4 y8.Low).bind fun y9 =>
(Gw ({ out:=x5 }:Merger_merge3) y9).bind fun y10 =>
(G6 y3.1 y8).bind fun y11 =>
(G6 y4.1 y8).bind fun y12 =>
(Ez y11 base y8.Low y8.High).bind fun y13 =>
(Ez y12 base y8.Low y8.High).bind fun y14 =>
(if decide ((y12.length:Int)=0) then some true else (H6 y13 y14).bind fun y15 =>
 some y15).bind fun x9 =>
 if x9 then
(Gw y10 y13).bind fun y16 =>
 Gj.j2 x3 y8.High y16.out
 else
 if decide ((y11.length:Int)=0) then
(Gw y10 y14).bind fun y17 =>
 Gj.j2 x3 y8.High y17.out
 else
(cut? base y8.Low y8.High).bind fun y18 =>
(Nf y18).bind fun y19 =>
(app? 104 y10.out ([({ Conflict:=true,Lines:=[],Base:=y19,Left:=y13,Right:=y14 }:Chunk)]:B0)).bind fun y20 =>
 Gj.j2 x3 y8.High y20
 else
 some (Step.done (x4,x5))
def Gj (base:Ac) (left:Ac) (right:Ac):Option (B0×Fault) :=
(U7 base left).bind fun y1 =>
 if !(decide (y1.Code=0) && decide (y1.Index=0)) then
 some ([],y1)
 else
(Nc right (-3)).bind fun y2 =>
 if !(decide (y2.Code=0) && decide (y2.Index=0)) then
 some ([],y2)
 else
(Gk base left).bind fun y3 =>
(Gk base right).bind fun y4 =>
(Gl y3.1 y4.1).bind fun y7 =>
(Eo (fun s=>Gj.l1 base y3 y4 y7 s.1 s.2.1 s.2.2) (0,0,[])).bind fun r1 =>
 Gj.j1 base r1.1 r1.2
def Di.j1:Option Fault :=
 some ({ Code:=0,Index:=0 }:Fault)
def Di.j2 (x1:Int):Option (Step Int (Fault ⊕ Unit)) :=
(ckK .i64 (x1+1)).bind fun z1 =>
 some (Step.next z1)
def Di.j3 (x1:Int) (y1:Chunk):Option (Step Int (Fault ⊕ Unit)) :=
(ckK .i64 ((y1.Base.length:Int)+(y1.Left.length:Int))).bind fun z2 =>
(ckK .i64 (z2+(y1.Right.length:Int))).bind fun z3 =>
(if y1.Conflict then some (decide ((y1.Lines.length:Int) > 0)) else some false).bind fun x3 =>
(if x3 then some true else (if !y1.Conflict then (if decide ((y1.Lines.length:Int)=0) then some true else some (decide (z3 > 0))).bind fun x6 =>
 some x6 else some false).bind fun x5 =>
 some x5).bind fun x4 =>
 if x4 then
 some (Step.done (Sum.inl ({ Code:=5,Index:=x1 }:Fault)))
 else
 Di.j2 x1
def Di.l2 (x1:Int) (y1:Chunk) (x7:Int):Option (Step Int (Fault ⊕ Unit)) :=
 if decide (x7 < 4) then
(at? ([y1.Lines,y1.Base,y1.Left,y1.Right]:List Ac) x7).bind fun y2 =>
(Nc y2 x1).bind fun y3 =>
 if !(decide (y3.Code=0) && decide (y3.Index=0)) then
 some (Step.done (Sum.inl y3))
 else
(ckK .i64 (x7+1)).bind fun z4 =>
 some (Step.next z4)
 else
 some (Step.done (Sum.inr ()))
def Di.l1 (chunks:B0) (x1:Int):Option (Step Int (Fault ⊕ Unit)) :=
 if decide (x1 < (chunks.length:Int)) then
(at? chunks x1).bind fun y1 =>
(Eo (fun s=>Di.l2 x1 y1 s) 0).bind fun r2 =>
(match r2 with
| .inl p=>some (Step.done (Sum.inl p))
| .inr _=>Di.j3 x1 y1)
 else
 some (Step.done (Sum.inr ()))
def Di (chunks:B0):Option Fault :=
 if decide ((chunks.length:Int) > 240) then
 some ({ Code:=2,Index:=(-1) }:Fault)
 else
(Eo (fun s=>Di.l1 chunks s) 0).bind fun r1 =>
(match r1 with
| .inl p=>some p
| .inr _=>Di.j1)
def Vv (l_:Ac):Option (Ac×Fault) :=
 if decide ((l_.length:Int) > 120) then
 some ([],({ Code:=10,Index:=(-1) }:Fault))
 else
 some (l_,({ Code:=0,Index:=0 }:Fault))
def Gv.j1 (x1:Ac):Option (Ac×Bool×Fault) :=
(Vv x1).bind fun y2 =>
 some (y2.1,decide (y2.2.Code=0) && decide (y2.2.Index=0),y2.2)
def Gv.l1 (chunks:B0) (x2:Int) (x3:Ac):Option (Step (Int×Ac) ((Ac×Bool×Fault) ⊕ Ac)) :=
 if decide (x2 < (chunks.length:Int)) then
(at? chunks x2).bind fun y3 =>
 if y3.Conflict then
 some (Step.done (Sum.inl ([],false,({ Code:=0,Index:=0 }:Fault))))
 else
(app? 16 x3 y3.Lines).bind fun y4 =>
(ckK .i64 (x2+1)).bind fun z1 =>
 some (Step.next (z1,y4))
 else
 some (Step.done (Sum.inr x3))
def Gv (chunks:B0):Option (Ac×Bool×Fault) :=
(Di chunks).bind fun y1 =>
 if !(decide (y1.Code=0) && decide (y1.Index=0)) then
 some ([],false,y1)
 else
(Eo (fun s=>Gv.l1 chunks s.1 s.2) (0,[])).bind fun r1 =>
(match r1 with
| .inl p=>some p
| .inr p=>Gv.j1 p)
def Kw.j1 (left:Version_treecommute):Option (Version_treecommute×Bool) :=
 some (left,false)
def Kw (base:Version_treecommute) (left:Version_treecommute) (right:Version_treecommute):Option (Version_treecommute×Bool) :=
(M7 right base).bind fun y1 =>
(if y1 then some true else (M7 right left).bind fun y2 =>
 some y2).bind fun x1 =>
 if x1 then
 some (left,true)
 else
(M7 left base).bind fun y3 =>
 if y3 then
 some (right,true)
 else
(if base.is then some left.is else some false).bind fun x2 =>
(if x2 then some right.is else some false).bind fun x3 =>
 if x3 then
(Gj base.lines left.lines right.lines).bind fun y4 =>
 if decide (y4.2.Code=0) && decide (y4.2.Index=0) then
(Gv y4.1).bind fun y5 =>
(if y5.2.1 then some (decide (y5.2.2.Code=0) && decide (y5.2.2.Index=0)) else some false).bind fun x4 =>
 if x4 then
 some (({ is:=true,lines:=y5.1 }:Version_treecommute),true)
 else
 Kw.j1 left
 else
 Kw.j1 left
 else
 Kw.j1 left
def A8.j3 (x1:Bp) (x6:Bp) (x7:Ai):Option (FileTree×Bp×Fault) :=
 if decide ((x7.length:Int) > 24) then
 some (({ Files:=[] }:FileTree),[],({ Code:=10,Index:=(-1) }:Fault))
 else
(app? 16 x1 x6).bind fun y4 =>
 some (({ Files:=x7 }:FileTree),y4,({ Code:=0,Index:=0 }:Fault))
def A8.j4 (x8:Int) (x12:Bp) (x13:Ai):Option (Step (Int×Bp×Ai) (Bp×Ai)) :=
(ckK .i64 (x8+1)).bind fun z1 =>
 some (Step.next (z1,x12,x13))
def A8.l1 (left:TreePatch) (right:TreePatch) (x2:Ai) (x5:Ai) (x8:Int) (x9:Bp) (x10:Ai):Option (Step (Int×Bp×Ai) (Bp×Ai)) :=
 if decide (x8 < (x2.length:Int)) then
(at? x2 x8).bind fun y5 =>
(E2 x5 y5.Path (-1)).bind fun y6 =>
 if y6 then
(D9 left y5.Path).bind fun y7 =>
(D9 right y5.Path).bind fun y8 =>
(app? 16 x9 ([({ e0:=y7,e1:=y8 }:Arr2_Int)]:Bp)).bind fun y9 =>
 A8.j4 x8 y9 x10
 else
(Ku ({ Files:=x10 }:FileTree) y5.Path y5.Lines).bind fun y10 =>
 A8.j4 x8 x9 y10.Files
 else
 some (Step.done (x9,x10))
def A8.j2 (left:TreePatch) (right:TreePatch) (x1:Bp) (x2:Ai) (x3:Ai) (x5:Ai):Option (FileTree×Bp×Fault) :=
(Eo (fun s=>A8.l1 left right x2 x5 s.1 s.2.1 s.2.2) (0,[],x3)).bind fun r1 =>
 A8.j3 x1 r1.1 r1.2
def A8.j5 (x14:Int) (x17:Ai):Option (Step (Int×Ai) Ai) :=
(ckK .i64 (x14+1)).bind fun z2 =>
 some (Step.next (z2,x17))
def A8.l2 (x3:Ai) (x4:Ai) (x14:Int) (x15:Ai):Option (Step (Int×Ai) Ai) :=
 if decide (x14 < (x3.length:Int)) then
(at? x3 x14).bind fun y11 =>
(Mr ({ Files:=x4 }:FileTree) y11.Path).bind fun y12 =>
 if !y12.is then
(app? 40 x15 ([y11]:Ai)).bind fun y13 =>
 A8.j5 x14 y13
 else
 A8.j5 x14 x15
 else
 some (Step.done x15)
def A8.j1 (left:TreePatch) (right:TreePatch) (x1:Bp) (x2:Ai) (x3:Ai) (x4:Ai):Option (FileTree×Bp×Fault) :=
(Eo (fun s=>A8.l2 x3 x4 s.1 s.2) (0,[])).bind fun r2 =>
 A8.j2 left right x1 x2 x3 r2
def A8.j6 (x18:Int) (x23:Bp) (x24:Ai) (x25:Ai):Option (Step (Int×Bp×Ai×Ai) (Bp×Ai×Ai×Ai)) :=
(ckK .i64 (x18+1)).bind fun z3 =>
 some (Step.next (z3,x23,x24,x25))
def A8.j8 (x18:Int) (x20:Ai) (x21:Ai) (y15:ByteArray) (y16:Version_treecommute) (y19:Version_treecommute×Bool) (x27:Bp):Option (Step (Int×Bp×Ai×Ai) (Bp×Ai×Ai×Ai)) :=
(if y19.1.is then some y16.is else some false).bind fun x28 =>
 if x28 then
(Ku ({ Files:=x21 }:FileTree) y15 y19.1.lines).bind fun y20 =>
 A8.j6 x18 x27 x20 y20.Files
 else
 if y19.1.is then
(Ku ({ Files:=x20 }:FileTree) y15 y19.1.lines).bind fun y21 =>
 A8.j6 x18 x27 y21.Files x21
 else
 A8.j6 x18 x27 x20 x21
def A8.j7 (left:TreePatch) (right:TreePatch) (x18:Int) (x19:Bp) (x20:Ai) (x21:Ai) (y15:ByteArray) (y16:Version_treecommute) (y19:Version_treecommute×Bool):Option (Step (Int×Bp×Ai×Ai) (Bp×Ai×Ai×Ai)) :=
 if !y19.2 then
(D9 left y15).bind fun y22 =>
(D9 right y15).bind fun y23 =>
(app? 16 x19 ([({ e0:=y22,e1:=y23 }:Arr2_Int)]:Bp)).bind fun y24 =>
 A8.j8 x18 x20 x21 y15 y16 y19 y24
 else
 A8.j8 x18 x20 x21 y15 y16 y19 x19
def A8.l3 (base:FileTree) (left:TreePatch) (right:TreePatch) (y2:FileTree×Fault) (y3:FileTree×Fault) (y14:Ac) (x18:Int) (x19:Bp) (x20:Ai) (x21:Ai):Option (Step (Int×Bp×Ai×Ai) (Bp×Ai×Ai×Ai)) :=
 if decide (x18 < (y14.length:Int)) then
(at? y14 x18).bind fun y15 =>
(Mr y2.1 y15).bind fun y16 =>
(Mr base y15).bind fun y17 =>
(Mr y3.1 y15).bind fun y18 =>
(Kw y17 y16 y18).bind fun y19 =>
 A8.j7 left right x18 x19 x20 x21 y15 y16 y19
 else
 some (Step.done (x19,x20,x21,y3.1.Files))
def A8 (base:FileTree) (left:TreePatch) (right:TreePatch):Option (FileTree×Bp×Fault) :=
(G3 base).bind fun y1 =>
 if !(decide (y1.Code=0) && decide (y1.Index=0)) then
 some (({ Files:=[] }:FileTree),[],y1)
 else
(Hd left base).bind fun y2 =>
 if !(decide (y2.2.Code=0) && decide (y2.2.Index=0)) then
 some (({ Files:=[] }:FileTree),[],({ Code:=y2.2.Code,Index:=(-2) }:Fault))
 else
(Hd right base).bind fun y3 =>
 if !(decide (y3.2.Code=0) && decide (y3.2.Index=0)) then
 some (({ Files:=[] }:FileTree),[],({ Code:=y3.2.Code,Index:=(-3) }:Fault))
 else
(Dd ([base,y2.1,y3.1]:List FileTree)).bind fun y14 =>
(Eo (fun s=>A8.l3 base left right y2 y3 y14 s.1 s.2.1 s.2.2.1 s.2.2.2) (0,[],[],[])).bind fun r3 =>
 A8.j1 left right r3.1 r3.2.1 r3.2.2.1 r3.2.2.2
def B7 (code:Int) (index:Int):Option Fault :=
 some ({ Code:=code,Index:=index }:Fault)
def Cs.body (rec_:ByteArray→ByteArray→Option Bool) (a_:ByteArray) (b_:ByteArray):Option Bool :=
 if decide ((a_.size:Int) > (b_.size:Int)) then
(rec_ b_ a_).bind fun y1 =>
 some y1
 else
(scut? b_ 0 (a_.size:Int)).bind fun y2 =>
(if decide (y2=a_) then (if decide ((a_.size:Int)=(b_.size:Int)) then some true else (sAt? b_ (a_.size:Int)).bind fun y3 =>
 some (decide (y3=47))).bind fun x2 =>
 some x2 else some false).bind fun x1 =>
 some x1
def Cs.m:Nat→ByteArray→ByteArray→Option Bool
| 0=>fun _ _=>Option.none
| k+1=>Cs.body (Cs.m k)
def Cs (a_:ByteArray) (b_:ByteArray):Option Bool:=Cs.m (2) a_ b_
def Nl (c_:Int):Option Bool :=
(if decide (c_ ≥ 97) then some (decide (c_≤122)) else some false).bind fun x1 =>
(if x1 then some true else (if decide (c_ ≥ 65) then some (decide (c_≤90)) else some false).bind fun x3 =>
 some x3).bind fun x2 =>
(if x2 then some true else (if decide (c_ ≥ 48) then some (decide (c_≤57)) else some false).bind fun x5 =>
 some x5).bind fun x4 =>
(if x4 then some true else some (decide (c_=46))).bind fun x6 =>
(if x6 then some true else some (decide (c_=95))).bind fun x7 =>
(if x7 then some true else some (decide (c_=45))).bind fun x8 =>
 some x8
def B4.j1:Option Bool :=
 some true
def B4.j2 (x1:Int) (x4:Int):Option (Step (Int×Int) (Bool ⊕ Unit)) :=
(ckK .i64 (x1 - 1)).bind fun z2 =>
 some (Step.next (z2,x4))
def B4.l1 (s_:ByteArray) (x1:Int) (x2:Int):Option (Step (Int×Int) (Bool ⊕ Unit)) :=
 if decide (x1 ≥ (-1)) then
(if decide (x1 ≥ 0) then (sAt? s_ x1).bind fun y1 =>
 some (!decide (y1=47)) else some false).bind fun x5 =>
 if x5 then
(sAt? s_ x1).bind fun y2 =>
(Nl y2).bind fun y3 =>
 if !y3 then
 some (Step.done (Sum.inl false))
 else
 B4.j2 x1 x2
 else
(ckK .i64 (x1+1)).bind fun z3 =>
(scut? s_ z3 x2).bind fun y4 =>
(if decide (y4=(⟨#[]⟩:ByteArray)) then some true else some (decide (y4=(⟨#[46]⟩:ByteArray)))).bind fun x6 =>
(if x6 then some true else some (decide (y4=(⟨#[46,46]⟩:ByteArray)))).bind fun x7 =>
 if x7 then
 some (Step.done (Sum.inl false))
 else
 B4.j2 x1 x1
 else
 some (Step.done (Sum.inr ()))
def B4 (s_:ByteArray):Option Bool :=
 if decide ((s_.size:Int) > 60) then
 some false
 else
(ckK .i64 ((s_.size:Int) - 1)).bind fun z1 =>
(Eo (fun s=>B4.l1 s_ s.1 s.2) (z1,(s_.size:Int))).bind fun r1 =>
(match r1 with
| .inl p=>some p
| .inr _=>B4.j1)
def Bq.j1:Option Fault :=
 some ({ Code:=0,Index:=0 }:Fault)
def Bq.j2 (x1:Int):Option (Step Int (Fault ⊕ Unit)) :=
(ckK .i64 (x1+1)).bind fun z1 =>
 some (Step.next z1)
def Bq.j3 (x1:Int):Option (Step Int (Fault ⊕ Unit)) :=
 Bq.j2 x1
def Bq.l2 (l_:Ac) (x1:Int) (x3:Int):Option (Step Int (Fault ⊕ Unit)) :=
(at? l_ x1).bind fun y4 =>
 if decide (x3 < (y4.size:Int)) then
(at? l_ x1).bind fun y5 =>
(sAt? y5 x3).bind fun y6 =>
 if decide (y6=10) then
(B7 5 x1).bind fun y7 =>
 some (Step.done (Sum.inl y7))
 else
(ckK .i64 (x3+1)).bind fun z2 =>
 some (Step.next z2)
 else
 some (Step.done (Sum.inr ()))
def Bq.l1 (l_:Ac) (x1:Int):Option (Step Int (Fault ⊕ Unit)) :=
 if decide (x1 < (l_.length:Int)) then
(at? l_ x1).bind fun y2 =>
 if decide ((y2.size:Int) > 80) then
(B7 2 x1).bind fun y3 =>
 some (Step.done (Sum.inl y3))
 else
(Eo (fun s=>Bq.l2 l_ x1 s) 0).bind fun r2 =>
(match r2 with
| .inl p=>some (Step.done (Sum.inl p))
| .inr _=>Bq.j3 x1)
 else
 some (Step.done (Sum.inr ()))
def Bq (l_:Ac):Option Fault :=
 if decide ((l_.length:Int) > 120) then
(B7 2 (-1)).bind fun y1 =>
 some y1
 else
(Eo (fun s=>Bq.l1 l_ s) 0).bind fun r1 =>
(match r1 with
| .inl p=>some p
| .inr _=>Bq.j1)
def Ea (l_:Ac):Option Int :=
(Bq l_).bind fun y1 =>
 some y1.Code
def B3.j1:Option Fault :=
 some ({ Code:=0,Index:=0 }:Fault)
def B3.j2 (x1:Int):Option (Step Int (Fault ⊕ Unit)) :=
(ckK .i64 (x1+1)).bind fun z1 =>
 some (Step.next z1)
def B3.j3 (x1:Int) (y2:File):Option (Step Int (Fault ⊕ Unit)) :=
(Ea y2.Lines).bind fun y7 =>
 if !decide (y7=0) then
(B7 y7 x1).bind fun y8 =>
 some (Step.done (Sum.inl y8))
 else
 B3.j2 x1
def B3.l2 (t_:FileTree) (x1:Int) (y2:File) (x4:Int):Option (Step Int (Fault ⊕ Unit)) :=
 if decide (x4 < x1) then
(at? t_.Files x4).bind fun y9 =>
(Cs y9.Path y2.Path).bind fun y10 =>
 if y10 then
(B7 7 x1).bind fun y11 =>
 some (Step.done (Sum.inl y11))
 else
(ckK .i64 (x4+1)).bind fun z3 =>
 some (Step.next z3)
 else
 some (Step.done (Sum.inr ()))
def B3.l1 (t_:FileTree) (x1:Int):Option (Step Int (Fault ⊕ Unit)) :=
 if decide (x1 < (t_.Files.length:Int)) then
(at? t_.Files x1).bind fun y2 =>
(B4 y2.Path).bind fun y3 =>
 if !y3 then
(B7 12 x1).bind fun y4 =>
 some (Step.done (Sum.inl y4))
 else
(if decide (x1 > 0) then (ckK .i64 (x1 - 1)).bind fun z2 =>
(at? t_.Files z2).bind fun y5 =>
 some (sLt y2.Path y5.Path || decide (y2.Path=y5.Path)) else some false).bind fun x3 =>
 if x3 then
(B7 5 x1).bind fun y6 =>
 some (Step.done (Sum.inl y6))
 else
(Eo (fun s=>B3.l2 t_ x1 y2 s) 0).bind fun r2 =>
(match r2 with
| .inl p=>some (Step.done (Sum.inl p))
| .inr _=>B3.j3 x1 y2)
 else
 some (Step.done (Sum.inr ()))
def B3 (t_:FileTree):Option Fault :=
 if decide ((t_.Files.length:Int) > 24) then
(B7 2 (-1)).bind fun y1 =>
 some y1
 else
(Eo (fun s=>B3.l1 t_ s) 0).bind fun r1 =>
(match r1 with
| .inl p=>some p
| .inr _=>B3.j1)
def G4 (h_:Hunk):Option Int :=
(ckK .i64 (h_.At+(h_.Old.length:Int))).bind fun z1 =>
 some z1
def Dr.j1:Option Fault :=
 some ({ Code:=0,Index:=0 }:Fault)
def Dr.l1 (p_:Patch) (x1:Int):Option (Step Int (Fault ⊕ Unit)) :=
 if decide (x1 < (p_.Hunks.length:Int)) then
(at? p_.Hunks x1).bind fun y2 =>
(if decide (y2.At < 0) then some true else some (decide (y2.At > 120))).bind fun x3 =>
 if x3 then
(B7 3 x1).bind fun y3 =>
 some (Step.done (Sum.inl y3))
 else
(Ea y2.Old).bind fun y4 =>
 if !decide (y4=0) then
(B7 y4 x1).bind fun y5 =>
 some (Step.done (Sum.inl y5))
 else
(Ea y2.New).bind fun y6 =>
 if !decide (y6=0) then
(B7 y6 x1).bind fun y7 =>
 some (Step.done (Sum.inl y7))
 else
(ckK .i64 ((y2.Old.length:Int)+(y2.New.length:Int))).bind fun z1 =>
(if decide (z1=0) then some true else (if decide (x1 > 0) then (ckK .i64 (x1 - 1)).bind fun z2 =>
(at? p_.Hunks z2).bind fun y8 =>
(G4 y8).bind fun y9 =>
 some (decide (y2.At≤y9)) else some false).bind fun x5 =>
 some x5).bind fun x4 =>
 if x4 then
(B7 5 x1).bind fun y10 =>
 some (Step.done (Sum.inl y10))
 else
(G4 y2).bind fun y11 =>
 if decide (y11 > 120) then
(B7 3 x1).bind fun y12 =>
 some (Step.done (Sum.inl y12))
 else
(ckK .i64 (x1+1)).bind fun z3 =>
 some (Step.next z3)
 else
 some (Step.done (Sum.inr ()))
def Dr (p_:Patch):Option Fault :=
 if decide ((p_.Hunks.length:Int) > 130) then
(B7 2 (-1)).bind fun y1 =>
 some y1
 else
(Eo (fun s=>Dr.l1 p_ s) 0).bind fun r1 =>
(match r1 with
| .inl p=>some p
| .inr _=>Dr.j1)
def Lw (c_:TreeChange):Option Int :=
(if !(decide (c_.Kind=1)) then some (!(decide (c_.Kind=2))) else some false).bind fun x1 =>
(if x1 then some (!(decide (c_.Kind=3))) else some false).bind fun x2 =>
(if x2 then some (!(decide (c_.Kind=4))) else some false).bind fun x3 =>
 if x3 then
 some 4
 else
(B4 c_.Path).bind fun y1 =>
(if !y1 then some true else (if decide (c_.Kind=3) then (B4 c_.To).bind fun y2 =>
 some !y2 else some false).bind fun x5 =>
 some x5).bind fun x4 =>
 if x4 then
 some 12
 else
(if !(decide (c_.Kind=3)) then some (!decide (c_.To=(⟨#[]⟩:ByteArray))) else some false).bind fun x6 =>
(if x6 then some true else (if decide (c_.Kind=3) then (Cs c_.Path c_.To).bind fun y3 =>
 some y3 else some false).bind fun x8 =>
 some x8).bind fun x7 =>
(if x7 then some true else (if !(decide (c_.Kind=1)) then some (!(decide (c_.Kind=2))) else some false).bind fun x10 =>
(if x10 then some (decide ((c_.Lines.length:Int) > 0)) else some false).bind fun x11 =>
 some x11).bind fun x9 =>
(if x9 then some true else (if decide (c_.Kind=4) then some (decide ((c_.Patch.Hunks.length:Int)=0)) else some false).bind fun x13 =>
 some x13).bind fun x12 =>
(if x12 then some true else (if !(decide (c_.Kind=4)) then some (decide ((c_.Patch.Hunks.length:Int) > 0)) else some false).bind fun x15 =>
 some x15).bind fun x14 =>
 if x14 then
 some 5
 else
(Ea c_.Lines).bind fun y4 =>
 if !decide (y4=0) then
 some y4
 else
(Dr c_.Patch).bind fun y5 =>
 some y5.Code
def Dy.j1:Option Fault :=
 some ({ Code:=0,Index:=0 }:Fault)
def Dy.l1 (p_:TreePatch) (x1:Int):Option (Step Int (Fault ⊕ Unit)) :=
 if decide (x1 < (p_.Changes.length:Int)) then
(at? p_.Changes x1).bind fun y2 =>
(Lw y2).bind fun y3 =>
 if !decide (y3=0) then
(B7 y3 x1).bind fun y4 =>
 some (Step.done (Sum.inl y4))
 else
(ckK .i64 (x1+1)).bind fun z1 =>
 some (Step.next z1)
 else
 some (Step.done (Sum.inr ()))
def Dy (p_:TreePatch):Option Fault :=
 if decide ((p_.Changes.length:Int) > 30) then
(B7 2 (-1)).bind fun y1 =>
 some y1
 else
(Eo (fun s=>Dy.l1 p_ s) 0).bind fun r1 =>
(match r1 with
| .inl p=>some p
| .inr _=>Dy.j1)
def Co.j1:Option Int :=
 some (-1)
def Co.l1 (t_:FileTree) (path:ByteArray) (x1:Int):Option (Step Int (Int ⊕ Unit)) :=
 if decide (x1 < (t_.Files.length:Int)) then
(at? t_.Files x1).bind fun y1 =>
 if decide (y1.Path=path) then
 some (Step.done (Sum.inl x1))
 else
(ckK .i64 (x1+1)).bind fun z1 =>
 some (Step.next z1)
 else
 some (Step.done (Sum.inr ()))
def Co (t_:FileTree) (path:ByteArray):Option Int :=
(Eo (fun s=>Co.l1 t_ path s) 0).bind fun r1 =>
(match r1 with
| .inl p=>some p
| .inr _=>Co.j1)
def D6.j1:Option Bool :=
 some true
def D6.l1 (a_:Ac) (b_:Ac) (x1:Int):Option (Step Int (Bool ⊕ Unit)) :=
 if decide (x1 < (a_.length:Int)) then
(at? a_ x1).bind fun y1 =>
(at? b_ x1).bind fun y2 =>
 if !decide (y1=y2) then
 some (Step.done (Sum.inl false))
 else
(ckK .i64 (x1+1)).bind fun z1 =>
 some (Step.next z1)
 else
 some (Step.done (Sum.inr ()))
def D6 (a_:Ac) (b_:Ac):Option Bool :=
 if !decide ((a_.length:Int)=(b_.length:Int)) then
 some false
 else
(Eo (fun s=>D6.l1 a_ b_ s) 0).bind fun r1 =>
(match r1 with
| .inl p=>some p
| .inr _=>D6.j1)
def A9.j1 (x1:Ai):Option FileTree :=
 some ({ Files:=x1 }:FileTree)
def A9.j2 (x2:Int) (x5:Ai):Option (Step (Int×Ai) Ai) :=
(ckK .i64 (x2+1)).bind fun z1 =>
 some (Step.next (z1,x5))
def A9.j3 (l_:Ai) (x2:Int) (x6:Int) (x7:Ai):Option (Step (Int×Ai) Ai) :=
(at? l_ x2).bind fun y3 =>
(at? x7 x6).bind fun y4 =>
(some (x7.set x6.toNat y3)).bind fun y5 =>
 A9.j2 x2 y5
def A9.l2 (l_:Ai) (x2:Int) (x8:Int) (x9:Ai):Option (Step (Int×Ai) (Int×Ai)) :=
(if decide (x8 > 0) then (at? l_ x2).bind fun y6 =>
(ckK .i64 (x8 - 1)).bind fun z2 =>
(at? x9 z2).bind fun y7 =>
 some (sLt y6.Path y7.Path) else some false).bind fun x11 =>
 if x11 then
(ckK .i64 (x8 - 1)).bind fun z3 =>
(at? x9 z3).bind fun y8 =>
(at? x9 x8).bind fun y9 =>
(some (x9.set x8.toNat y8)).bind fun y10 =>
(ckK .i64 (x8 - 1)).bind fun z4 =>
 some (Step.next (z4,y10))
 else
 some (Step.done (x8,x9))
def A9.l1 (l_:Ai) (x2:Int) (x3:Ai):Option (Step (Int×Ai) Ai) :=
 if decide (x2 < (l_.length:Int)) then
(at? l_ x2).bind fun y1 =>
(app? 40 x3 ([y1]:Ai)).bind fun y2 =>
(Eo (fun s=>A9.l2 l_ x2 s.1 s.2) ((x3.length:Int),y2)).bind fun r2 =>
 A9.j3 l_ x2 r2.1 r2.2
 else
 some (Step.done x3)
def A9 (l_:Ai):Option FileTree :=
(Eo (fun s=>A9.l1 l_ s.1 s.2) (0,[])).bind fun r1 =>
 A9.j1 r1
def D7.j2 (y1:Ai) (x1:Ai):Option (FileTree×Int) :=
(app? 40 y1 x1).bind fun y2 =>
(A9 y2).bind fun y3 =>
 some (y3,0)
def D7.j1 (t_:FileTree) (x_:File):Option (FileTree×Int) :=
 if decide ((t_.Files.length:Int) ≥ 24) then
 some (t_,14)
 else
(app? 40 ([]:Ai) t_.Files).bind fun y1 =>
 D7.j2 y1 ([x_]:Ai)
def D7.l1 (t_:FileTree) (x_:File) (x3:Int):Option (Step Int ((FileTree×Int) ⊕ Unit)) :=
 if decide (x3 < (t_.Files.length:Int)) then
(at? t_.Files x3).bind fun y4 =>
(Cs y4.Path x_.Path).bind fun y5 =>
 if y5 then
 some (Step.done (Sum.inl (t_,7)))
 else
(ckK .i64 (x3+1)).bind fun z1 =>
 some (Step.next z1)
 else
 some (Step.done (Sum.inr ()))
def D7 (t_:FileTree) (x_:File):Option (FileTree×Int) :=
(Eo (fun s=>D7.l1 t_ x_ s) 0).bind fun r1 =>
(match r1 with
| .inl p=>some p
| .inr _=>D7.j1 t_ x_)
def K9 (t_:FileTree) (i_:Int):Option FileTree :=
(cut? t_.Files 0 i_).bind fun y1 =>
(app? 40 ([]:Ai) y1).bind fun y2 =>
(ckK .i64 (i_+1)).bind fun z1 =>
(cut? t_.Files z1 (t_.Files.length:Int)).bind fun y3 =>
(app? 40 y2 y3).bind fun y4 =>
 some ({ Files:=y4 }:FileTree)
def M3 (text:Ac) (at_:Int) (l_:Ac):Option Bool :=
(if decide (at_ < 0) then some true else (ckK .i64 (at_+(l_.length:Int))).bind fun z1 =>
 some (decide (z1 > (text.length:Int)))).bind fun x1 =>
 if x1 then
 some false
 else
(ckK .i64 (at_+(l_.length:Int))).bind fun z2 =>
(cut? text at_ z2).bind fun y1 =>
(D6 y1 l_).bind fun y2 =>
 some y2
def Cm.j2 (x1:Ac):Option (Ac×Fault) :=
 if decide ((x1.length:Int) > 120) then
(B7 10 (-1)).bind fun y5 =>
 some ([],y5)
 else
 some (x1,({ Code:=0,Index:=0 }:Fault))
def Cm.l1 (p_:Patch) (x2:Int) (x3:Ac):Option (Step (Int×Ac) Ac) :=
 if decide (x2 ≥ 0) then
(at? p_.Hunks x2).bind fun y6 =>
(G4 y6).bind fun y7 =>
(cut? x3 y7 (x3.length:Int)).bind fun y8 =>
(app? 16 ([]:Ac) y8).bind fun y9 =>
(cut? x3 0 y6.At).bind fun y10 =>
(app? 16 y10 y6.New).bind fun y11 =>
(app? 16 y11 y9).bind fun y12 =>
(ckK .i64 (x2 - 1)).bind fun z2 =>
 some (Step.next (z2,y12))
 else
 some (Step.done x3)
def Cm.j1 (p_:Patch) (text:Ac):Option (Ac×Fault) :=
(app? 16 ([]:Ac) text).bind fun y4 =>
(ckK .i64 ((p_.Hunks.length:Int) - 1)).bind fun z1 =>
(Eo (fun s=>Cm.l1 p_ s.1 s.2) (z1,y4)).bind fun r1 =>
 Cm.j2 r1
def Cm.l2 (p_:Patch) (text:Ac) (x5:Int):Option (Step Int ((Ac×Fault) ⊕ Unit)) :=
 if decide (x5 < (p_.Hunks.length:Int)) then
(at? p_.Hunks x5).bind fun y13 =>
(at? p_.Hunks x5).bind fun y14 =>
(M3 text y13.At y14.Old).bind fun y15 =>
 if !y15 then
(B7 19 x5).bind fun y16 =>
 some (Step.done (Sum.inl ([],y16)))
 else
(ckK .i64 (x5+1)).bind fun z3 =>
 some (Step.next z3)
 else
 some (Step.done (Sum.inr ()))
def Cm (p_:Patch) (text:Ac):Option (Ac×Fault) :=
(Dr p_).bind fun y1 =>
 if !decide (y1.Code=0) then
 some ([],y1)
 else
(Ea text).bind fun y2 =>
 if !decide (y2=0) then
(B7 y2 (-2)).bind fun y3 =>
 some ([],y3)
 else
(Eo (fun s=>Cm.l2 p_ text s) 0).bind fun r2 =>
(match r2 with
| .inl p=>some p
| .inr _=>Cm.j1 p_ text)
def Kh.j1 (t_:FileTree) (c_:TreeChange) (y2:Int) (y10:Ac×Fault):Option (FileTree×Int) :=
 if !decide (y10.2.Code=0) then
 some (t_,y10.2.Code)
 else
(K9 t_ y2).bind fun y11 =>
(D7 y11 ({ Path:=c_.Path,Lines:=y10.1 }:File)).bind fun y12 =>
 some (y12.1,y12.2)
def Kh (t_:FileTree) (c_:TreeChange):Option (FileTree×Int) :=
 if decide (c_.Kind=1) then
(D7 t_ ({ Path:=c_.Path,Lines:=c_.Lines }:File)).bind fun y1 =>
 some (y1.1,y1.2)
 else
(Co t_ c_.Path).bind fun y2 =>
 if decide (y2 < 0) then
 some (t_,6)
 else
 if decide (c_.Kind=2) then
(at? t_.Files y2).bind fun y3 =>
(D6 y3.Lines c_.Lines).bind fun y4 =>
 if !y4 then
 some (t_,19)
 else
(K9 t_ y2).bind fun y5 =>
 some (y5,0)
 else
 if decide (c_.Kind=3) then
(at? t_.Files y2).bind fun y6 =>
(K9 t_ y2).bind fun y7 =>
(D7 y7 ({ Path:=c_.To,Lines:=y6.Lines }:File)).bind fun y8 =>
 some (y8.1,y8.2)
 else
(at? t_.Files y2).bind fun y9 =>
(Cm c_.Patch y9.Lines).bind fun y10 =>
 Kh.j1 t_ c_ y2 y10
def Dq.j1 (x1:Ai):Option (FileTree×Fault) :=
 some (({ Files:=x1 }:FileTree),({ Code:=0,Index:=0 }:Fault))
def Dq.l1 (p_:TreePatch) (x2:Int) (x3:Ai):Option (Step (Int×Ai) ((FileTree×Fault) ⊕ Ai)) :=
 if decide (x2 < (p_.Changes.length:Int)) then
(at? p_.Changes x2).bind fun y4 =>
(Kh ({ Files:=x3 }:FileTree) y4).bind fun y5 =>
 if !decide (y5.2=0) then
(B7 y5.2 x2).bind fun y6 =>
 some (Step.done (Sum.inl (({ Files:=[] }:FileTree),y6)))
 else
(ckK .i64 (x2+1)).bind fun z1 =>
 some (Step.next (z1,y5.1.Files))
 else
 some (Step.done (Sum.inr x3))
def Dq (p_:TreePatch) (t_:FileTree):Option (FileTree×Fault) :=
(Dy p_).bind fun y1 =>
 if !decide (y1.Code=0) then
 some (({ Files:=[] }:FileTree),y1)
 else
(B3 t_).bind fun y2 =>
 if !decide (y2.Code=0) then
(B7 y2.Code (-2)).bind fun y3 =>
 some (({ Files:=[] }:FileTree),y3)
 else
(Eo (fun s=>Dq.l1 p_ s.1 s.2) (0,t_.Files)).bind fun r1 =>
(match r1 with
| .inl p=>some p
| .inr p=>Dq.j1 p)
def Ld (a_:FileTree) (b_:FileTree) (path:ByteArray):Option Bool :=
(Co a_ path).bind fun y1 =>
(Co b_ path).bind fun y2 =>
(if decide (y1 < 0) then some true else some (decide (y2 < 0))).bind fun x1 =>
 if x1 then
(if decide (y1 < 0) then some (decide (y2 < 0)) else some false).bind fun x2 =>
 some x2
 else
(at? a_.Files y1).bind fun y3 =>
(at? b_.Files y2).bind fun y4 =>
(D6 y3.Lines y4.Lines).bind fun y5 =>
 some y5
def Hf.j1 (x1:Int) (x2:Int):Option Fault :=
 some ({ Code:=x1,Index:=x2 }:Fault)
def Hf (a_:Ac) (b_:Ac):Option Fault :=
(Bq a_).bind fun y1 =>
(if decide (y1.Code=0) then (Ea b_).bind fun y2 =>
 some (!decide (y2=0)) else some false).bind fun x3 =>
 if x3 then
(Ea b_).bind fun y3 =>
(B7 y3 (-2)).bind fun y4 =>
 Hf.j1 y4.Code y4.Index
 else
 Hf.j1 y1.Code y1.Index
def Ca.j1 (x1:Bc):Option Patch :=
 some ({ Hunks:=x1 }:Patch)
def Ca.j2 (x2:Int) (x7:Bool) (x8:Int) (x9:Bc):Option (Step (Int×Bool×Int×Bc) Bc) :=
(ckK .i64 (x2+1)).bind fun z1 =>
 some (Step.next (z1,x7,x8,x9))
def Ca.j3 (l_:C4) (x2:Int) (x4:Int) (x10:Bool) (x11:Bc):Option (Step (Int×Bool×Int×Bc) Bc) :=
(ckK .i64 ((x11.length:Int) - 1)).bind fun z3 =>
(at? x11 z3).bind fun y2 =>
(at? l_ x2).bind fun y3 =>
 if decide (y3.Kind=1) then
(at? l_ x2).bind fun y4 =>
(app? 16 y2.Old ([y4.Text]:Ac)).bind fun y5 =>
(ckK .i64 (x4+1)).bind fun z4 =>
(some (x11.set z3.toNat ({ At:=y2.At,Old:=y5,New:=y2.New }:Hunk))).bind fun y6 =>
 Ca.j2 x2 x10 z4 y6
 else
(at? l_ x2).bind fun y7 =>
(app? 16 y2.New ([y7.Text]:Ac)).bind fun y8 =>
(some (x11.set z3.toNat ({ At:=y2.At,Old:=y2.Old,New:=y8 }:Hunk))).bind fun y9 =>
 Ca.j2 x2 x10 x4 y9
def Ca.l1 (l_:C4) (x2:Int) (x3:Bool) (x4:Int) (x5:Bc):Option (Step (Int×Bool×Int×Bc) Bc) :=
 if decide (x2 < (l_.length:Int)) then
(at? l_ x2).bind fun y1 =>
 if decide (y1.Kind=0) then
(ckK .i64 (x4+1)).bind fun z2 =>
 Ca.j2 x2 false z2 x5
 else
 if !x3 then
(app? 56 x5 ([({ At:=x4,Old:=[],New:=[] }:Hunk)]:Bc)).bind fun y10 =>
 Ca.j3 l_ x2 x4 true y10
 else
 Ca.j3 l_ x2 x4 x3 x5
 else
 some (Step.done x5)
def Ca (l_:C4):Option Patch :=
(Eo (fun s=>Ca.l1 l_ s.1 s.2.1 s.2.2.1 s.2.2.2) (0,false,0,[])).bind fun r1 =>
 Ca.j1 r1
def Ba.j1 (x1:List (List Int)):Option (List (List Int)) :=
 some x1
def Ba.j2 (x2:Int) (x5:List (List Int)):Option (Step (Int×(List (List Int))) (List (List Int))) :=
(ckK .i64 (x2 - 1)).bind fun z2 =>
 some (Step.next (z2,x5))
def Ba.j3 (x2:Int) (x6:List (List Int)):Option (Step (Int×(List (List Int))) (List (List Int))) :=
 Ba.j2 x2 x6
def Ba.j5 (x2:Int) (x7:Int) (x12:Int) (x13:List (List Int)):Option (Step (Int×(List (List Int))) (List (List Int))) :=
(at? x13 x2).bind fun y8 =>
(at? y8 x7).bind fun y9 =>
(some (y8.set x7.toNat x12)).bind fun y10 =>
(ckK .i64 (x7 - 1)).bind fun z6 =>
(some (x13.set x2.toNat y10)).bind fun y11 =>
 some (Step.next (z6,y11))
def Ba.j4 (a_:Ac) (b_:Ac) (x2:Int) (x7:Int) (x10:Int) (x11:List (List Int)):Option (Step (Int×(List (List Int))) (List (List Int))) :=
(at? a_ x7).bind fun y12 =>
(at? b_ x2).bind fun y13 =>
(if decide (y12=y13) then (ckK .i64 (x2+1)).bind fun z7 =>
(at? x11 z7).bind fun y14 =>
(ckK .i64 (x7+1)).bind fun z8 =>
(at? y14 z8).bind fun y15 =>
(ckK .i64 (y15+1)).bind fun z9 =>
 some (decide (z9 > x10)) else some false).bind fun x14 =>
 if x14 then
(ckK .i64 (x2+1)).bind fun z10 =>
(at? x11 z10).bind fun y16 =>
(ckK .i64 (x7+1)).bind fun z11 =>
(at? y16 z11).bind fun y17 =>
(ckK .i64 (y17+1)).bind fun z12 =>
 Ba.j5 x2 x7 z12 x11
 else
 Ba.j5 x2 x7 x10 x11
def Ba.l2 (a_:Ac) (b_:Ac) (x2:Int) (x7:Int) (x8:List (List Int)):Option (Step (Int×(List (List Int))) (List (List Int))) :=
 if decide (x7 ≥ 0) then
(ckK .i64 (x2+1)).bind fun z5 =>
(at? x8 z5).bind fun y6 =>
(at? y6 x7).bind fun y7 =>
(at? x8 x2).bind fun y18 =>
(ckK .i64 (x7+1)).bind fun z13 =>
(at? y18 z13).bind fun y19 =>
 if decide (y19 > y7) then
(ckK .i64 (x7+1)).bind fun z14 =>
(at? y18 z14).bind fun y20 =>
 Ba.j4 a_ b_ x2 x7 y20 x8
 else
 Ba.j4 a_ b_ x2 x7 y7 x8
 else
 some (Step.done x8)
def Ba.l1 (a_:Ac) (b_:Ac) (x2:Int) (x3:List (List Int)):Option (Step (Int×(List (List Int))) (List (List Int))) :=
 if decide (x2 ≥ 0) then
(ckK .i64 ((a_.length:Int)+1)).bind fun z3 =>
(mk? 8 z3 (0:Int)).bind fun y2 =>
(at? x3 x2).bind fun y3 =>
 if decide (x2=(b_.length:Int)) then
(some (x3.set x2.toNat y2)).bind fun y4 =>
 Ba.j2 x2 y4
 else
(ckK .i64 ((a_.length:Int) - 1)).bind fun z4 =>
(some (x3.set x2.toNat y2)).bind fun y5 =>
(Eo (fun s=>Ba.l2 a_ b_ x2 s.1 s.2) (z4,y5)).bind fun r2 =>
 Ba.j3 x2 r2
 else
 some (Step.done x3)
def Ba (a_:Ac) (b_:Ac):Option (List (List Int)) :=
(ckK .i64 ((b_.length:Int)+1)).bind fun z1 =>
(mk? 24 z1 ([]:List Int)).bind fun y1 =>
(Eo (fun s=>Ba.l1 a_ b_ s.1 s.2) ((b_.length:Int),y1)).bind fun r1 =>
 Ba.j1 r1
def D5.j1 (x1:C4):Option C4 :=
 some x1
def D5.l1 (a_:Ac) (b_:Ac) (y1:(List (List Int))) (x2:Int) (x3:Int) (x4:C4):Option (Step (Int×Int×C4) C4) :=
(if decide (x3 < (a_.length:Int)) then some true else some (decide (x2 < (b_.length:Int)))).bind fun x6 =>
 if x6 then
(if decide (x3 < (a_.length:Int)) then some (decide (x2 < (b_.length:Int))) else some false).bind fun x7 =>
(if x7 then (at? a_ x3).bind fun y2 =>
(at? b_ x2).bind fun y3 =>
 some (decide (y2=y3)) else some false).bind fun x8 =>
 if x8 then
(at? a_ x3).bind fun y4 =>
(app? 24 x4 ([({ Kind:=0,Text:=y4 }:Step_changeforgeref1)]:C4)).bind fun y5 =>
(ckK .i64 (x3+1)).bind fun z1 =>
(ckK .i64 (x2+1)).bind fun z2 =>
 some (Step.next (z2,z1,y5))
 else
(if decide (x2=(b_.length:Int)) then some true else (if decide (x3 < (a_.length:Int)) then (at? y1 x2).bind fun y6 =>
(ckK .i64 (x3+1)).bind fun z3 =>
(at? y6 z3).bind fun y7 =>
(ckK .i64 (x2+1)).bind fun z4 =>
(at? y1 z4).bind fun y8 =>
(at? y8 x3).bind fun y9 =>
 some (decide (y7 ≥ y9)) else some false).bind fun x10 =>
 some x10).bind fun x9 =>
 if x9 then
(at? a_ x3).bind fun y10 =>
(app? 24 x4 ([({ Kind:=1,Text:=y10 }:Step_changeforgeref1)]:C4)).bind fun y11 =>
(ckK .i64 (x3+1)).bind fun z5 =>
 some (Step.next (x2,z5,y11))
 else
(at? b_ x2).bind fun y12 =>
(app? 24 x4 ([({ Kind:=2,Text:=y12 }:Step_changeforgeref1)]:C4)).bind fun y13 =>
(ckK .i64 (x2+1)).bind fun z6 =>
 some (Step.next (z6,x3,y13))
 else
 some (Step.done x4)
def D5 (a_:Ac) (b_:Ac):Option C4 :=
(Ba a_ b_).bind fun y1 =>
(Eo (fun s=>D5.l1 a_ b_ y1 s.1 s.2.1 s.2.2) (0,0,[])).bind fun r1 =>
 D5.j1 r1
def L0 (a_:Ac) (b_:Ac):Option Patch :=
(D5 a_ b_).bind fun y1 =>
(Ca y1).bind fun y2 =>
 some y2
def A6.j1 (x1:List Int):Option (List Int) :=
 some x1
def A6.j2 (x2:Int) (x5:List Int):Option (Step (Int×(List Int)) (List Int)) :=
(ckK .i64 (x2+1)).bind fun z2 =>
 some (Step.next (z2,x5))
def A6.j4 (x2:Int) (x7:List Int):Option (Step (Int×(List Int)) (List Int)) :=
 A6.j2 x2 x7
def A6.j5 (x8:Int) (x11:List Int):Option (Step (Int×(List Int)) (List Int)) :=
(ckK .i64 (x8+1)).bind fun z3 =>
 some (Step.next (z3,x11))
def A6.j6 (x8:Int) (x12:List Int):Option (Step (Int×(List Int)) (List Int)) :=
 A6.j5 x8 x12
def A6.l3 (x6:Bc) (x8:Int) (x13:Int) (x14:List Int):Option (Step (Int×(List Int)) (List Int)) :=
(at? x6 x8).bind fun y3 =>
(G4 y3).bind fun y4 =>
 if decide (x13≤y4) then
(at? x14 x13).bind fun y5 =>
(some (x14.set x13.toNat 1)).bind fun y6 =>
(ckK .i64 (x13+1)).bind fun z4 =>
 some (Step.next (z4,y6))
 else
 some (Step.done x14)
def A6.l2 (x6:Bc) (x8:Int) (x9:List Int):Option (Step (Int×(List Int)) (List Int)) :=
 if decide (x8 < (x6.length:Int)) then
(at? x6 x8).bind fun y2 =>
(Eo (fun s=>A6.l3 x6 x8 s.1 s.2) (y2.At,x9)).bind fun r3 =>
 A6.j6 x8 r3
 else
 some (Step.done x9)
def A6.j3 (x2:Int) (x3:List Int) (x6:Bc):Option (Step (Int×(List Int)) (List Int)) :=
(Eo (fun s=>A6.l2 x6 s.1 s.2) (0,x3)).bind fun r2 =>
 A6.j4 x2 r2
def A6.l1 (p_:Patch) (q_:Patch) (x2:Int) (x3:List Int):Option (Step (Int×(List Int)) (List Int)) :=
 if decide (x2 < 2) then
 if decide (x2=1) then
 A6.j3 x2 x3 q_.Hunks
 else
 A6.j3 x2 x3 p_.Hunks
 else
 some (Step.done x3)
def A6 (base:Ac) (p_:Patch) (q_:Patch):Option (List Int) :=
(ckK .i64 ((base.length:Int)+1)).bind fun z1 =>
(mk? 8 z1 (0:Int)).bind fun y1 =>
(Eo (fun s=>A6.l1 p_ q_ s.1 s.2) (0,y1)).bind fun r1 =>
 A6.j1 r1
def Db.j2:Option Bool :=
 some false
def Db.l1 (q_:Patch) (k_:Int) (x1:Int):Option (Step Int (Bool ⊕ Unit)) :=
 if decide (x1 < (q_.Hunks.length:Int)) then
(at? q_.Hunks x1).bind fun y1 =>
(if decide (y1.At≤k_) then (at? q_.Hunks x1).bind fun y2 =>
(G4 y2).bind fun y3 =>
 some (decide (k_ < y3)) else some false).bind fun x3 =>
 if x3 then
 some (Step.done (Sum.inl true))
 else
(ckK .i64 (x1+1)).bind fun z1 =>
 some (Step.next z1)
 else
 some (Step.done (Sum.inr ()))
def Db.j1 (q_:Patch) (k_:Int):Option Bool :=
(Eo (fun s=>Db.l1 q_ k_ s) 0).bind fun r1 =>
(match r1 with
| .inl p=>some p
| .inr _=>Db.j2)
def Db.l2 (p_:Patch) (k_:Int) (x4:Int):Option (Step Int (Bool ⊕ Unit)) :=
 if decide (x4 < (p_.Hunks.length:Int)) then
(at? p_.Hunks x4).bind fun y4 =>
(if decide (y4.At≤k_) then (at? p_.Hunks x4).bind fun y5 =>
(G4 y5).bind fun y6 =>
 some (decide (k_ < y6)) else some false).bind fun x6 =>
 if x6 then
 some (Step.done (Sum.inl true))
 else
(ckK .i64 (x4+1)).bind fun z2 =>
 some (Step.next z2)
 else
 some (Step.done (Sum.inr ()))
def Db (p_:Patch) (q_:Patch) (k_:Int):Option Bool :=
(Eo (fun s=>Db.l2 p_ k_ s) 0).bind fun r2 =>
(match r2 with
| .inl p=>some p
| .inr _=>Db.j1 q_ k_)
def A1.j1 (x1:Bool) (x2:Ac):Option (Ac×Bool) :=
 some (x2,x1)
def A1.j2 (x3:Int) (x7:Ac) (x8:Bool):Option (Step (Int×Bool×Ac) (Bool×Ac)) :=
(ckK .i64 (x3+1)).bind fun z1 =>
 some (Step.next (z1,x8,x7))
def A1.j4 (base:Ac) (high:Int) (x3:Int) (x9:Bool) (x10:Ac) (x11:Bool):Option (Step (Int×Bool×Ac) (Bool×Ac)) :=
(if decide (x3 < high) then some !x11 else some false).bind fun x12 =>
 if x12 then
(at? base x3).bind fun y1 =>
(app? 16 x10 ([y1]:Ac)).bind fun y2 =>
 A1.j2 x3 y2 x9
 else
 A1.j2 x3 x10 x9
def A1.j5 (x13:Int) (x16:Bool):Option (Step (Int×Bool) Bool) :=
(ckK .i64 (x13+1)).bind fun z2 =>
 some (Step.next (z2,x16))
def A1.l2 (p_:Patch) (x3:Int) (x13:Int) (x14:Bool):Option (Step (Int×Bool) Bool) :=
 if decide (x13 < (p_.Hunks.length:Int)) then
(at? p_.Hunks x13).bind fun y3 =>
(if decide (y3.At≤x3) then (at? p_.Hunks x13).bind fun y4 =>
(G4 y4).bind fun y5 =>
 some (decide (x3 < y5)) else some false).bind fun x17 =>
 if x17 then
 A1.j5 x13 true
 else
 A1.j5 x13 x14
 else
 some (Step.done x14)
def A1.j3 (base:Ac) (p_:Patch) (high:Int) (x3:Int) (x9:Bool) (x10:Ac):Option (Step (Int×Bool×Ac) (Bool×Ac)) :=
(Eo (fun s=>A1.l2 p_ x3 s.1 s.2) (0,false)).bind fun r2 =>
 A1.j4 base high x3 x9 x10 r2
def A1.j6 (x18:Int) (x22:Bool) (x23:Ac):Option (Step (Int×Bool×Ac) (Bool×Ac)) :=
(ckK .i64 (x18+1)).bind fun z3 =>
 some (Step.next (z3,x22,x23))
def A1.l3 (p_:Patch) (x3:Int) (x18:Int) (x19:Bool) (x20:Ac):Option (Step (Int×Bool×Ac) (Bool×Ac)) :=
 if decide (x18 < (p_.Hunks.length:Int)) then
(at? p_.Hunks x18).bind fun y6 =>
 if decide (y6.At=x3) then
(at? p_.Hunks x18).bind fun y7 =>
(app? 16 x20 y7.New).bind fun y8 =>
 A1.j6 x18 true y8
 else
 A1.j6 x18 x19 x20
 else
 some (Step.done (x19,x20))
def A1.l1 (base:Ac) (p_:Patch) (high:Int) (x3:Int) (x4:Bool) (x5:Ac):Option (Step (Int×Bool×Ac) (Bool×Ac)) :=
 if decide (x3≤high) then
(Eo (fun s=>A1.l3 p_ x3 s.1 s.2.1 s.2.2) (0,x4,x5)).bind fun r3 =>
 A1.j3 base p_ high x3 r3.1 r3.2
 else
 some (Step.done (x4,x5))
def A1 (base:Ac) (p_:Patch) (low:Int) (high:Int):Option (Ac×Bool) :=
(Eo (fun s=>A1.l1 base p_ high s.1 s.2.1 s.2.2) (low,false,[])).bind fun r1 =>
 A1.j1 r1.1 r1.2
def A0.j2 (x3:B0):Option (B0×Fault) :=
 some (x3,({ Code:=0,Index:=0 }:Fault))
def A0.j1 (x1:Ac) (x2:B0):Option (B0×Fault) :=
 if decide ((x1.length:Int) > 0) then
(app? 104 x2 ([({ Conflict:=false,Lines:=x1,Base:=[],Left:=[],Right:=[] }:Chunk)]:B0)).bind fun y7 =>
 A0.j2 y7
 else
 A0.j2 x2
def A0.j3 (x8:Ac) (x9:Int) (x10:B0):Option (Step (Int×Ac×B0) (Ac×B0)) :=
(ckK .i64 (x9+1)).bind fun z1 =>
 some (Step.next (z1,x8,x10))
def A0.j4 (x4:Int) (x6:B0) (x11:Ac):Option (Step (Int×Ac×B0) (Ac×B0)) :=
 A0.j3 x11 x4 x6
def A0.j6 (base:Ac) (x12:Int) (x13:Ac) (x14:B0):Option (Step (Int×Ac×B0) (Ac×B0)) :=
 if decide (x12 < (base.length:Int)) then
(at? base x12).bind fun y13 =>
(app? 16 x13 ([y13]:Ac)).bind fun y14 =>
 A0.j3 y14 x12 x14
 else
 A0.j3 x13 x12 x14
def A0.j7 (base:Ac) (x4:Int) (x12:Int) (y11:Ac×Bool) (y12:Ac×Bool) (x16:Ac) (x17:B0):Option (Step (Int×Ac×B0) (Ac×B0)) :=
(cut? base x4 x12).bind fun y18 =>
(app? 104 x17 ([({ Conflict:=true,Lines:=[],Base:=y18,Left:=y11.1,Right:=y12.1 }:Chunk)]:B0)).bind fun y19 =>
 A0.j6 base x12 x16 y19
def A0.j5 (base:Ac) (y4:Patch) (y5:Patch) (x4:Int) (x5:Ac) (x6:B0) (x12:Int):Option (Step (Int×Ac×B0) (Ac×B0)) :=
(A1 base y4 x4 x12).bind fun y11 =>
(A1 base y5 x4 x12).bind fun y12 =>
(if !y12.2 then some true else (D6 y11.1 y12.1).bind fun y15 =>
 some y15).bind fun x15 =>
 if x15 then
(app? 16 x5 y11.1).bind fun y16 =>
 A0.j6 base x12 y16 x6
 else
 if !y11.2 then
(app? 16 x5 y12.1).bind fun y17 =>
 A0.j6 base x12 y17 x6
 else
 if decide ((x5.length:Int) > 0) then
(app? 104 x6 ([({ Conflict:=false,Lines:=x5,Base:=[],Left:=[],Right:=[] }:Chunk)]:B0)).bind fun y20 =>
 A0.j7 base x4 x12 y11 y12 [] y20
 else
 A0.j7 base x4 x12 y11 y12 x5 x6
def A0.l2 (base:Ac) (y4:Patch) (y5:Patch) (x18:Int):Option (Step Int Int) :=
(if decide (x18 < (base.length:Int)) then (Db y4 y5 x18).bind fun y21 =>
 some y21 else some false).bind fun x20 =>
 if x20 then
(ckK .i64 (x18+1)).bind fun z2 =>
 some (Step.next z2)
 else
 some (Step.done x18)
def A0.l1 (base:Ac) (y4:Patch) (y5:Patch) (y6:(List Int)) (x4:Int) (x5:Ac) (x6:B0):Option (Step (Int×Ac×B0) (Ac×B0)) :=
 if decide (x4≤(base.length:Int)) then
(at? y6 x4).bind fun y8 =>
 if decide (y8=0) then
 if decide (x4 < (base.length:Int)) then
(at? base x4).bind fun y9 =>
(app? 16 x5 ([y9]:Ac)).bind fun y10 =>
 A0.j4 x4 x6 y10
 else
 A0.j4 x4 x6 x5
 else
(Eo (fun s=>A0.l2 base y4 y5 s) x4).bind fun r2 =>
 A0.j5 base y4 y5 x4 x5 x6 r2
 else
 some (Step.done (x5,x6))
def A0 (base:Ac) (left:Ac) (right:Ac):Option (B0×Fault) :=
(Hf base left).bind fun y1 =>
 if !decide (y1.Code=0) then
 some ([],y1)
 else
(Ea right).bind fun y2 =>
 if !decide (y2=0) then
(B7 y2 (-3)).bind fun y3 =>
 some ([],y3)
 else
(L0 base left).bind fun y4 =>
(L0 base right).bind fun y5 =>
(A6 base y4 y5).bind fun y6 =>
(Eo (fun s=>A0.l1 base y4 y5 y6 s.1 s.2.1 s.2.2) (0,[],[])).bind fun r1 =>
 A0.j1 r1.1 r1.2
def Bb.j1:Option Fault :=
 some ({ Code:=0,Index:=0 }:Fault)
def Bb.j5 (x1:Int) (x6:Int):Option (Step Int (Fault ⊕ Unit)) :=
 if !decide (x6=0) then
(B7 x6 x1).bind fun y4 =>
 some (Step.done (Sum.inl y4))
 else
(ckK .i64 (x1+1)).bind fun z1 =>
 some (Step.next z1)
def Bb.j4 (x1:Int) (y2:Chunk) (x5:Int):Option (Step Int (Fault ⊕ Unit)) :=
(if decide (x5=0) then some (!decide (y2.Conflict=decide ((y2.Lines.length:Int)=0))) else some false).bind fun x7 =>
(if x7 then some true else (if decide (x5=0) then some !y2.Conflict else some false).bind fun x9 =>
(if x9 then (ckK .i64 ((y2.Base.length:Int)+(y2.Left.length:Int))).bind fun z2 =>
(ckK .i64 (z2+(y2.Right.length:Int))).bind fun z3 =>
 some (decide (z3 > 0)) else some false).bind fun x10 =>
 some x10).bind fun x8 =>
 if x8 then
 Bb.j5 x1 5
 else
 Bb.j5 x1 x5
def Bb.j3 (x1:Int) (y2:Chunk) (x4:Int):Option (Step Int (Fault ⊕ Unit)) :=
 if decide (x4=0) then
(Ea y2.Right).bind fun y5 =>
 Bb.j4 x1 y2 y5
 else
 Bb.j4 x1 y2 x4
def Bb.j2 (x1:Int) (y2:Chunk) (x3:Int):Option (Step Int (Fault ⊕ Unit)) :=
 if decide (x3=0) then
(Ea y2.Left).bind fun y6 =>
 Bb.j3 x1 y2 y6
 else
 Bb.j3 x1 y2 x3
def Bb.l1 (l_:B0) (x1:Int):Option (Step Int (Fault ⊕ Unit)) :=
 if decide (x1 < (l_.length:Int)) then
(at? l_ x1).bind fun y2 =>
(Ea y2.Lines).bind fun y3 =>
 if decide (y3=0) then
(Ea y2.Base).bind fun y7 =>
 Bb.j2 x1 y2 y7
 else
 Bb.j2 x1 y2 y3
 else
 some (Step.done (Sum.inr ()))
def Bb (l_:B0):Option Fault :=
 if decide ((l_.length:Int) > 240) then
(B7 2 (-1)).bind fun y1 =>
 some y1
 else
(Eo (fun s=>Bb.l1 l_ s) 0).bind fun r1 =>
(match r1 with
| .inl p=>some p
| .inr _=>Bb.j1)
def C3.j1 (x1:Int):Option Int :=
 some x1
def C3.j2 (x2:Int) (x5:Int):Option (Step (Int×Int) Int) :=
(ckK .i64 (x2+1)).bind fun z1 =>
 some (Step.next (z1,x5))
def C3.l1 (l_:B0) (x2:Int) (x3:Int):Option (Step (Int×Int) Int) :=
 if decide (x2 < (l_.length:Int)) then
(at? l_ x2).bind fun y1 =>
 if y1.Conflict then
(ckK .i64 (x3+1)).bind fun z2 =>
 C3.j2 x2 z2
 else
 C3.j2 x2 x3
 else
 some (Step.done x3)
def C3 (l_:B0):Option Int :=
(Eo (fun s=>C3.l1 l_ s.1 s.2) (0,0)).bind fun r1 =>
 C3.j1 r1
def Be.j2 (x1:Ac):Option (Ac×Fault) :=
 if decide ((x1.length:Int) > 120) then
(B7 10 (-1)).bind fun y4 =>
 some ([],y4)
 else
 some (x1,({ Code:=0,Index:=0 }:Fault))
def Be.j3 (x2:Int) (x6:Ac) (x7:Int):Option (Step (Int×Int×Ac) Ac) :=
(ckK .i64 (x2+1)).bind fun z1 =>
 some (Step.next (z1,x7,x6))
def Be.j5 (l_:B0) (x2:Int) (y8:Int) (z2:Int) (x9:Ac):Option (Step (Int×Int×Ac) Ac) :=
 if decide (y8 ≥ 2) then
(at? l_ x2).bind fun y9 =>
(app? 16 x9 y9.Right).bind fun y10 =>
 Be.j3 x2 y10 z2
 else
 Be.j3 x2 x9 z2
def Be.j4 (l_:B0) (x2:Int) (y8:Int) (z2:Int) (x8:Ac):Option (Step (Int×Int×Ac) Ac) :=
(rem? y8 2).bind fun z3 =>
 if decide (z3=1) then
(at? l_ x2).bind fun y11 =>
(app? 16 x8 y11.Left).bind fun y12 =>
 Be.j5 l_ x2 y8 z2 y12
 else
 Be.j5 l_ x2 y8 z2 x8
def Be.l1 (l_:B0) (choices:(List Int)) (x2:Int) (x3:Int) (x4:Ac):Option (Step (Int×Int×Ac) Ac) :=
 if decide (x2 < (l_.length:Int)) then
(at? l_ x2).bind fun y5 =>
 if !y5.Conflict then
(at? l_ x2).bind fun y6 =>
(app? 16 x4 y6.Lines).bind fun y7 =>
 Be.j3 x2 y7 x3
 else
(at? choices x3).bind fun y8 =>
(ckK .i64 (x3+1)).bind fun z2 =>
 if decide (y8=0) then
(at? l_ x2).bind fun y13 =>
(app? 16 x4 y13.Base).bind fun y14 =>
 Be.j4 l_ x2 y8 z2 y14
 else
 Be.j4 l_ x2 y8 z2 x4
 else
 some (Step.done x4)
def Be.j1 (l_:B0) (choices:(List Int)):Option (Ac×Fault) :=
(Eo (fun s=>Be.l1 l_ choices s.1 s.2.1 s.2.2) (0,0,[])).bind fun r1 =>
 Be.j2 r1
def Be.l2 (choices:(List Int)) (x10:Int):Option (Step Int ((Ac×Fault) ⊕ Unit)) :=
 if decide (x10 < (choices.length:Int)) then
(at? choices x10).bind fun y15 =>
(if decide (y15 < 0) then some true else (at? choices x10).bind fun y16 =>
 some (decide (y16 > 3))).bind fun x12 =>
 if x12 then
(ckK .i64 ((-3) - x10)).bind fun z4 =>
(B7 3 z4).bind fun y17 =>
 some (Step.done (Sum.inl ([],y17)))
 else
(ckK .i64 (x10+1)).bind fun z5 =>
 some (Step.next z5)
 else
 some (Step.done (Sum.inr ()))
def Be (l_:B0) (choices:(List Int)):Option (Ac×Fault) :=
(Bb l_).bind fun y1 =>
 if !decide (y1.Code=0) then
 some ([],y1)
 else
(C3 l_).bind fun y2 =>
 if !decide ((choices.length:Int)=y2) then
(B7 9 (-2)).bind fun y3 =>
 some ([],y3)
 else
(Eo (fun s=>Be.l2 choices s) 0).bind fun r2 =>
(match r2 with
| .inl p=>some p
| .inr _=>Be.j1 l_ choices)
def L8 (l_:B0):Option (Ac×Bool×Fault) :=
(Bb l_).bind fun y1 =>
 if !decide (y1.Code=0) then
 some ([],false,y1)
 else
(C3 l_).bind fun y2 =>
 if decide (y2 > 0) then
 some ([],false,({ Code:=0,Index:=0 }:Fault))
 else
(Be l_ ([]:List Int)).bind fun y3 =>
 some (y3.1,decide (y3.2.Code=0),y3.2)
def G7.j1 (y7:B0×Fault):Option (Ac×Bool) :=
 if !decide (y7.2.Code=0) then
 some ([],false)
 else
(L8 y7.1).bind fun y8 =>
(if y8.2.1 then some (decide (y8.2.2.Code=0)) else some false).bind fun x4 =>
 some (y8.1,x4)
def G7 (base:FileTree) (l_:FileTree) (r_:FileTree) (path:ByteArray):Option (Ac×Bool) :=
(Co base path).bind fun y1 =>
(Co l_ path).bind fun y2 =>
(Co r_ path).bind fun y3 =>
(if decide (y1 < 0) then some true else some (decide (y2 < 0))).bind fun x1 =>
(if x1 then some true else some (decide (y3 < 0))).bind fun x2 =>
 if x2 then
 some ([],false)
 else
(at? base.Files y1).bind fun y4 =>
(at? l_.Files y2).bind fun y5 =>
(at? r_.Files y3).bind fun y6 =>
(A0 y4.Lines y5.Lines y6.Lines).bind fun y7 =>
 G7.j1 y7
def Ml (c_:TreeChange) (path:ByteArray):Option Bool :=
(Cs c_.Path path).bind fun y1 =>
(if y1 then some true else (if decide (c_.Kind=3) then (Cs c_.To path).bind fun y2 =>
 some y2 else some false).bind fun x2 =>
 some x2).bind fun x1 =>
 some x1
def Cv.j1 (x1:Int):Option Int :=
 some x1
def Cv.j2 (x2:Int) (x5:Int):Option (Step (Int×Int) Int) :=
(ckK .i64 (x2+1)).bind fun z1 =>
 some (Step.next (z1,x5))
def Cv.l1 (p_:TreePatch) (path:ByteArray) (x2:Int) (x3:Int):Option (Step (Int×Int) Int) :=
 if decide (x2 < (p_.Changes.length:Int)) then
(at? p_.Changes x2).bind fun y1 =>
(Ml y1 path).bind fun y2 =>
 if y2 then
 Cv.j2 x2 x2
 else
 Cv.j2 x2 x3
 else
 some (Step.done x3)
def Cv (p_:TreePatch) (path:ByteArray):Option Int :=
(Eo (fun s=>Cv.l1 p_ path s.1 s.2) (0,(-1))).bind fun r1 =>
 Cv.j1 r1
def Aq.j3 (x5:Ai) (x6:Bp):Option (FileTree×Bp×Fault) :=
 if decide ((x5.length:Int) > 24) then
(B7 10 (-1)).bind fun y11 =>
 some (({ Files:=[] }:FileTree),[],y11)
 else
(A9 x5).bind fun y12 =>
 some (y12,x6,({ Code:=0,Index:=0 }:Fault))
def Aq.j4 (x7:Int) (x11:Bp) (x12:Ai):Option (Step (Int×Ai×Bp) (Ai×Bp)) :=
(ckK .i64 (x7+1)).bind fun z1 =>
 some (Step.next (z1,x12,x11))
def Aq.j5 (left:TreePatch) (right:TreePatch) (x2:Ai) (x7:Int) (x8:Ai) (x9:Bp) (x13:Bool):Option (Step (Int×Ai×Bp) (Ai×Bp)) :=
 if x13 then
(at? x2 x7).bind fun y13 =>
(at? x2 x7).bind fun y14 =>
(Cv left y13.Path).bind fun y15 =>
(Cv right y14.Path).bind fun y16 =>
(app? 16 x9 ([({ e0:=y15,e1:=y16 }:Arr2_Int)]:Bp)).bind fun y17 =>
 Aq.j4 x7 y17 x8
 else
(at? x2 x7).bind fun y18 =>
(app? 40 x8 ([y18]:Ai)).bind fun y19 =>
 Aq.j4 x7 x9 y19
def Aq.l2 (y4:FileTree×Fault) (x2:Ai) (x3:Ai) (x7:Int) (x14:Int) (x15:Bool):Option (Step (Int×Bool) Bool) :=
 if decide (x14 < (x3.length:Int)) then
(if x15 then some true else (at? x3 x14).bind fun y20 =>
(Co y4.1 y20.Path).bind fun y21 =>
(if decide (y21 < 0) then (at? x3 x14).bind fun y22 =>
(at? x2 x7).bind fun y23 =>
(Cs y22.Path y23.Path).bind fun y24 =>
 some y24 else some false).bind fun x18 =>
 some x18).bind fun x17 =>
(ckK .i64 (x14+1)).bind fun z2 =>
 some (Step.next (z2,x17))
 else
 some (Step.done x15)
def Aq.l1 (left:TreePatch) (right:TreePatch) (y4:FileTree×Fault) (x2:Ai) (x3:Ai) (x7:Int) (x8:Ai) (x9:Bp):Option (Step (Int×Ai×Bp) (Ai×Bp)) :=
 if decide (x7 < (x2.length:Int)) then
(Eo (fun s=>Aq.l2 y4 x2 x3 x7 s.1 s.2) (0,false)).bind fun r2 =>
 Aq.j5 left right x2 x7 x8 x9 r2
 else
 some (Step.done (x8,x9))
def Aq.j2 (left:TreePatch) (right:TreePatch) (y4:FileTree×Fault) (x2:Ai) (x3:Ai) (x4:Bp):Option (FileTree×Bp×Fault) :=
(app? 40 ([]:Ai) x3).bind fun y10 =>
(Eo (fun s=>Aq.l1 left right y4 x2 x3 s.1 s.2.1 s.2.2) (0,y10,x4)).bind fun r1 =>
 Aq.j3 r1.1 r1.2
def Aq.j6 (x19:Int) (x24:Ai) (x25:Ai) (x26:Bp):Option (Step (Int×Ai×Ai×Bp) (Ai×Ai×Bp)) :=
(ckK .i64 (x19+1)).bind fun z3 =>
 some (Step.next (z3,x24,x25,x26))
def Aq.j7 (y4:FileTree×Fault) (x19:Int) (x20:Ai) (x22:Bp) (y27:Int) (y28:Int) (x29:Ai):Option (Step (Int×Ai×Ai×Bp) (Ai×Ai×Bp)) :=
 if decide (y27 < 0) then
(at? y4.1.Files y28).bind fun y34 =>
(app? 40 x20 ([y34]:Ai)).bind fun y35 =>
 Aq.j6 x19 y35 x29 x22
 else
 Aq.j6 x19 x20 x29 x22
def Aq.l3 (base:FileTree) (left:TreePatch) (right:TreePatch) (y2:FileTree×Fault) (y4:FileTree×Fault) (y9:FileTree) (x19:Int) (x20:Ai) (x21:Ai) (x22:Bp):Option (Step (Int×Ai×Ai×Bp) (Ai×Ai×Bp)) :=
 if decide (x19 < (y9.Files.length:Int)) then
(at? y9.Files x19).bind fun y25 =>
(if decide (x19 > 0) then (ckK .i64 (x19 - 1)).bind fun z4 =>
(at? y9.Files z4).bind fun y26 =>
 some (decide (y26.Path=y25.Path)) else some false).bind fun x27 =>
 if x27 then
 Aq.j6 x19 x20 x21 x22
 else
(Co y2.1 y25.Path).bind fun y27 =>
(Co y4.1 y25.Path).bind fun y28 =>
(Ld y4.1 base y25.Path).bind fun y29 =>
(if y29 then some true else (Ld y2.1 y4.1 y25.Path).bind fun y30 =>
 some y30).bind fun x28 =>
 if x28 then
 if decide (y27 ≥ 0) then
(at? y2.1.Files y27).bind fun y31 =>
(app? 40 x21 ([y31]:Ai)).bind fun y32 =>
 Aq.j6 x19 x20 y32 x22
 else
 Aq.j6 x19 x20 x21 x22
 else
(Ld y2.1 base y25.Path).bind fun y33 =>
 if y33 then
(if decide (y27 ≥ 0) then some (decide (y28 ≥ 0)) else some false).bind fun x30 =>
 if x30 then
(at? y4.1.Files y28).bind fun y36 =>
(app? 40 x21 ([y36]:Ai)).bind fun y37 =>
 Aq.j7 y4 x19 x20 x22 y27 y28 y37
 else
 Aq.j7 y4 x19 x20 x22 y27 y28 x21
 else
(G7 base y2.1 y4.1 y25.Path).bind fun y38 =>
 if y38.2 then
(app? 40 x21 ([({ Path:=y25.Path,Lines:=y38.1 }:File)]:Ai)).bind fun y39 =>
 Aq.j6 x19 x20 y39 x22
 else
(Cv left y25.Path).bind fun y40 =>
(Cv right y25.Path).bind fun y41 =>
(app? 16 x22 ([({ e0:=y40,e1:=y41 }:Arr2_Int)]:Bp)).bind fun y42 =>
 if decide (y27 ≥ 0) then
(at? y2.1.Files y27).bind fun y43 =>
(app? 40 x21 ([y43]:Ai)).bind fun y44 =>
 Aq.j6 x19 x20 y44 y42
 else
 Aq.j6 x19 x20 x21 y42
 else
 some (Step.done (x20,x21,x22))
def Aq.j1 (base:FileTree) (left:TreePatch) (right:TreePatch) (y2:FileTree×Fault) (y4:FileTree×Fault) (y9:FileTree):Option (FileTree×Bp×Fault) :=
(Eo (fun s=>Aq.l3 base left right y2 y4 y9 s.1 s.2.1 s.2.2.1 s.2.2.2) (0,[],[],[])).bind fun r3 =>
 Aq.j2 left right y4 r3.1 r3.2.1 r3.2.2
def Aq (base:FileTree) (left:TreePatch) (right:TreePatch):Option (FileTree×Bp×Fault) :=
(B3 base).bind fun y1 =>
 if !decide (y1.Code=0) then
 some (({ Files:=[] }:FileTree),[],y1)
 else
(Dq left base).bind fun y2 =>
 if !decide (y2.2.Code=0) then
(B7 y2.2.Code (-2)).bind fun y3 =>
 some (({ Files:=[] }:FileTree),[],y3)
 else
(Dq right base).bind fun y4 =>
 if !decide (y4.2.Code=0) then
(B7 y4.2.Code (-3)).bind fun y5 =>
 some (({ Files:=[] }:FileTree),[],y5)
 else
(app? 40 ([]:Ai) base.Files).bind fun y6 =>
(app? 40 y6 y2.1.Files).bind fun y7 =>
(app? 40 y7 y4.1.Files).bind fun y8 =>
(A9 y8).bind fun y9 =>
 Aq.j1 base left right y2 y4 y9
def D8.j1:Option Bool :=
 some true
def D8.l1 (a_:Ac) (b_:Ac) (x1:Int):Option (Step Int (Bool ⊕ Unit)) :=
 if decide (x1 < (a_.length:Int)) then
(at? a_ x1).bind fun y1 =>
(at? b_ x1).bind fun y2 =>
 if !decide (y1=y2) then
 some (Step.done (Sum.inl false))
 else
(ckK .i64 (x1+1)).bind fun z1 =>
 some (Step.next z1)
 else
 some (Step.done (Sum.inr ()))
def D8 (a_:Ac) (b_:Ac):Option Bool :=
 if !decide ((a_.length:Int)=(b_.length:Int)) then
 some false
 else
(Eo (fun s=>D8.l1 a_ b_ s) 0).bind fun r1 =>
(match r1 with
| .inl p=>some p
| .inr _=>D8.j1)
def Ex.j1:Option Bool :=
 some true
def Ex.l1 (a_:FileTree) (b_:FileTree) (x1:Int):Option (Step Int (Bool ⊕ Unit)) :=
 if decide (x1 < (a_.Files.length:Int)) then
(at? a_.Files x1).bind fun y1 =>
(at? b_.Files x1).bind fun y2 =>
(if !decide (y1.Path=y2.Path) then some true else (at? a_.Files x1).bind fun y3 =>
(at? b_.Files x1).bind fun y4 =>
(D8 y3.Lines y4.Lines).bind fun y5 =>
 some !y5).bind fun x3 =>
 if x3 then
 some (Step.done (Sum.inl false))
 else
(ckK .i64 (x1+1)).bind fun z1 =>
 some (Step.next z1)
 else
 some (Step.done (Sum.inr ()))
def Ex (a_:FileTree) (b_:FileTree):Option Bool :=
 if !decide ((a_.Files.length:Int)=(b_.Files.length:Int)) then
 some false
 else
(Eo (fun s=>Ex.l1 a_ b_ s) 0).bind fun r1 =>
(match r1 with
| .inl p=>some p
| .inr _=>Ex.j1)
def Gb.j1:Option Bool :=
 some true
def Gb.l1 (a_:Bp) (b_:Bp) (x1:Int):Option (Step Int (Bool ⊕ Unit)) :=
 if decide (x1 < (a_.length:Int)) then
(at? a_ x1).bind fun y1 =>
(at? b_ x1).bind fun y2 =>
 if !(decide (y1.e0=y2.e0) && decide (y1.e1=y2.e1)) then
 some (Step.done (Sum.inl false))
 else
(ckK .i64 (x1+1)).bind fun z1 =>
 some (Step.next z1)
 else
 some (Step.done (Sum.inr ()))
def Gb (a_:Bp) (b_:Bp):Option Bool :=
 if !decide ((a_.length:Int)=(b_.length:Int)) then
 some false
 else
(Eo (fun s=>Gb.l1 a_ b_ s) 0).bind fun r1 =>
(match r1 with
| .inl p=>some p
| .inr _=>Gb.j1)
def M6 (p_:TreePatch) (index:Int):Option Fault :=
(Dl p_).bind fun y1 =>
 if !(decide (y1.Code=0) && decide (y1.Index=0)) then
 some ({ Code:=y1.Code,Index:=index }:Fault)
 else
 some ({ Code:=0,Index:=0 }:Fault)
def Kc.j1 (x1:Bc):Option Patch :=
 some ({ Hunks:=x1 }:Patch)
def Kc.l1 (p_:Patch) (x2:Int) (x3:Bc):Option (Step (Int×Bc) Bc) :=
 if decide (x2 < (p_.Hunks.length:Int)) then
(at? p_.Hunks x2).bind fun y1 =>
(Nf y1.Old).bind fun y2 =>
(Nf y1.New).bind fun y3 =>
(app? 56 x3 ([({ At:=y1.At,Old:=y2,New:=y3 }:Hunk)]:Bc)).bind fun y4 =>
(ckK .i64 (x2+1)).bind fun z1 =>
 some (Step.next (z1,y4))
 else
 some (Step.done x3)
def Kc (p_:Patch):Option Patch :=
(Eo (fun s=>Kc.l1 p_ s.1 s.2) (0,[])).bind fun r1 =>
 Kc.j1 r1
def Ms (c_:TreeChange):Option TreeChange :=
(Nf c_.Lines).bind fun y1 =>
(Kc c_.Patch).bind fun y2 =>
 some ({ Kind:=c_.Kind,Path:=c_.Path,To:=c_.To,Lines:=y1,Patch:=y2 }:TreeChange)
def C9.j1 (x1:Int):Option Bool :=
 some (!(decide (x1 ≥ 0)))
def C9.j2:Option Bool :=
 C9.j1 (-1)
def C9.l1 (b_:TreeChange) (y1:Ac) (x2:Int):Option (Step Int (Int ⊕ Unit)) :=
 if decide (x2 < (y1.length:Int)) then
(at? y1 x2).bind fun y2 =>
(Ck y2 ([b_]:Ei)).bind fun y3 =>
 if y3 then
 some (Step.done (Sum.inl x2))
 else
(ckK .i64 (x2+1)).bind fun z1 =>
 some (Step.next z1)
 else
 some (Step.done (Sum.inr ()))
def C9 (a_:TreeChange) (b_:TreeChange):Option Bool :=
(Nu a_).bind fun y1 =>
(Eo (fun s=>C9.l1 b_ y1 s) 0).bind fun r1 =>
(match r1 with
| .inl p=>C9.j1 p
| .inr _=>C9.j2)
def commute_Commute (p_:Patch) (q_:Patch):Option (Patch×Patch×Bool×Fault):=Option.none
def Nb (path:ByteArray) (p_:Patch):Option TreeChange :=
 some ({ Kind:=4,Path:=path,To:=ByteArray.empty,Lines:=[],Patch:=p_ }:TreeChange)
def Eq.j1 (a_:TreeChange) (b_:TreeChange):Option (TreeChange×TreeChange×Bool×Fault) :=
(Ms a_).bind fun y1 =>
(Ms b_).bind fun y2 =>
(C9 y1 y2).bind fun y3 =>
 if y3 then
 some (y2,y1,true,({ Code:=0,Index:=0 }:Fault))
 else
(if decide (y1.Kind=4) then some (decide (y2.Kind=4)) else some false).bind fun x1 =>
(if x1 then some (decide (y1.Path=y2.Path)) else some false).bind fun x2 =>
 if x2 then
(commute_Commute y1.Patch y2.Patch).bind fun y4 =>
 if !(decide (y4.2.2.2.Code=0) && decide (y4.2.2.2.Index=0)) then
 some (({ Kind:=0,Path:=ByteArray.empty,To:=ByteArray.empty,Lines:=[],Patch:=({ Hunks:=[] }:Patch) }:TreeChange),({ Kind:=0,Path:=ByteArray.empty,To:=ByteArray.empty,Lines:=[],Patch:=({ Hunks:=[] }:Patch) }:TreeChange),false,({ Code:=y4.2.2.2.Code,Index:=(-1) }:Fault))
 else
 if !y4.2.2.1 then
 some (({ Kind:=0,Path:=ByteArray.empty,To:=ByteArray.empty,Lines:=[],Patch:=({ Hunks:=[] }:Patch) }:TreeChange),({ Kind:=0,Path:=ByteArray.empty,To:=ByteArray.empty,Lines:=[],Patch:=({ Hunks:=[] }:Patch) }:TreeChange),false,({ Code:=0,Index:=0 }:Fault))
 else
(Nb y2.Path y4.1).bind fun y5 =>
(Nb y1.Path y4.2.1).bind fun y6 =>
 some (y5,y6,true,({ Code:=0,Index:=0 }:Fault))
 else
(if decide (y1.Kind=3) then some (decide (y2.Kind=4)) else some false).bind fun x3 =>
(if x3 then some (decide (y2.Path=y1.To)) else some false).bind fun x4 =>
 if x4 then
(Nb y1.Path y2.Patch).bind fun y7 =>
 some (y7,y1,true,({ Code:=0,Index:=0 }:Fault))
 else
(if decide (y1.Kind=4) then some (decide (y2.Kind=3)) else some false).bind fun x5 =>
(if x5 then some (decide (y2.Path=y1.Path)) else some false).bind fun x6 =>
 if x6 then
(Nb y2.To y1.Patch).bind fun y8 =>
 some (y2,y8,true,({ Code:=0,Index:=0 }:Fault))
 else
 some (({ Kind:=0,Path:=ByteArray.empty,To:=ByteArray.empty,Lines:=[],Patch:=({ Hunks:=[] }:Patch) }:TreeChange),({ Kind:=0,Path:=ByteArray.empty,To:=ByteArray.empty,Lines:=[],Patch:=({ Hunks:=[] }:Patch) }:TreeChange),false,({ Code:=0,Index:=0 }:Fault))
def Eq.l1 (a_:TreeChange) (b_:TreeChange) (x7:Int):Option (Step Int ((TreeChange×TreeChange×Bool×Fault) ⊕ Unit)) :=
 if decide (x7 < (([a_,b_]:Ei).length:Int)) then
(at? ([a_,b_]:Ei) x7).bind fun y9 =>
(M6 ({ Changes:=([y9]:Ei) }:TreePatch) x7).bind fun y10 =>
 if !(decide (y10.Code=0) && decide (y10.Index=0)) then
 some (Step.done (Sum.inl (({ Kind:=0,Path:=ByteArray.empty,To:=ByteArray.empty,Lines:=[],Patch:=({ Hunks:=[] }:Patch) }:TreeChange),({ Kind:=0,Path:=ByteArray.empty,To:=ByteArray.empty,Lines:=[],Patch:=({ Hunks:=[] }:Patch) }:TreeChange),false,y10)))
 else
(ckK .i64 (x7+1)).bind fun z1 =>
 some (Step.next z1)
 else
 some (Step.done (Sum.inr ()))
def Eq (a_:TreeChange) (b_:TreeChange):Option (TreeChange×TreeChange×Bool×Fault) :=
(Eo (fun s=>Eq.l1 a_ b_ s) 0).bind fun r1 =>
(match r1 with
| .inl p=>some p
| .inr _=>Eq.j1 a_ b_)
def Ep.j1:Option Bool :=
 some true
def Ep.l1 (a_:Patch) (b_:Patch) (x1:Int):Option (Step Int (Bool ⊕ Unit)) :=
 if decide (x1 < (a_.Hunks.length:Int)) then
(at? a_.Hunks x1).bind fun y1 =>
(at? b_.Hunks x1).bind fun y2 =>
(if !decide (y1.At=y2.At) then some true else (at? a_.Hunks x1).bind fun y3 =>
(at? b_.Hunks x1).bind fun y4 =>
(D8 y3.Old y4.Old).bind fun y5 =>
 some !y5).bind fun x3 =>
(if x3 then some true else (at? a_.Hunks x1).bind fun y6 =>
(at? b_.Hunks x1).bind fun y7 =>
(D8 y6.New y7.New).bind fun y8 =>
 some !y8).bind fun x4 =>
 if x4 then
 some (Step.done (Sum.inl false))
 else
(ckK .i64 (x1+1)).bind fun z1 =>
 some (Step.next z1)
 else
 some (Step.done (Sum.inr ()))
def Ep (a_:Patch) (b_:Patch):Option Bool :=
 if !decide ((a_.Hunks.length:Int)=(b_.Hunks.length:Int)) then
 some false
 else
(Eo (fun s=>Ep.l1 a_ b_ s) 0).bind fun r1 =>
(match r1 with
| .inl p=>some p
| .inr _=>Ep.j1)
def Kn (a_:TreeChange) (b_:TreeChange):Option Bool :=
(if decide (a_.Kind=b_.Kind) then some (decide (a_.Path=b_.Path)) else some false).bind fun x1 =>
(if x1 then some (decide (a_.To=b_.To)) else some false).bind fun x2 =>
(if x2 then (D8 a_.Lines b_.Lines).bind fun y1 =>
 some y1 else some false).bind fun x3 =>
(if x3 then (Ep a_.Patch b_.Patch).bind fun y2 =>
 some y2 else some false).bind fun x4 =>
 some x4
def Ma:Option Bool :=
(Eq ({ Kind:=3,Path:=(⟨#[98]⟩:ByteArray),To:=(⟨#[97]⟩:ByteArray),Lines:=[],Patch:=({ Hunks:=[] }:Patch) }:TreeChange) ({ Kind:=4,Path:=(⟨#[97]⟩:ByteArray),To:=ByteArray.empty,Lines:=[],Patch:=({ Hunks:=([({ At:=0,Old:=[],New:=([(⟨#[120]⟩:ByteArray)]:Ac) }:Hunk)]:Bc) }:Patch) }:TreeChange)).bind fun y1 =>
(if decide (y1.2.2.2.Code=0) then some y1.2.2.1 else some false).bind fun x1 =>
(if x1 then (Kn y1.1 ({ Kind:=4,Path:=(⟨#[98]⟩:ByteArray),To:=ByteArray.empty,Lines:=[],Patch:=({ Hunks:=([({ At:=0,Old:=[],New:=([(⟨#[120]⟩:ByteArray)]:Ac) }:Hunk)]:Bc) }:Patch) }:TreeChange)).bind fun y2 =>
 some y2 else some false).bind fun x2 =>
(if x2 then (Kn y1.2.1 ({ Kind:=3,Path:=(⟨#[98]⟩:ByteArray),To:=(⟨#[97]⟩:ByteArray),Lines:=[],Patch:=({ Hunks:=[] }:Patch) }:TreeChange)).bind fun y3 =>
 some y3 else some false).bind fun x3 =>
 some x3
def Kb (base:FileTree) (left:TreePatch) (right:TreePatch):Option Bool :=
(A8 base left right).bind fun y1 =>
(Aq base left right).bind fun y2 =>
(Ex y1.1 y2.1).bind fun y3 =>
(if y3 then (Gb y1.2.1 y2.2.1).bind fun y4 =>
 some y4 else some false).bind fun x1 =>
(if x1 then some (decide (y1.2.2.Code=y2.2.2.Code) && decide (y1.2.2.Index=y2.2.2.Index)) else some false).bind fun x2 =>
(if x2 then (Ma).bind fun y5 =>
 some y5 else some false).bind fun x3 =>
 some x3
end Go.Dc
