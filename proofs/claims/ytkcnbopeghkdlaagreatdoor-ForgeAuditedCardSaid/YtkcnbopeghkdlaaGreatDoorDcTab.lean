import Derived.Test.YtkcnbopeghkdlaaGreatDoorDcTy
import Derived.Test.YtkcnbopeghkdlaaGreatDoorDcR
import Derived.Test.YtkcnbopeghkdlaaGreatDoorDcRS
import Derived.Test.YtkcnbopeghkdlaaGreatDoorDcSh
import Derived.Test.YtkcnbopeghkdlaaGreatDoorProg
import Derived.KernelRfl
namespace Go.Dc
open Go Go.Proofs
noncomputable abbrev Un (T:Nat):=Tryz.prog.underlying T
noncomputable abbrev Sz (T:Nat):=(Tryz.prog.info? T).map (·.size)
noncomputable abbrev Zv (T:Nat):=(Tryz.prog.info? T).bind (·.zero)
noncomputable abbrev Ft (T i:Nat):=((Tryz.prog.fieldsOf T)[i]?).map (fun f=>(f.offset,f.type))
def Tc (f:Nat):Prop:=∀ (args:Array Value) (w:World),(callFunc f args).run Tryz.prog w=.ok (.enter f args) w
theorem mo:Tryz.prog.follows .mixedOrders=true:=by kernel_rfl
theorem tx150 (s:ByteArray) (c:Int) (w:World):(callFunc 150 #[.string s,.int .u8 c]).run Tryz.prog w=.ok (.value (.int .i64 (idxB s c))) w:=run_idxB (fn:=Tryz.f150) Tryz.func150 (by kernel_rfl) (by kernel_rfl) (by kernel_rfl) (by kernel_rfl) s c w
theorem tu9:Un 9=some (.string):=by kernel_rfl
theorem tu5:Un 5=some (.int .u8):=by kernel_rfl
theorem tc130:Tc 130:=fun _ _=>by kernel_rfl
theorem tc170:Tc 170:=fun _ _=>by kernel_rfl
theorem tz4:Zv 4=some (.bool false):=by kernel_rfl
theorem ts4:Sz 4=some 1:=by kernel_rfl
theorem tu4:Un 4=some (.bool):=by kernel_rfl
theorem tc99:Tc 99:=fun _ _=>by kernel_rfl
theorem tc128:Tc 128:=fun _ _=>by kernel_rfl
theorem tc147:Tc 147:=fun _ _=>by kernel_rfl
theorem tc100:Tc 100:=fun _ _=>by kernel_rfl
theorem tc149:Tc 149:=fun _ _=>by kernel_rfl
theorem tu3:Un 3=some (.int .i64):=by kernel_rfl
theorem ts9:Sz 9=some 1:=by kernel_rfl
theorem tc129:Tc 129:=fun _ _=>by kernel_rfl
theorem tc101:Tc 101:=fun _ _=>by kernel_rfl
theorem Gn:Zv 29=some (.agg #[.int .i64 0,.int .i64 0]):=by kernel_rfl
theorem D2:Un 63=some (.slice 9):=by kernel_rfl
theorem Gi (x0:Int) (x1:Int) (w:World):(Instr.build 29 [(0,.int .i64 x0),(1,.int .i64 x1)].toArray).run Tryz.prog w=.ok (.agg #[.int .i64 x0,.int .i64 x1]) w:=by kernel_rfl
theorem Bk:Sz 29=some 2:=by kernel_rfl
theorem Cj:Un 29=some (.struct (Tryz.prog.fieldsOf 29)):=by kernel_rfl
theorem G9  (w:World):(Instr.build 29 [].toArray).run Tryz.prog w=.ok (.agg #[.int .i64 0,.int .i64 0]) w:=by kernel_rfl
theorem tc102:Tc 102:=fun _ _=>by kernel_rfl
theorem Lc:Un 101=some (.struct (Tryz.prog.fieldsOf 101)):=by kernel_rfl
theorem Vi:Ft 101 0=some (0,3):=by kernel_rfl
theorem ts3:Sz 3=some 1:=by kernel_rfl
theorem Wa:Ft 101 1=some (1,63):=by kernel_rfl
theorem Lk:Sz 63=some 1:=by kernel_rfl
theorem Xj:Ft 101 2=some (2,63):=by kernel_rfl
theorem M4:Sz 101=some 3:=by kernel_rfl
theorem tc104:Tc 104:=fun _ _=>by kernel_rfl
theorem tb202_0_1 (x0:Value) (h0:V3 x0) (x1:Value) (h1:V3 x1) (w:World):(Instr.build 202 [(0,x0),(1,x1)].toArray).run Tryz.prog w=.ok (.agg #[x0,x1]) w:=by obtain ⟨a0,n0,c0,rfl⟩:=h0;obtain ⟨a1,n1,c1,rfl⟩:=h1;kernel_rfl
theorem tu202:Un 202=some (.array 2 63):=by kernel_rfl
theorem tc81:Tc 81:=fun _ _=>by kernel_rfl
theorem tqa29:Tryz.prog.stoodInHeld 29=false:=by kernel_rfl
theorem tqb29:Tryz.prog.eqGuardType Tryz.prog.depth 29=false:=by kernel_rfl
theorem tqc29 : (Tryz.prog.fieldsOf 29).toList.map (fun f => (f.name, f.type, f.offset)) = [("Code", 3, 0), ("Index", 3, 1)] := by kernel_rfl
theorem K6:Ft 29 0=some (0,3):=by kernel_rfl
theorem Ts:Un 66=some (.struct (Tryz.prog.fieldsOf 66)):=by kernel_rfl
theorem Tf:Ft 66 0=some (0,64):=by kernel_rfl
theorem U9:Sz 64=some 1:=by kernel_rfl
theorem Lj:Un 64=some (.slice 101):=by kernel_rfl
theorem tz101:Zv 101=some (.agg #[.int .i64 0,.slice Option.none 0 0,.slice Option.none 0 0]):=by kernel_rfl
theorem tc103:Tc 103:=fun _ _=>by kernel_rfl
theorem Ms:Un 68=some (.struct (Tryz.prog.fieldsOf 68)):=by kernel_rfl
theorem Yo:Ft 68 0=some (0,3):=by kernel_rfl
theorem Yr:Ft 68 1=some (1,9):=by kernel_rfl
theorem tc79:Tc 79:=fun _ _=>by kernel_rfl
theorem Y5:Ft 68 2=some (2,9):=by kernel_rfl
theorem tc80:Tc 80:=fun _ _=>by kernel_rfl
theorem tf68_3:Ft 68 3=some (3,63):=by kernel_rfl
theorem tf68_4:Ft 68 4=some (4,66):=by kernel_rfl
theorem Vl:Sz 66=some 1:=by kernel_rfl
theorem tc82:Tc 82:=fun _ _=>by kernel_rfl
theorem Ot:Un 40=some (.struct (Tryz.prog.fieldsOf 40)):=by kernel_rfl
theorem Xy:Ft 40 0=some (0,38):=by kernel_rfl
theorem ts38:Sz 38=some 1:=by kernel_rfl
theorem Mq:Un 38=some (.slice 68):=by kernel_rfl
theorem Wn:Sz 68=some 5:=by kernel_rfl
theorem tz68:Zv 68=some (.agg #[.int .i64 0,.string ByteArray.empty,.string ByteArray.empty,.slice Option.none 0 0,.slice Option.none 0 0]):=by kernel_rfl
theorem tc62:Tc 62:=fun _ _=>by kernel_rfl
theorem U7:Un 70=some (.struct (Tryz.prog.fieldsOf 70)):=by kernel_rfl
theorem tf70_0:Ft 70 0=some (0,3):=by kernel_rfl
theorem Yk:Ft 70 3=some (3,3):=by kernel_rfl
theorem tf70_1:Ft 70 1=some (1,3):=by kernel_rfl
theorem tf70_2:Ft 70 2=some (2,3):=by kernel_rfl
theorem tc54:Tc 54:=fun _ _=>by kernel_rfl
theorem tf70_4:Ft 70 4=some (4,40):=by kernel_rfl
theorem Nv:Sz 40=some 1:=by kernel_rfl
theorem tc43:Tc 43:=fun _ _=>by kernel_rfl
theorem Hg:Un 22=some (.slice 3):=by kernel_rfl
theorem tu23:Un 23=some (.slice 70):=by kernel_rfl
theorem ts70:Sz 70=some 5:=by kernel_rfl
theorem tz70:Zv 70=some (.agg #[.int .i64 0,.int .i64 0,.int .i64 0,.int .i64 0,.slice Option.none 0 0]):=by kernel_rfl
theorem tc55:Tc 55:=fun _ _=>by kernel_rfl
theorem W5:Zv 26=some (.agg #[.slice Option.none 0 0]):=by kernel_rfl
theorem Uy:Un 60=some (.struct (Tryz.prog.fieldsOf 60)):=by kernel_rfl
theorem Zn:Ft 60 1=some (1,56):=by kernel_rfl
theorem ts56:Sz 56=some 1:=by kernel_rfl
theorem Vb:Un 56=some (.slice 26):=by kernel_rfl
theorem Gw:Sz 26=some 1:=by kernel_rfl
theorem Gv:Un 26=some (.struct (Tryz.prog.fieldsOf 26)):=by kernel_rfl
theorem Mt:Un 91=some (.struct (Tryz.prog.fieldsOf 91)):=by kernel_rfl
theorem Od:Ft 91 0=some (0,9):=by kernel_rfl
theorem Uw:Ft 91 1=some (1,63):=by kernel_rfl
theorem tc69:Tc 69:=fun _ _=>by kernel_rfl
theorem Km:Ft 26 0=some (0,24):=by kernel_rfl
theorem Og:Sz 24=some 1:=by kernel_rfl
theorem Gs:Un 24=some (.slice 91):=by kernel_rfl
theorem tc67:Tc 67:=fun _ _=>by kernel_rfl
theorem K0:Sz 91=some 2:=by kernel_rfl
theorem tz91:Zv 91=some (.agg #[.string ByteArray.empty,.slice Option.none 0 0]):=by kernel_rfl
theorem tc68:Tc 68:=fun _ _=>by kernel_rfl
theorem te9:ElemT Tryz.prog 9 1 16 (.string ByteArray.empty):=⟨by kernel_rfl,by kernel_rfl,by kernel_rfl,rfl⟩
theorem tc41:Tc 41:=fun _ _=>by kernel_rfl
theorem tb91_0_1 (x0:ByteArray) (x1:Value) (h1:V3 x1) (w:World):(Instr.build 91 [(0,.string x0),(1,x1)].toArray).run Tryz.prog w=.ok (.agg #[.string x0,x1]) w:=by obtain ⟨a1,n1,c1,rfl⟩:=h1;kernel_rfl
theorem te91:ElemT Tryz.prog 91 2 40 (.agg #[.string ByteArray.empty,.slice Option.none 0 0]):=⟨by kernel_rfl,by kernel_rfl,by kernel_rfl,rfl⟩
theorem tc86:Tc 86:=fun _ _=>by kernel_rfl
theorem tc105:Tc 105:=fun _ _=>by kernel_rfl
theorem tc84:Tc 84:=fun _ _=>by kernel_rfl
theorem tx151 (p q:ByteArray) (w:World):(callFunc 151 #[.string p,.string q]).run Tryz.prog w=.ok (.value (.int .i64 (cmpB p q))) w:=run_cmpB (fn:=Tryz.f151) Tryz.func151 (by kernel_rfl) (by kernel_rfl) (by kernel_rfl) (by kernel_rfl) p q w
theorem tc131:Tc 131:=fun _ _=>by kernel_rfl
theorem tc108:Tc 108:=fun _ _=>by kernel_rfl
theorem tc106:Tc 106:=fun _ _=>by kernel_rfl
theorem tc107:Tc 107:=fun _ _=>by kernel_rfl
theorem tu171:Un 171=some (.int .u64):=by kernel_rfl
theorem zr91 (g:Gh):Rep.rep g (({ Path:=ByteArray.empty,Lines:=[] }:File):File) [.string ByteArray.empty,.slice Option.none 0 0]:=Tt (.nil _)
theorem tc85:Tc 85:=fun _ _=>by kernel_rfl
theorem tb91_0 (x0:ByteArray) (w:World):(Instr.build 91 [(0,.string x0)].toArray).run Tryz.prog w=.ok (.agg #[.string x0,.slice Option.none 0 0]) w:=by kernel_rfl
theorem tc109:Tc 109:=fun _ _=>by kernel_rfl
theorem tc111:Tc 111:=fun _ _=>by kernel_rfl
theorem tc110:Tc 110:=fun _ _=>by kernel_rfl
theorem tc87:Tc 87:=fun _ _=>by kernel_rfl
theorem tc88:Tc 88:=fun _ _=>by kernel_rfl
theorem tc89:Tc 89:=fun _ _=>by kernel_rfl
theorem tb26_  (w:World):(Instr.build 26 [].toArray).run Tryz.prog w=.ok (.agg #[.slice Option.none 0 0]) w:=by kernel_rfl
theorem tc70:Tc 70:=fun _ _=>by kernel_rfl
theorem tc20:Tc 20:=fun _ _=>by kernel_rfl
theorem tc71:Tc 71:=fun _ _=>by kernel_rfl
theorem tz3:Zv 3=some (.int .i64 0):=by kernel_rfl
theorem te3:ElemT Tryz.prog 3 1 8 (.int .i64 0):=⟨by kernel_rfl,by kernel_rfl,by kernel_rfl,rfl⟩
theorem tz22:Zv 22=some (.slice Option.none 0 0):=by kernel_rfl
theorem ts22:Sz 22=some 1:=by kernel_rfl
theorem tc134:Tc 134:=fun _ _=>by kernel_rfl
theorem U4:Un 181=some (.struct (Tryz.prog.fieldsOf 181)):=by kernel_rfl
theorem tf181_1:Ft 181 1=some (1,3):=by kernel_rfl
theorem tf181_2:Ft 181 2=some (2,4):=by kernel_rfl
theorem tc135:Tc 135:=fun _ _=>by kernel_rfl
theorem Xm:Ft 181 0=some (0,64):=by kernel_rfl
theorem tb101_0 (x0:Int) (w:World):(Instr.build 101 [(0,.int .i64 x0)].toArray).run Tryz.prog w=.ok (.agg #[.int .i64 x0,.slice Option.none 0 0,.slice Option.none 0 0]) w:=by kernel_rfl
theorem te101:ElemT Tryz.prog 101 3 56 (.agg #[.int .i64 0,.slice Option.none 0 0,.slice Option.none 0 0]):=⟨by kernel_rfl,by kernel_rfl,by kernel_rfl,rfl⟩
theorem tz66:Zv 66=some (.agg #[.slice Option.none 0 0]):=by kernel_rfl
theorem tc112:Tc 112:=fun _ _=>by kernel_rfl
theorem tb66_  (w:World):(Instr.build 66 [].toArray).run Tryz.prog w=.ok (.agg #[.slice Option.none 0 0]) w:=by kernel_rfl
theorem tz181:Zv 181=some (.agg #[.slice Option.none 0 0,.int .i64 0,.bool false]):=by kernel_rfl
theorem tc117:Tc 117:=fun _ _=>by kernel_rfl
theorem tb66_0 (x0:Value) (h0:V3 x0) (w:World):(Instr.build 66 [(0,x0)].toArray).run Tryz.prog w=.ok (.agg #[x0]) w:=by obtain ⟨a0,n0,c0,rfl⟩:=h0;kernel_rfl
theorem tc113:Tc 113:=fun _ _=>by kernel_rfl
theorem tc114:Tc 114:=fun _ _=>by kernel_rfl
theorem tc115:Tc 115:=fun _ _=>by kernel_rfl
theorem tc116:Tc 116:=fun _ _=>by kernel_rfl
theorem te68:ElemT Tryz.prog 68 5 88 (.agg #[.int .i64 0,.string ByteArray.empty,.string ByteArray.empty,.slice Option.none 0 0,.slice Option.none 0 0]):=⟨by kernel_rfl,by kernel_rfl,by kernel_rfl,rfl⟩
theorem zr68 (g:Gh):Rep.rep g (({ Kind:=0,Path:=ByteArray.empty,To:=ByteArray.empty,Lines:=[],Patch:=({ Hunks:=[] }:Patch) }:TreeChange):TreeChange) [.int .i64 0,.string ByteArray.empty,.string ByteArray.empty,.slice Option.none 0 0,.slice Option.none 0 0]:=Mg (.nil _) (.nil _)
theorem tc118:Tc 118:=fun _ _=>by kernel_rfl
theorem tu186:Un 186=some (.slice 38):=by kernel_rfl
theorem Yv:Zv 40=some (.agg #[.slice Option.none 0 0]):=by kernel_rfl
theorem tb40_  (w:World):(Instr.build 40 [].toArray).run Tryz.prog w=.ok (.agg #[.slice Option.none 0 0]) w:=by kernel_rfl
theorem te38:ElemT Tryz.prog 38 1 24 (.slice Option.none 0 0):=⟨by kernel_rfl,by kernel_rfl,by kernel_rfl,rfl⟩
theorem tc91:Tc 91:=fun _ _=>by kernel_rfl
theorem tb40_0 (x0:Value) (h0:V3 x0) (w:World):(Instr.build 40 [(0,x0)].toArray).run Tryz.prog w=.ok (.agg #[x0]) w:=by obtain ⟨a0,n0,c0,rfl⟩:=h0;kernel_rfl
theorem tb68_0_1_3 (x0:Int) (x1:ByteArray) (x3:Value) (h3:V3 x3) (w:World):(Instr.build 68 [(0,.int .i64 x0),(1,.string x1),(3,x3)].toArray).run Tryz.prog w=.ok (.agg #[.int .i64 x0,.string x1,.string ByteArray.empty,x3,.slice Option.none 0 0]) w:=by obtain ⟨a3,n3,c3,rfl⟩:=h3;kernel_rfl
theorem tc90:Tc 90:=fun _ _=>by kernel_rfl
theorem tb68_0_1_4 (x0:Int) (x1:ByteArray) (x4:Value) (h4:V3 x4) (w:World):(Instr.build 68 [(0,.int .i64 x0),(1,.string x1),(4,.agg #[x4])].toArray).run Tryz.prog w=.ok (.agg #[.int .i64 x0,.string x1,.string ByteArray.empty,.slice Option.none 0 0,x4]) w:=by obtain ⟨a4,n4,c4,rfl⟩:=h4;kernel_rfl
theorem tu122:Un 122=some (.array 2 3):=by kernel_rfl
theorem tc83:Tc 83:=fun _ _=>by kernel_rfl
theorem tu96:Un 96=some (.slice 5):=by kernel_rfl
theorem tb29_0 (x0:Int) (w:World):(Instr.build 29 [(0,.int .i64 x0)].toArray).run Tryz.prog w=.ok (.agg #[.int .i64 x0,.int .i64 0]) w:=by kernel_rfl
theorem ts5:Sz 5=some 1:=by kernel_rfl
theorem tb122_0_1 (x0:Int) (x1:Int) (w:World):(Instr.build 122 [(0,.int .i64 x0),(1,.int .i64 x1)].toArray).run Tryz.prog w=.ok (.agg #[.int .i64 x0,.int .i64 x1]) w:=by kernel_rfl
theorem tc63:Tc 63:=fun _ _=>by kernel_rfl
theorem tc64:Tc 64:=fun _ _=>by kernel_rfl
theorem tb121_0_1 (x0:Int) (x1:Int) (w:World):(Instr.build 121 [(0,.int .i64 x0),(1,.int .i64 x1)].toArray).run Tryz.prog w=.ok (.agg #[.int .i64 x0,.int .i64 x1]) w:=by kernel_rfl
theorem tu121:Un 121=some (.array 2 3):=by kernel_rfl
theorem tc65:Tc 65:=fun _ _=>by kernel_rfl
theorem tc45:Tc 45:=fun _ _=>by kernel_rfl
theorem tc48:Tc 48:=fun _ _=>by kernel_rfl
theorem tc47:Tc 47:=fun _ _=>by kernel_rfl
theorem tc44:Tc 44:=fun _ _=>by kernel_rfl
theorem tc46:Tc 46:=fun _ _=>by kernel_rfl
theorem tc27:Tc 27:=fun _ _=>by kernel_rfl
theorem te5:ElemT Tryz.prog 5 1 1 (.int .u8 0):=⟨by kernel_rfl,by kernel_rfl,by kernel_rfl,rfl⟩
theorem tc33:Tc 33:=fun _ _=>by kernel_rfl
theorem tc119:Tc 119:=fun _ _=>by kernel_rfl
theorem Tp:Un 115=some (.struct (Tryz.prog.fieldsOf 115)):=by kernel_rfl
theorem tf115_4:Ft 115 4=some (4,40):=by kernel_rfl
theorem tc26:Tc 26:=fun _ _=>by kernel_rfl
theorem tf115_0:Ft 115 0=some (0,3):=by kernel_rfl
theorem tf115_1:Ft 115 1=some (1,3):=by kernel_rfl
theorem tf115_2:Ft 115 2=some (2,3):=by kernel_rfl
theorem tc92:Tc 92:=fun _ _=>by kernel_rfl
theorem tf60_2:Ft 60 2=some (2,57):=by kernel_rfl
theorem ts57:Sz 57=some 1:=by kernel_rfl
theorem tu57:Un 57=some (.slice 111):=by kernel_rfl
theorem ts111:Sz 111=some 4:=by kernel_rfl
theorem W9:Un 111=some (.struct (Tryz.prog.fieldsOf 111)):=by kernel_rfl
theorem tf111_1:Ft 111 1=some (1,3):=by kernel_rfl
theorem tf111_0:Ft 111 0=some (0,26):=by kernel_rfl
theorem Zd:Tc 72:=fun _ _=>by kernel_rfl
theorem V0:Ft 60 3=some (3,58):=by kernel_rfl
theorem ts58:Sz 58=some 1:=by kernel_rfl
theorem M8:Un 58=some (.slice 115):=by kernel_rfl
theorem tf111_2:Ft 111 2=some (2,3):=by kernel_rfl
theorem tb115_0_1_2_4 (x0:Int) (x1:Int) (x2:Int) (x4:Value) (h4:V3 x4) (w:World):(Instr.build 115 [(0,.int .i64 x0),(1,.int .i64 x1),(2,.int .i64 x2),(4,.agg #[x4])].toArray).run Tryz.prog w=.ok (.agg #[.int .i64 x0,.int .i64 x1,.int .i64 x2,.int .i64 0,x4]) w:=by obtain ⟨a4,n4,c4,rfl⟩:=h4;kernel_rfl
theorem tz115:Zv 115=some (.agg #[.int .i64 0,.int .i64 0,.int .i64 0,.int .i64 0,.slice Option.none 0 0]):=by kernel_rfl
theorem Nq:Sz 115=some 5:=by kernel_rfl
theorem tc74:Tc 74:=fun _ _=>by kernel_rfl
theorem tc73:Tc 73:=fun _ _=>by kernel_rfl
theorem tf115_3:Ft 115 3=some (3,3):=by kernel_rfl
theorem te115:ElemT Tryz.prog 115 5 56 (.agg #[.int .i64 0,.int .i64 0,.int .i64 0,.int .i64 0,.slice Option.none 0 0]):=⟨by kernel_rfl,by kernel_rfl,by kernel_rfl,rfl⟩
theorem tc56:Tc 56:=fun _ _=>by kernel_rfl
theorem tc21:Tc 21:=fun _ _=>by kernel_rfl
theorem tc57:Tc 57:=fun _ _=>by kernel_rfl
theorem tc58:Tc 58:=fun _ _=>by kernel_rfl
theorem zr115 (g:Gh):Rep.rep g (({ user:=0,number:=0,base:=0,signature:=0,patch:=({ Changes:=[] }:TreePatch) }:Message_forge):Message_forge) [.int .i64 0,.int .i64 0,.int .i64 0,.int .i64 0,.slice Option.none 0 0]:=Oq (.nil _)
theorem tc138:Tc 138:=fun _ _=>by kernel_rfl
theorem tc137:Tc 137:=fun _ _=>by kernel_rfl
theorem tc153:Tc 153:=fun _ _=>by kernel_rfl
theorem tc139:Tc 139:=fun _ _=>by kernel_rfl
theorem tc120:Tc 120:=fun _ _=>by kernel_rfl
theorem tc136:Tc 136:=fun _ _=>by kernel_rfl
theorem tc121:Tc 121:=fun _ _=>by kernel_rfl
theorem tc122:Tc 122:=fun _ _=>by kernel_rfl
theorem tc123:Tc 123:=fun _ _=>by kernel_rfl
theorem tz160:Zv 160=some (.agg #[.bool false,.slice Option.none 0 0]):=by kernel_rfl
theorem tb160_  (w:World):(Instr.build 160 [].toArray).run Tryz.prog w=.ok (.agg #[.bool false,.slice Option.none 0 0]) w:=by kernel_rfl
theorem Nr:Sz 160=some 2:=by kernel_rfl
theorem L8:Un 160=some (.struct (Tryz.prog.fieldsOf 160)):=by kernel_rfl
theorem tb160_0_1 (x0:Bool) (x1:Value) (h1:V3 x1) (w:World):(Instr.build 160 [(0,.bool x0),(1,x1)].toArray).run Tryz.prog w=.ok (.agg #[.bool x0,x1]) w:=by obtain ⟨a1,n1,c1,rfl⟩:=h1;kernel_rfl
theorem Xg:Ft 160 0=some (0,4):=by kernel_rfl
theorem Zi:Ft 160 1=some (1,63):=by kernel_rfl
theorem tc178:Tc 178:=fun _ _=>by kernel_rfl
theorem tb218_0_1_2 (x0:Int) (x1:Int) (x2:Int) (w:World):(Instr.build 218 [(0,.int .i64 x0),(1,.int .i64 x1),(2,.int .i64 x2)].toArray).run Tryz.prog w=.ok (.agg #[.int .i64 x0,.int .i64 x1,.int .i64 x2]) w:=by kernel_rfl
theorem Xa:Un 215=some (.slice 218):=by kernel_rfl
theorem te218:ElemT Tryz.prog 218 3 24 (.agg #[.int .i64 0,.int .i64 0,.int .i64 0]):=⟨by kernel_rfl,by kernel_rfl,by kernel_rfl,rfl⟩
theorem Ny:Un 218=some (.struct (Tryz.prog.fieldsOf 218)):=by kernel_rfl
theorem Vh:Ft 218 0=some (0,3):=by kernel_rfl
theorem Uu:Ft 218 1=some (1,3):=by kernel_rfl
theorem tc165:Tc 165:=fun _ _=>by kernel_rfl
theorem sA218 (w:World):(isAgg 218).run Tryz.prog w=.ok true w:=by kernel_rfl
theorem sZ218 (w:World):(Go.sizeOf 218).run Tryz.prog w=.ok 3 w:=by kernel_rfl
theorem tc167:Tc 167:=fun _ _=>by kernel_rfl
theorem tc166:Tc 166:=fun _ _=>by kernel_rfl
theorem Xv:Sz 218=some 3:=by kernel_rfl
theorem tz218:Zv 218=some (.agg #[.int .i64 0,.int .i64 0,.int .i64 0]):=by kernel_rfl
theorem tc168:Tc 168:=fun _ _=>by kernel_rfl
theorem tu214:Un 214=some (.struct (Tryz.prog.fieldsOf 214)):=by kernel_rfl
theorem Xf:Ft 214 0=some (0,195):=by kernel_rfl
theorem ts195:Sz 195=some 1:=by kernel_rfl
theorem Tm:Un 195=some (.slice 221):=by kernel_rfl
theorem ts221:Sz 221=some 5:=by kernel_rfl
theorem Vs:Un 221=some (.struct (Tryz.prog.fieldsOf 221)):=by kernel_rfl
theorem tf221_1:Ft 221 1=some (1,63):=by kernel_rfl
theorem tf221_0:Ft 221 0=some (0,4):=by kernel_rfl
theorem tb221_  (w:World):(Instr.build 221 [].toArray).run Tryz.prog w=.ok (.agg #[.bool false,.slice Option.none 0 0,.slice Option.none 0 0,.slice Option.none 0 0,.slice Option.none 0 0]) w:=by kernel_rfl
theorem te221:ElemT Tryz.prog 221 5 104 (.agg #[.bool false,.slice Option.none 0 0,.slice Option.none 0 0,.slice Option.none 0 0,.slice Option.none 0 0]):=⟨by kernel_rfl,by kernel_rfl,by kernel_rfl,rfl⟩
theorem tz214:Zv 214=some (.agg #[.slice Option.none 0 0]):=by kernel_rfl
theorem tc143:Tc 143:=fun _ _=>by kernel_rfl
theorem tc142:Tc 142:=fun _ _=>by kernel_rfl
theorem tc144:Tc 144:=fun _ _=>by kernel_rfl
theorem tb221_0_2_3_4 (x0:Bool) (x2:Value) (h2:V3 x2) (x3:Value) (h3:V3 x3) (x4:Value) (h4:V3 x4) (w:World):(Instr.build 221 [(0,.bool x0),(2,x2),(3,x3),(4,x4)].toArray).run Tryz.prog w=.ok (.agg #[.bool x0,.slice Option.none 0 0,x2,x3,x4]) w:=by obtain ⟨a2,n2,c2,rfl⟩:=h2;obtain ⟨a3,n3,c3,rfl⟩:=h3;obtain ⟨a4,n4,c4,rfl⟩:=h4;kernel_rfl
theorem tz221:Zv 221=some (.agg #[.bool false,.slice Option.none 0 0,.slice Option.none 0 0,.slice Option.none 0 0,.slice Option.none 0 0]):=by kernel_rfl
theorem tf221_2:Ft 221 2=some (2,63):=by kernel_rfl
theorem tf221_3:Ft 221 3=some (3,63):=by kernel_rfl
theorem tf221_4:Ft 221 4=some (4,63):=by kernel_rfl
theorem tb244_0_1_2_3 (x0:Value) (h0:V3 x0) (x1:Value) (h1:V3 x1) (x2:Value) (h2:V3 x2) (x3:Value) (h3:V3 x3) (w:World):(Instr.build 244 [(0,x0),(1,x1),(2,x2),(3,x3)].toArray).run Tryz.prog w=.ok (.agg #[x0,x1,x2,x3]) w:=by obtain ⟨a0,n0,c0,rfl⟩:=h0;obtain ⟨a1,n1,c1,rfl⟩:=h1;obtain ⟨a2,n2,c2,rfl⟩:=h2;obtain ⟨a3,n3,c3,rfl⟩:=h3;kernel_rfl
theorem tu244:Un 244=some (.array 4 63):=by kernel_rfl
theorem tc145:Tc 145:=fun _ _=>by kernel_rfl
theorem tc146:Tc 146:=fun _ _=>by kernel_rfl
theorem tc124:Tc 124:=fun _ _=>by kernel_rfl
theorem tc125:Tc 125:=fun _ _=>by kernel_rfl
theorem tc126:Tc 126:=fun _ _=>by kernel_rfl
theorem tu134:Un 134=some (.slice 121):=by kernel_rfl
theorem te121:ElemT Tryz.prog 121 2 16 (.agg #[.int .i64 0,.int .i64 0]):=⟨by kernel_rfl,by kernel_rfl,by kernel_rfl,rfl⟩
theorem tc93:Tc 93:=fun _ _=>by kernel_rfl
theorem tz121:Zv 121=some (.agg #[.int .i64 0,.int .i64 0]):=by kernel_rfl
theorem tc94:Tc 94:=fun _ _=>by kernel_rfl
theorem ts121:Sz 121=some 2:=by kernel_rfl
theorem tc96:Tc 96:=fun _ _=>by kernel_rfl
theorem te26:ElemT Tryz.prog 26 1 24 (.agg #[.slice Option.none 0 0]):=⟨by kernel_rfl,by kernel_rfl,by kernel_rfl,rfl⟩
theorem tc95:Tc 95:=fun _ _=>by kernel_rfl
theorem tc97:Tc 97:=fun _ _=>by kernel_rfl
theorem tf60_0:Ft 60 0=some (0,22):=by kernel_rfl
theorem tc75:Tc 75:=fun _ _=>by kernel_rfl
theorem tf111_3:Ft 111 3=some (3,3):=by kernel_rfl
theorem tc76:Tc 76:=fun _ _=>by kernel_rfl
theorem tf60_4:Ft 60 4=some (4,27):=by kernel_rfl
theorem ts27:Sz 27=some 1:=by kernel_rfl
theorem Qo:Un 27=some (.slice 42):=by kernel_rfl
theorem tb42_0_1_2 (x0:Int) (x1:Int) (x2:Value) (h2:V3 x2) (w:World):(Instr.build 42 [(0,.int .i64 x0),(1,.int .i64 x1),(2,.agg #[x2])].toArray).run Tryz.prog w=.ok (.agg #[.int .i64 x0,.int .i64 x1,x2]) w:=by obtain ⟨a2,n2,c2,rfl⟩:=h2;kernel_rfl
theorem te42:ElemT Tryz.prog 42 3 40 (.agg #[.int .i64 0,.int .i64 0,.slice Option.none 0 0]):=⟨by kernel_rfl,by kernel_rfl,by kernel_rfl,rfl⟩
theorem tc59:Tc 59:=fun _ _=>by kernel_rfl
theorem tc60:Tc 60:=fun _ _=>by kernel_rfl
theorem tc61:Tc 61:=fun _ _=>by kernel_rfl
theorem tc38:Tc 38:=fun _ _=>by kernel_rfl
theorem te111:ElemT Tryz.prog 111 4 48 (.agg #[.slice Option.none 0 0,.int .i64 0,.int .i64 0,.int .i64 0]):=⟨by kernel_rfl,by kernel_rfl,by kernel_rfl,rfl⟩
theorem tb60_0_1_2 (x0:Value) (h0:V3 x0) (x1:Value) (h1:V3 x1) (x2:Value) (h2:V3 x2) (w:World):(Instr.build 60 [(0,x0),(1,x1),(2,x2)].toArray).run Tryz.prog w=.ok (.agg #[x0,x1,x2,.slice Option.none 0 0,.slice Option.none 0 0]) w:=by obtain ⟨a0,n0,c0,rfl⟩:=h0;obtain ⟨a1,n1,c1,rfl⟩:=h1;obtain ⟨a2,n2,c2,rfl⟩:=h2;kernel_rfl
theorem tc40:Tc 40:=fun _ _=>by kernel_rfl
theorem tc39:Tc 39:=fun _ _=>by kernel_rfl
theorem tc19:Tc 19:=fun _ _=>by kernel_rfl
theorem tc49:Tc 49:=fun _ _=>by kernel_rfl
theorem tc50:Tc 50:=fun _ _=>by kernel_rfl
theorem tc29:Tc 29:=fun _ _=>by kernel_rfl
theorem tc51:Tc 51:=fun _ _=>by kernel_rfl
theorem tc28:Tc 28:=fun _ _=>by kernel_rfl
theorem tu42:Un 42=some (.struct (Tryz.prog.fieldsOf 42)):=by kernel_rfl
theorem tf42_0:Ft 42 0=some (0,3):=by kernel_rfl
theorem tf42_1:Ft 42 1=some (1,3):=by kernel_rfl
theorem tf42_2:Ft 42 2=some (2,40):=by kernel_rfl
theorem ts42:Sz 42=some 3:=by kernel_rfl
theorem tz42:Zv 42=some (.agg #[.int .i64 0,.int .i64 0,.slice Option.none 0 0]):=by kernel_rfl
theorem tc10:Tc 10:=fun _ _=>by kernel_rfl
theorem tc22:Tc 22:=fun _ _=>by kernel_rfl
theorem tc11:Tc 11:=fun _ _=>by kernel_rfl
theorem tc30:Tc 30:=fun _ _=>by kernel_rfl
theorem tc13:Tc 13:=fun _ _=>by kernel_rfl
theorem tc42:Tc 42:=fun _ _=>by kernel_rfl
theorem tc66:Tc 66:=fun _ _=>by kernel_rfl
theorem tc52:Tc 52:=fun _ _=>by kernel_rfl
theorem tc31:Tc 31:=fun _ _=>by kernel_rfl
theorem tb26_0 (x0:Value) (h0:V3 x0) (w:World):(Instr.build 26 [(0,x0)].toArray).run Tryz.prog w=.ok (.agg #[x0]) w:=by obtain ⟨a0,n0,c0,rfl⟩:=h0;kernel_rfl
theorem tc23:Tc 23:=fun _ _=>by kernel_rfl
theorem tb70_0_4 (x0:Int) (x4:Value) (h4:V3 x4) (w:World):(Instr.build 70 [(0,.int .i64 x0),(4,.agg #[x4])].toArray).run Tryz.prog w=.ok (.agg #[.int .i64 x0,.int .i64 0,.int .i64 0,.int .i64 0,x4]) w:=by obtain ⟨a4,n4,c4,rfl⟩:=h4;kernel_rfl
theorem tb70_0_2 (x0:Int) (x2:Int) (w:World):(Instr.build 70 [(0,.int .i64 x0),(2,.int .i64 x2)].toArray).run Tryz.prog w=.ok (.agg #[.int .i64 x0,.int .i64 0,.int .i64 x2,.int .i64 0,.slice Option.none 0 0]) w:=by kernel_rfl
theorem tb70_0 (x0:Int) (w:World):(Instr.build 70 [(0,.int .i64 x0)].toArray).run Tryz.prog w=.ok (.agg #[.int .i64 x0,.int .i64 0,.int .i64 0,.int .i64 0,.slice Option.none 0 0]) w:=by kernel_rfl
theorem te70:ElemT Tryz.prog 70 5 56 (.agg #[.int .i64 0,.int .i64 0,.int .i64 0,.int .i64 0,.slice Option.none 0 0]):=⟨by kernel_rfl,by kernel_rfl,by kernel_rfl,rfl⟩
theorem tc6:Tc 6:=fun _ _=>by kernel_rfl
theorem tc25:Tc 25:=fun _ _=>by kernel_rfl
theorem tc24:Tc 24:=fun _ _=>by kernel_rfl
theorem tb42_1_2 (x1:Int) (x2:Value) (h2:V3 x2) (w:World):(Instr.build 42 [(1,.int .i64 x1),(2,.agg #[x2])].toArray).run Tryz.prog w=.ok (.agg #[.int .i64 0,.int .i64 x1,x2]) w:=by obtain ⟨a2,n2,c2,rfl⟩:=h2;kernel_rfl
theorem tc15:Tc 15:=fun _ _=>by kernel_rfl
theorem tc14:Tc 14:=fun _ _=>by kernel_rfl
theorem tc7:Tc 7:=fun _ _=>by kernel_rfl
theorem tc8:Tc 8:=fun _ _=>by kernel_rfl
theorem tc9:Tc 9:=fun _ _=>by kernel_rfl
theorem tc12:Tc 12:=fun _ _=>by kernel_rfl
theorem tc32:Tc 32:=fun _ _=>by kernel_rfl
theorem tu84:Un 84=some (.struct (Tryz.prog.fieldsOf 84)):=by kernel_rfl
theorem tf84_0:Ft 84 0=some (0,22):=by kernel_rfl
theorem tf84_1:Ft 84 1=some (1,4):=by kernel_rfl
theorem tc53:Tc 53:=fun _ _=>by kernel_rfl
theorem tc35:Tc 35:=fun _ _=>by kernel_rfl
theorem tb81_0_1_2_3 (x0:Bool) (x1:Bool) (x2:Bool) (x3:Bool) (w:World):(Instr.build 81 [(0,.bool x0),(1,.bool x1),(2,.bool x2),(3,.bool x3)].toArray).run Tryz.prog w=.ok (.agg #[.bool x0,.bool x1,.bool x2,.bool x3]) w:=by kernel_rfl
theorem tz81:Zv 81=some (.agg #[.bool false,.bool false,.bool false,.bool false]):=by kernel_rfl
theorem ts81:Sz 81=some 4:=by kernel_rfl
theorem tc34:Tc 34:=fun _ _=>by kernel_rfl
theorem tb84_0 (x0:Value) (h0:V3 x0) (w:World):(Instr.build 84 [(0,x0)].toArray).run Tryz.prog w=.ok (.agg #[x0,.bool false]) w:=by obtain ⟨a0,n0,c0,rfl⟩:=h0;kernel_rfl
theorem tc36:Tc 36:=fun _ _=>by kernel_rfl
theorem tu81:Un 81=some (.array 4 4):=by kernel_rfl
theorem tc16:Tc 16:=fun _ _=>by kernel_rfl
theorem tc17:Tc 17:=fun _ _=>by kernel_rfl
theorem tc37:Tc 37:=fun _ _=>by kernel_rfl
theorem tc18:Tc 18:=fun _ _=>by kernel_rfl
theorem nE {n:Fw} {e:List (Nat×Value)} {C:World→Prop} {x y:Operand} {U:TypeId} (a b c d:Int) (hx:Cn e x=some (.agg #[.i6 a,.i6 b]):=by exact rfl) (hy:Cn e y=some (.agg #[.i6 c,.i6 d]):=by exact rfl):Ev Tryz.prog n e C (.binOp .neq 29 x y U) (.bool (!allB [decide (a=c),decide (b=d)])):=ev_neS Cj tqa29 tqb29 tqc29 (xs:=[.i6 a,.i6 b]) (ys:=[.i6 c,.i6 d]) hx hy ⟨_,_,rfl,by decide,⟨_,_,rfl,rfl,L6 tu3⟩,⟨_,_,rfl,by decide,⟨_,_,rfl,rfl,L6 tu3⟩,rfl⟩⟩
end Go.Dc
