import Derived.Test.YtmmegcjbdkaffaaGreatDoorDcTy
import Derived.Test.YtmmegcjbdkaffaaGreatDoorDcR
import Derived.Test.YtmmegcjbdkaffaaGreatDoorDcRS
import Derived.Test.YtmmegcjbdkaffaaGreatDoorDcSh
import Derived.Test.YtmmegcjbdkaffaaGreatDoorProg
import Derived.KernelRfl
namespace Go.Dc
open Go Go.Proofs
noncomputable abbrev Un (T:Nat):=Tryz.prog.underlying T
noncomputable abbrev Sz (T:Nat):=(Tryz.prog.info? T).map (·.size)
noncomputable abbrev Zv (T:Nat):=(Tryz.prog.info? T).bind (·.zero)
noncomputable abbrev Ft (T i:Nat):=((Tryz.prog.fieldsOf T)[i]?).map (fun f=>(f.offset,f.type))
def Tc (f:Nat):Prop:=∀ (args:Array Value) (w:World),(callFunc f args).run Tryz.prog w=.ok (.enter f args) w
theorem mo:Tryz.prog.follows .mixedOrders=true:=by kernel_rfl
theorem tx102 (s:ByteArray) (c:Int) (w:World):(callFunc 102 #[.string s,.int .u8 c]).run Tryz.prog w=.ok (.value (.int .i64 (idxB s c))) w:=run_idxB (fn:=Tryz.f102) Tryz.func102 (by kernel_rfl) (by kernel_rfl) (by kernel_rfl) (by kernel_rfl) s c w
theorem tu9:Un 9=some (.string):=by kernel_rfl
theorem tu5:Un 5=some (.int .u8):=by kernel_rfl
theorem tc84:Tc 84:=fun _ _=>by kernel_rfl
theorem tc101:Tc 101:=fun _ _=>by kernel_rfl
theorem tz4:Zv 4=some (.bool false):=by kernel_rfl
theorem ts4:Sz 4=some 1:=by kernel_rfl
theorem tu4:Un 4=some (.bool):=by kernel_rfl
theorem tc43:Tc 43:=fun _ _=>by kernel_rfl
theorem tc62:Tc 62:=fun _ _=>by kernel_rfl
theorem tc80:Tc 80:=fun _ _=>by kernel_rfl
theorem tc44:Tc 44:=fun _ _=>by kernel_rfl
theorem tc82:Tc 82:=fun _ _=>by kernel_rfl
theorem tu3:Un 3=some (.int .i64):=by kernel_rfl
theorem ts9:Sz 9=some 1:=by kernel_rfl
theorem tc83:Tc 83:=fun _ _=>by kernel_rfl
theorem tc63:Tc 63:=fun _ _=>by kernel_rfl
theorem D5:Zv 29=some (.agg #[.int .i64 0,.int .i64 0]):=by kernel_rfl
theorem Ch:Un 62=some (.slice 9):=by kernel_rfl
theorem D6 (x0:Int) (x1:Int) (w:World):(Instr.build 29 [(0,.int .i64 x0),(1,.int .i64 x1)].toArray).run Tryz.prog w=.ok (.agg #[.int .i64 x0,.int .i64 x1]) w:=by kernel_rfl
theorem Bc:Sz 29=some 2:=by kernel_rfl
theorem B7:Un 29=some (.struct (Tryz.prog.fieldsOf 29)):=by kernel_rfl
theorem El  (w:World):(Instr.build 29 [].toArray).run Tryz.prog w=.ok (.agg #[.int .i64 0,.int .i64 0]) w:=by kernel_rfl
theorem tc64:Tc 64:=fun _ _=>by kernel_rfl
theorem Gm:Un 115=some (.struct (Tryz.prog.fieldsOf 115)):=by kernel_rfl
theorem Oo:Ft 115 0=some (0,3):=by kernel_rfl
theorem ts3:Sz 3=some 1:=by kernel_rfl
theorem Qi:Ft 115 1=some (1,62):=by kernel_rfl
theorem Gt:Sz 62=some 1:=by kernel_rfl
theorem Tk:Ft 115 2=some (2,62):=by kernel_rfl
theorem Kd:Sz 115=some 3:=by kernel_rfl
theorem tc76:Tc 76:=fun _ _=>by kernel_rfl
theorem tb160_0_1 (x0:Value) (h0:Qw x0) (x1:Value) (h1:Qw x1) (w:World):(Instr.build 160 [(0,x0),(1,x1)].toArray).run Tryz.prog w=.ok (.agg #[x0,x1]) w:=by obtain ⟨a0,n0,c0,rfl⟩:=h0;obtain ⟨a1,n1,c1,rfl⟩:=h1;kernel_rfl
theorem tu160:Un 160=some (.array 2 62):=by kernel_rfl
theorem tc46:Tc 46:=fun _ _=>by kernel_rfl
theorem tqa29:Tryz.prog.stoodInHeld 29=false:=by kernel_rfl
theorem tqb29:Tryz.prog.eqGuardType Tryz.prog.depth 29=false:=by kernel_rfl
theorem tqc29 : (Tryz.prog.fieldsOf 29).toList.map (fun f => (f.name, f.type, f.offset)) = [("Code", 3, 0), ("Index", 3, 1)] := by kernel_rfl
theorem Ho:Ft 29 0=some (0,3):=by kernel_rfl
theorem M7:Un 65=some (.struct (Tryz.prog.fieldsOf 65)):=by kernel_rfl
theorem Mz:Ft 65 0=some (0,63):=by kernel_rfl
theorem On:Sz 63=some 1:=by kernel_rfl
theorem Gv:Un 63=some (.slice 115):=by kernel_rfl
theorem tz115:Zv 115=some (.agg #[.int .i64 0,.slice Option.none 0 0,.slice Option.none 0 0]):=by kernel_rfl
theorem tc75:Tc 75:=fun _ _=>by kernel_rfl
theorem H2:Un 67=some (.struct (Tryz.prog.fieldsOf 67)):=by kernel_rfl
theorem Ut:Ft 67 0=some (0,3):=by kernel_rfl
theorem Uq:Ft 67 1=some (1,9):=by kernel_rfl
theorem tc29:Tc 29:=fun _ _=>by kernel_rfl
theorem Vo:Ft 67 2=some (2,9):=by kernel_rfl
theorem tc45:Tc 45:=fun _ _=>by kernel_rfl
theorem tf67_3:Ft 67 3=some (3,62):=by kernel_rfl
theorem tf67_4:Ft 67 4=some (4,65):=by kernel_rfl
theorem Oy:Sz 65=some 1:=by kernel_rfl
theorem tc55:Tc 55:=fun _ _=>by kernel_rfl
theorem Ky:Un 37=some (.struct (Tryz.prog.fieldsOf 37)):=by kernel_rfl
theorem T8:Ft 37 0=some (0,35):=by kernel_rfl
theorem ts35:Sz 35=some 1:=by kernel_rfl
theorem Hy:Un 35=some (.slice 67):=by kernel_rfl
theorem Ql:Sz 67=some 5:=by kernel_rfl
theorem tz67:Zv 67=some (.agg #[.int .i64 0,.string ByteArray.empty,.string ByteArray.empty,.slice Option.none 0 0,.slice Option.none 0 0]):=by kernel_rfl
theorem tc37:Tc 37:=fun _ _=>by kernel_rfl
theorem Lh:Un 44=some (.struct (Tryz.prog.fieldsOf 44)):=by kernel_rfl
theorem Q0:Ft 44 0=some (0,3):=by kernel_rfl
theorem Ur:Ft 44 3=some (3,3):=by kernel_rfl
theorem tf44_1:Ft 44 1=some (1,3):=by kernel_rfl
theorem tf44_2:Ft 44 2=some (2,3):=by kernel_rfl
theorem tc48:Tc 48:=fun _ _=>by kernel_rfl
theorem tf44_4:Ft 44 4=some (4,37):=by kernel_rfl
theorem Ke:Sz 37=some 1:=by kernel_rfl
theorem tc25:Tc 25:=fun _ _=>by kernel_rfl
theorem Gn:Un 22=some (.slice 3):=by kernel_rfl
theorem Ls:Un 23=some (.slice 44):=by kernel_rfl
theorem Tf:Sz 44=some 5:=by kernel_rfl
theorem tz44:Zv 44=some (.agg #[.int .i64 0,.int .i64 0,.int .i64 0,.int .i64 0,.slice Option.none 0 0]):=by kernel_rfl
theorem tc49:Tc 49:=fun _ _=>by kernel_rfl
theorem te9:ElemT Tryz.prog 9 1 16 (.string ByteArray.empty):=⟨by kernel_rfl,by kernel_rfl,by kernel_rfl,rfl⟩
theorem Mf:Zv 26=some (.agg #[.slice Option.none 0 0]):=by kernel_rfl
theorem Cz:Un 26=some (.struct (Tryz.prog.fieldsOf 26)):=by kernel_rfl
theorem Cm:Sz 26=some 1:=by kernel_rfl
theorem Ex:Ft 26 0=some (0,24):=by kernel_rfl
theorem Lc:Sz 24=some 1:=by kernel_rfl
theorem Di:Un 24=some (.slice 75):=by kernel_rfl
theorem Gb:Sz 75=some 2:=by kernel_rfl
theorem H1:Un 75=some (.struct (Tryz.prog.fieldsOf 75)):=by kernel_rfl
theorem tz75:Zv 75=some (.agg #[.string ByteArray.empty,.slice Option.none 0 0]):=by kernel_rfl
theorem Lg:Ft 75 0=some (0,9):=by kernel_rfl
theorem N9:Ft 75 1=some (1,62):=by kernel_rfl
theorem tc36:Tc 36:=fun _ _=>by kernel_rfl
theorem tb75_0_1 (x0:ByteArray) (x1:Value) (h1:Qw x1) (w:World):(Instr.build 75 [(0,.string x0),(1,x1)].toArray).run Tryz.prog w=.ok (.agg #[.string x0,x1]) w:=by obtain ⟨a1,n1,c1,rfl⟩:=h1;kernel_rfl
theorem te75:ElemT Tryz.prog 75 2 40 (.agg #[.string ByteArray.empty,.slice Option.none 0 0]):=⟨by kernel_rfl,by kernel_rfl,by kernel_rfl,rfl⟩
theorem tc30:Tc 30:=fun _ _=>by kernel_rfl
theorem tc31:Tc 31:=fun _ _=>by kernel_rfl
theorem tc13:Tc 13:=fun _ _=>by kernel_rfl
theorem tx98 (p q:ByteArray) (w:World):(callFunc 98 #[.string p,.string q]).run Tryz.prog w=.ok (.value (.int .i64 (cmpB p q))) w:=run_cmpB (fn:=Tryz.f98) Tryz.func98 (by kernel_rfl) (by kernel_rfl) (by kernel_rfl) (by kernel_rfl) p q w
theorem tc77:Tc 77:=fun _ _=>by kernel_rfl
theorem tc58:Tc 58:=fun _ _=>by kernel_rfl
theorem tc56:Tc 56:=fun _ _=>by kernel_rfl
theorem tc57:Tc 57:=fun _ _=>by kernel_rfl
theorem tu138:Un 138=some (.int .u64):=by kernel_rfl
theorem zr75 (g:Gh):Rep.rep g (({ Path:=ByteArray.empty,Lines:=[] }:File):File) [.string ByteArray.empty,.slice Option.none 0 0]:=M8 (.nil _)
theorem tc38:Tc 38:=fun _ _=>by kernel_rfl
theorem tb75_0 (x0:ByteArray) (w:World):(Instr.build 75 [(0,.string x0)].toArray).run Tryz.prog w=.ok (.agg #[.string x0,.slice Option.none 0 0]) w:=by kernel_rfl
theorem tc59:Tc 59:=fun _ _=>by kernel_rfl
theorem tc40:Tc 40:=fun _ _=>by kernel_rfl
theorem tc61:Tc 61:=fun _ _=>by kernel_rfl
theorem tc60:Tc 60:=fun _ _=>by kernel_rfl
theorem tc39:Tc 39:=fun _ _=>by kernel_rfl
theorem tc41:Tc 41:=fun _ _=>by kernel_rfl
theorem tc42:Tc 42:=fun _ _=>by kernel_rfl
theorem tb26_  (w:World):(Instr.build 26 [].toArray).run Tryz.prog w=.ok (.agg #[.slice Option.none 0 0]) w:=by kernel_rfl
theorem tc26:Tc 26:=fun _ _=>by kernel_rfl
theorem tc20:Tc 20:=fun _ _=>by kernel_rfl
theorem tc27:Tc 27:=fun _ _=>by kernel_rfl
theorem Oh:Un 60=some (.struct (Tryz.prog.fieldsOf 60)):=by kernel_rfl
theorem Vd:Ft 60 1=some (1,56):=by kernel_rfl
theorem ts56:Sz 56=some 1:=by kernel_rfl
theorem Ol:Un 56=some (.slice 26):=by kernel_rfl
theorem tc66:Tc 66:=fun _ _=>by kernel_rfl
theorem tc67:Tc 67:=fun _ _=>by kernel_rfl
theorem tz3:Zv 3=some (.int .i64 0):=by kernel_rfl
theorem te3:ElemT Tryz.prog 3 1 8 (.int .i64 0):=⟨by kernel_rfl,by kernel_rfl,by kernel_rfl,rfl⟩
theorem tz22:Zv 22=some (.slice Option.none 0 0):=by kernel_rfl
theorem ts22:Sz 22=some 1:=by kernel_rfl
theorem tc130:Tc 130:=fun _ _=>by kernel_rfl
theorem Oc:Un 163=some (.struct (Tryz.prog.fieldsOf 163)):=by kernel_rfl
theorem tf163_1:Ft 163 1=some (1,3):=by kernel_rfl
theorem tf163_2:Ft 163 2=some (2,4):=by kernel_rfl
theorem tc131:Tc 131:=fun _ _=>by kernel_rfl
theorem Tq:Ft 163 0=some (0,63):=by kernel_rfl
theorem tb115_0 (x0:Int) (w:World):(Instr.build 115 [(0,.int .i64 x0)].toArray).run Tryz.prog w=.ok (.agg #[.int .i64 x0,.slice Option.none 0 0,.slice Option.none 0 0]) w:=by kernel_rfl
theorem te115:ElemT Tryz.prog 115 3 56 (.agg #[.int .i64 0,.slice Option.none 0 0,.slice Option.none 0 0]):=⟨by kernel_rfl,by kernel_rfl,by kernel_rfl,rfl⟩
theorem tz65:Zv 65=some (.agg #[.slice Option.none 0 0]):=by kernel_rfl
theorem tc103:Tc 103:=fun _ _=>by kernel_rfl
theorem tb65_  (w:World):(Instr.build 65 [].toArray).run Tryz.prog w=.ok (.agg #[.slice Option.none 0 0]) w:=by kernel_rfl
theorem tz163:Zv 163=some (.agg #[.slice Option.none 0 0,.int .i64 0,.bool false]):=by kernel_rfl
theorem tc108:Tc 108:=fun _ _=>by kernel_rfl
theorem tb65_0 (x0:Value) (h0:Qw x0) (w:World):(Instr.build 65 [(0,x0)].toArray).run Tryz.prog w=.ok (.agg #[x0]) w:=by obtain ⟨a0,n0,c0,rfl⟩:=h0;kernel_rfl
theorem tc104:Tc 104:=fun _ _=>by kernel_rfl
theorem tc105:Tc 105:=fun _ _=>by kernel_rfl
theorem tc106:Tc 106:=fun _ _=>by kernel_rfl
theorem tc107:Tc 107:=fun _ _=>by kernel_rfl
theorem te67:ElemT Tryz.prog 67 5 88 (.agg #[.int .i64 0,.string ByteArray.empty,.string ByteArray.empty,.slice Option.none 0 0,.slice Option.none 0 0]):=⟨by kernel_rfl,by kernel_rfl,by kernel_rfl,rfl⟩
theorem zr67 (g:Gh):Rep.rep g (({ Kind:=0,Path:=ByteArray.empty,To:=ByteArray.empty,Lines:=[],Patch:=({ Hunks:=[] }:Patch) }:TreeChange):TreeChange) [.int .i64 0,.string ByteArray.empty,.string ByteArray.empty,.slice Option.none 0 0,.slice Option.none 0 0]:=Hs (.nil _) (.nil _)
theorem tc109:Tc 109:=fun _ _=>by kernel_rfl
theorem tu168:Un 168=some (.slice 35):=by kernel_rfl
theorem U6:Zv 37=some (.agg #[.slice Option.none 0 0]):=by kernel_rfl
theorem tb37_  (w:World):(Instr.build 37 [].toArray).run Tryz.prog w=.ok (.agg #[.slice Option.none 0 0]) w:=by kernel_rfl
theorem te35:ElemT Tryz.prog 35 1 24 (.slice Option.none 0 0):=⟨by kernel_rfl,by kernel_rfl,by kernel_rfl,rfl⟩
theorem tc86:Tc 86:=fun _ _=>by kernel_rfl
theorem tb37_0 (x0:Value) (h0:Qw x0) (w:World):(Instr.build 37 [(0,x0)].toArray).run Tryz.prog w=.ok (.agg #[x0]) w:=by obtain ⟨a0,n0,c0,rfl⟩:=h0;kernel_rfl
theorem tb67_0_1_3 (x0:Int) (x1:ByteArray) (x3:Value) (h3:Qw x3) (w:World):(Instr.build 67 [(0,.int .i64 x0),(1,.string x1),(3,x3)].toArray).run Tryz.prog w=.ok (.agg #[.int .i64 x0,.string x1,.string ByteArray.empty,x3,.slice Option.none 0 0]) w:=by obtain ⟨a3,n3,c3,rfl⟩:=h3;kernel_rfl
theorem tc85:Tc 85:=fun _ _=>by kernel_rfl
theorem tb67_0_1_4 (x0:Int) (x1:ByteArray) (x4:Value) (h4:Qw x4) (w:World):(Instr.build 67 [(0,.int .i64 x0),(1,.string x1),(4,.agg #[x4])].toArray).run Tryz.prog w=.ok (.agg #[.int .i64 x0,.string x1,.string ByteArray.empty,.slice Option.none 0 0,x4]) w:=by obtain ⟨a4,n4,c4,rfl⟩:=h4;kernel_rfl
theorem tu171:Un 171=some (.array 2 3):=by kernel_rfl
theorem tc132:Tc 132:=fun _ _=>by kernel_rfl
theorem tu127:Un 127=some (.slice 5):=by kernel_rfl
theorem tb29_0 (x0:Int) (w:World):(Instr.build 29 [(0,.int .i64 x0)].toArray).run Tryz.prog w=.ok (.agg #[.int .i64 x0,.int .i64 0]) w:=by kernel_rfl
theorem ts5:Sz 5=some 1:=by kernel_rfl
theorem tb171_0_1 (x0:Int) (x1:Int) (w:World):(Instr.build 171 [(0,.int .i64 x0),(1,.int .i64 x1)].toArray).run Tryz.prog w=.ok (.agg #[.int .i64 x0,.int .i64 x1]) w:=by kernel_rfl
theorem tc110:Tc 110:=fun _ _=>by kernel_rfl
theorem tc112:Tc 112:=fun _ _=>by kernel_rfl
theorem tb151_0_1 (x0:Int) (x1:Int) (w:World):(Instr.build 151 [(0,.int .i64 x0),(1,.int .i64 x1)].toArray).run Tryz.prog w=.ok (.agg #[.int .i64 x0,.int .i64 x1]) w:=by kernel_rfl
theorem tu151:Un 151=some (.array 2 3):=by kernel_rfl
theorem tc111:Tc 111:=fun _ _=>by kernel_rfl
theorem tc87:Tc 87:=fun _ _=>by kernel_rfl
theorem tc88:Tc 88:=fun _ _=>by kernel_rfl
theorem tc115:Tc 115:=fun _ _=>by kernel_rfl
theorem tc113:Tc 113:=fun _ _=>by kernel_rfl
theorem tc114:Tc 114:=fun _ _=>by kernel_rfl
theorem tc116:Tc 116:=fun _ _=>by kernel_rfl
theorem te5:ElemT Tryz.prog 5 1 1 (.int .u8 0):=⟨by kernel_rfl,by kernel_rfl,by kernel_rfl,rfl⟩
theorem tc91:Tc 91:=fun _ _=>by kernel_rfl
theorem tc117:Tc 117:=fun _ _=>by kernel_rfl
theorem M2:Un 105=some (.struct (Tryz.prog.fieldsOf 105)):=by kernel_rfl
theorem tf105_4:Ft 105 4=some (4,37):=by kernel_rfl
theorem tc89:Tc 89:=fun _ _=>by kernel_rfl
theorem tf105_0:Ft 105 0=some (0,3):=by kernel_rfl
theorem tf105_1:Ft 105 1=some (1,3):=by kernel_rfl
theorem tf105_2:Ft 105 2=some (2,3):=by kernel_rfl
theorem tc90:Tc 90:=fun _ _=>by kernel_rfl
theorem tf60_2:Ft 60 2=some (2,57):=by kernel_rfl
theorem ts57:Sz 57=some 1:=by kernel_rfl
theorem tu57:Un 57=some (.slice 82):=by kernel_rfl
theorem ts82:Sz 82=some 4:=by kernel_rfl
theorem tu82:Un 82=some (.struct (Tryz.prog.fieldsOf 82)):=by kernel_rfl
theorem tf82_1:Ft 82 1=some (1,3):=by kernel_rfl
theorem tf82_0:Ft 82 0=some (0,26):=by kernel_rfl
theorem Vh:Tc 68:=fun _ _=>by kernel_rfl
theorem O8:Ft 60 3=some (3,58):=by kernel_rfl
theorem ts58:Sz 58=some 1:=by kernel_rfl
theorem Kf:Un 58=some (.slice 105):=by kernel_rfl
theorem tf82_2:Ft 82 2=some (2,3):=by kernel_rfl
theorem tb105_0_1_2_4 (x0:Int) (x1:Int) (x2:Int) (x4:Value) (h4:Qw x4) (w:World):(Instr.build 105 [(0,.int .i64 x0),(1,.int .i64 x1),(2,.int .i64 x2),(4,.agg #[x4])].toArray).run Tryz.prog w=.ok (.agg #[.int .i64 x0,.int .i64 x1,.int .i64 x2,.int .i64 0,x4]) w:=by obtain ⟨a4,n4,c4,rfl⟩:=h4;kernel_rfl
theorem tz105:Zv 105=some (.agg #[.int .i64 0,.int .i64 0,.int .i64 0,.int .i64 0,.slice Option.none 0 0]):=by kernel_rfl
theorem Kt:Sz 105=some 5:=by kernel_rfl
theorem tc70:Tc 70:=fun _ _=>by kernel_rfl
theorem tc69:Tc 69:=fun _ _=>by kernel_rfl
theorem tf105_3:Ft 105 3=some (3,3):=by kernel_rfl
theorem te105:ElemT Tryz.prog 105 5 56 (.agg #[.int .i64 0,.int .i64 0,.int .i64 0,.int .i64 0,.slice Option.none 0 0]):=⟨by kernel_rfl,by kernel_rfl,by kernel_rfl,rfl⟩
theorem tc50:Tc 50:=fun _ _=>by kernel_rfl
theorem tc21:Tc 21:=fun _ _=>by kernel_rfl
theorem tc11:Tc 11:=fun _ _=>by kernel_rfl
theorem tc51:Tc 51:=fun _ _=>by kernel_rfl
theorem zr105 (g:Gh):Rep.rep g (({ user:=0,number:=0,base:=0,signature:=0,patch:=({ Changes:=[] }:TreePatch) }:Message_forge):Message_forge) [.int .i64 0,.int .i64 0,.int .i64 0,.int .i64 0,.slice Option.none 0 0]:=Lm (.nil _)
theorem tc135:Tc 135:=fun _ _=>by kernel_rfl
theorem tc134:Tc 134:=fun _ _=>by kernel_rfl
theorem tc145:Tc 145:=fun _ _=>by kernel_rfl
theorem tc136:Tc 136:=fun _ _=>by kernel_rfl
theorem tc118:Tc 118:=fun _ _=>by kernel_rfl
theorem tc133:Tc 133:=fun _ _=>by kernel_rfl
theorem tc119:Tc 119:=fun _ _=>by kernel_rfl
theorem tc120:Tc 120:=fun _ _=>by kernel_rfl
theorem tc121:Tc 121:=fun _ _=>by kernel_rfl
theorem tz156:Zv 156=some (.agg #[.bool false,.slice Option.none 0 0]):=by kernel_rfl
theorem tb156_  (w:World):(Instr.build 156 [].toArray).run Tryz.prog w=.ok (.agg #[.bool false,.slice Option.none 0 0]) w:=by kernel_rfl
theorem Ks:Sz 156=some 2:=by kernel_rfl
theorem Hk:Un 156=some (.struct (Tryz.prog.fieldsOf 156)):=by kernel_rfl
theorem tb156_0_1 (x0:Bool) (x1:Value) (h1:Qw x1) (w:World):(Instr.build 156 [(0,.bool x0),(1,x1)].toArray).run Tryz.prog w=.ok (.agg #[.bool x0,x1]) w:=by obtain ⟨a1,n1,c1,rfl⟩:=h1;kernel_rfl
theorem Tj:Ft 156 0=some (0,4):=by kernel_rfl
theorem Vs:Ft 156 1=some (1,62):=by kernel_rfl
theorem tc167:Tc 167:=fun _ _=>by kernel_rfl
theorem tb208_0_1_2 (x0:Int) (x1:Int) (x2:Int) (w:World):(Instr.build 208 [(0,.int .i64 x0),(1,.int .i64 x1),(2,.int .i64 x2)].toArray).run Tryz.prog w=.ok (.agg #[.int .i64 x0,.int .i64 x1,.int .i64 x2]) w:=by kernel_rfl
theorem Q7:Un 205=some (.slice 208):=by kernel_rfl
theorem te208:ElemT Tryz.prog 208 3 24 (.agg #[.int .i64 0,.int .i64 0,.int .i64 0]):=⟨by kernel_rfl,by kernel_rfl,by kernel_rfl,rfl⟩
theorem K0:Un 208=some (.struct (Tryz.prog.fieldsOf 208)):=by kernel_rfl
theorem Oj:Ft 208 0=some (0,3):=by kernel_rfl
theorem N5:Ft 208 1=some (1,3):=by kernel_rfl
theorem tc157:Tc 157:=fun _ _=>by kernel_rfl
theorem sA208 (w:World):(isAgg 208).run Tryz.prog w=.ok true w:=by kernel_rfl
theorem sZ208 (w:World):(Go.sizeOf 208).run Tryz.prog w=.ok 3 w:=by kernel_rfl
theorem tc159:Tc 159:=fun _ _=>by kernel_rfl
theorem tc158:Tc 158:=fun _ _=>by kernel_rfl
theorem Tx:Sz 208=some 3:=by kernel_rfl
theorem tz208:Zv 208=some (.agg #[.int .i64 0,.int .i64 0,.int .i64 0]):=by kernel_rfl
theorem tc160:Tc 160:=fun _ _=>by kernel_rfl
theorem tu204:Un 204=some (.struct (Tryz.prog.fieldsOf 204)):=by kernel_rfl
theorem Tn:Ft 204 0=some (0,183):=by kernel_rfl
theorem ts183:Sz 183=some 1:=by kernel_rfl
theorem M3:Un 183=some (.slice 211):=by kernel_rfl
theorem ts211:Sz 211=some 5:=by kernel_rfl
theorem O3:Un 211=some (.struct (Tryz.prog.fieldsOf 211)):=by kernel_rfl
theorem tf211_1:Ft 211 1=some (1,62):=by kernel_rfl
theorem tf211_0:Ft 211 0=some (0,4):=by kernel_rfl
theorem tb211_  (w:World):(Instr.build 211 [].toArray).run Tryz.prog w=.ok (.agg #[.bool false,.slice Option.none 0 0,.slice Option.none 0 0,.slice Option.none 0 0,.slice Option.none 0 0]) w:=by kernel_rfl
theorem te211:ElemT Tryz.prog 211 5 104 (.agg #[.bool false,.slice Option.none 0 0,.slice Option.none 0 0,.slice Option.none 0 0,.slice Option.none 0 0]):=⟨by kernel_rfl,by kernel_rfl,by kernel_rfl,rfl⟩
theorem tz204:Zv 204=some (.agg #[.slice Option.none 0 0]):=by kernel_rfl
theorem tc140:Tc 140:=fun _ _=>by kernel_rfl
theorem tc139:Tc 139:=fun _ _=>by kernel_rfl
theorem tc141:Tc 141:=fun _ _=>by kernel_rfl
theorem tb211_0_2_3_4 (x0:Bool) (x2:Value) (h2:Qw x2) (x3:Value) (h3:Qw x3) (x4:Value) (h4:Qw x4) (w:World):(Instr.build 211 [(0,.bool x0),(2,x2),(3,x3),(4,x4)].toArray).run Tryz.prog w=.ok (.agg #[.bool x0,.slice Option.none 0 0,x2,x3,x4]) w:=by obtain ⟨a2,n2,c2,rfl⟩:=h2;obtain ⟨a3,n3,c3,rfl⟩:=h3;obtain ⟨a4,n4,c4,rfl⟩:=h4;kernel_rfl
theorem tz211:Zv 211=some (.agg #[.bool false,.slice Option.none 0 0,.slice Option.none 0 0,.slice Option.none 0 0,.slice Option.none 0 0]):=by kernel_rfl
theorem tf211_2:Ft 211 2=some (2,62):=by kernel_rfl
theorem tf211_3:Ft 211 3=some (3,62):=by kernel_rfl
theorem tf211_4:Ft 211 4=some (4,62):=by kernel_rfl
theorem tb234_0_1_2_3 (x0:Value) (h0:Qw x0) (x1:Value) (h1:Qw x1) (x2:Value) (h2:Qw x2) (x3:Value) (h3:Qw x3) (w:World):(Instr.build 234 [(0,x0),(1,x1),(2,x2),(3,x3)].toArray).run Tryz.prog w=.ok (.agg #[x0,x1,x2,x3]) w:=by obtain ⟨a0,n0,c0,rfl⟩:=h0;obtain ⟨a1,n1,c1,rfl⟩:=h1;obtain ⟨a2,n2,c2,rfl⟩:=h2;obtain ⟨a3,n3,c3,rfl⟩:=h3;kernel_rfl
theorem tu234:Un 234=some (.array 4 62):=by kernel_rfl
theorem tc142:Tc 142:=fun _ _=>by kernel_rfl
theorem tc143:Tc 143:=fun _ _=>by kernel_rfl
theorem tc122:Tc 122:=fun _ _=>by kernel_rfl
theorem tc123:Tc 123:=fun _ _=>by kernel_rfl
theorem tc124:Tc 124:=fun _ _=>by kernel_rfl
theorem tu131:Un 131=some (.slice 151):=by kernel_rfl
theorem te151:ElemT Tryz.prog 151 2 16 (.agg #[.int .i64 0,.int .i64 0]):=⟨by kernel_rfl,by kernel_rfl,by kernel_rfl,rfl⟩
theorem tc92:Tc 92:=fun _ _=>by kernel_rfl
theorem tz151:Zv 151=some (.agg #[.int .i64 0,.int .i64 0]):=by kernel_rfl
theorem tc93:Tc 93:=fun _ _=>by kernel_rfl
theorem ts151:Sz 151=some 2:=by kernel_rfl
theorem tc95:Tc 95:=fun _ _=>by kernel_rfl
theorem te26:ElemT Tryz.prog 26 1 24 (.agg #[.slice Option.none 0 0]):=⟨by kernel_rfl,by kernel_rfl,by kernel_rfl,rfl⟩
theorem tc94:Tc 94:=fun _ _=>by kernel_rfl
theorem tc96:Tc 96:=fun _ _=>by kernel_rfl
theorem tf60_0:Ft 60 0=some (0,22):=by kernel_rfl
theorem tc71:Tc 71:=fun _ _=>by kernel_rfl
theorem tf82_3:Ft 82 3=some (3,3):=by kernel_rfl
theorem tc72:Tc 72:=fun _ _=>by kernel_rfl
theorem tf60_4:Ft 60 4=some (4,27):=by kernel_rfl
theorem ts27:Sz 27=some 1:=by kernel_rfl
theorem Ua:Un 27=some (.slice 39):=by kernel_rfl
theorem tb39_0_1_2 (x0:Int) (x1:Int) (x2:Value) (h2:Qw x2) (w:World):(Instr.build 39 [(0,.int .i64 x0),(1,.int .i64 x1),(2,.agg #[x2])].toArray).run Tryz.prog w=.ok (.agg #[.int .i64 x0,.int .i64 x1,x2]) w:=by obtain ⟨a2,n2,c2,rfl⟩:=h2;kernel_rfl
theorem te39:ElemT Tryz.prog 39 3 40 (.agg #[.int .i64 0,.int .i64 0,.slice Option.none 0 0]):=⟨by kernel_rfl,by kernel_rfl,by kernel_rfl,rfl⟩
theorem tc52:Tc 52:=fun _ _=>by kernel_rfl
theorem tc53:Tc 53:=fun _ _=>by kernel_rfl
theorem tc54:Tc 54:=fun _ _=>by kernel_rfl
theorem tc33:Tc 33:=fun _ _=>by kernel_rfl
theorem te82:ElemT Tryz.prog 82 4 48 (.agg #[.slice Option.none 0 0,.int .i64 0,.int .i64 0,.int .i64 0]):=⟨by kernel_rfl,by kernel_rfl,by kernel_rfl,rfl⟩
theorem tb60_0_1_2 (x0:Value) (h0:Qw x0) (x1:Value) (h1:Qw x1) (x2:Value) (h2:Qw x2) (w:World):(Instr.build 60 [(0,x0),(1,x1),(2,x2)].toArray).run Tryz.prog w=.ok (.agg #[x0,x1,x2,.slice Option.none 0 0,.slice Option.none 0 0]) w:=by obtain ⟨a0,n0,c0,rfl⟩:=h0;obtain ⟨a1,n1,c1,rfl⟩:=h1;obtain ⟨a2,n2,c2,rfl⟩:=h2;kernel_rfl
theorem tc35:Tc 35:=fun _ _=>by kernel_rfl
theorem tc34:Tc 34:=fun _ _=>by kernel_rfl
theorem tc19:Tc 19:=fun _ _=>by kernel_rfl
theorem tc28:Tc 28:=fun _ _=>by kernel_rfl
theorem tc65:Tc 65:=fun _ _=>by kernel_rfl
theorem tc47:Tc 47:=fun _ _=>by kernel_rfl
theorem ts39:Sz 39=some 3:=by kernel_rfl
theorem tu39:Un 39=some (.struct (Tryz.prog.fieldsOf 39)):=by kernel_rfl
theorem tf39_0:Ft 39 0=some (0,3):=by kernel_rfl
theorem tf39_1:Ft 39 1=some (1,3):=by kernel_rfl
theorem tf39_2:Ft 39 2=some (2,37):=by kernel_rfl
theorem tc32:Tc 32:=fun _ _=>by kernel_rfl
theorem tb26_0 (x0:Value) (h0:Qw x0) (w:World):(Instr.build 26 [(0,x0)].toArray).run Tryz.prog w=.ok (.agg #[x0]) w:=by obtain ⟨a0,n0,c0,rfl⟩:=h0;kernel_rfl
theorem tc22:Tc 22:=fun _ _=>by kernel_rfl
theorem tb44_0_4 (x0:Int) (x4:Value) (h4:Qw x4) (w:World):(Instr.build 44 [(0,.int .i64 x0),(4,.agg #[x4])].toArray).run Tryz.prog w=.ok (.agg #[.int .i64 x0,.int .i64 0,.int .i64 0,.int .i64 0,x4]) w:=by obtain ⟨a4,n4,c4,rfl⟩:=h4;kernel_rfl
theorem tb44_0_2 (x0:Int) (x2:Int) (w:World):(Instr.build 44 [(0,.int .i64 x0),(2,.int .i64 x2)].toArray).run Tryz.prog w=.ok (.agg #[.int .i64 x0,.int .i64 0,.int .i64 x2,.int .i64 0,.slice Option.none 0 0]) w:=by kernel_rfl
theorem tb44_0 (x0:Int) (w:World):(Instr.build 44 [(0,.int .i64 x0)].toArray).run Tryz.prog w=.ok (.agg #[.int .i64 x0,.int .i64 0,.int .i64 0,.int .i64 0,.slice Option.none 0 0]) w:=by kernel_rfl
theorem te44:ElemT Tryz.prog 44 5 56 (.agg #[.int .i64 0,.int .i64 0,.int .i64 0,.int .i64 0,.slice Option.none 0 0]):=⟨by kernel_rfl,by kernel_rfl,by kernel_rfl,rfl⟩
theorem tc9:Tc 9:=fun _ _=>by kernel_rfl
theorem tc23:Tc 23:=fun _ _=>by kernel_rfl
theorem tc12:Tc 12:=fun _ _=>by kernel_rfl
theorem tb39_1_2 (x1:Int) (x2:Value) (h2:Qw x2) (w:World):(Instr.build 39 [(1,.int .i64 x1),(2,.agg #[x2])].toArray).run Tryz.prog w=.ok (.agg #[.int .i64 0,.int .i64 x1,x2]) w:=by obtain ⟨a2,n2,c2,rfl⟩:=h2;kernel_rfl
theorem tc16:Tc 16:=fun _ _=>by kernel_rfl
theorem tc24:Tc 24:=fun _ _=>by kernel_rfl
theorem tc10:Tc 10:=fun _ _=>by kernel_rfl
theorem tb44_0_3 (x0:Int) (x3:Int) (w:World):(Instr.build 44 [(0,.int .i64 x0),(3,.int .i64 x3)].toArray).run Tryz.prog w=.ok (.agg #[.int .i64 x0,.int .i64 0,.int .i64 0,.int .i64 x3,.slice Option.none 0 0]) w:=by kernel_rfl
theorem tc14:Tc 14:=fun _ _=>by kernel_rfl
theorem tc15:Tc 15:=fun _ _=>by kernel_rfl
theorem tc17:Tc 17:=fun _ _=>by kernel_rfl
theorem tb44_0_1 (x0:Int) (x1:Int) (w:World):(Instr.build 44 [(0,.int .i64 x0),(1,.int .i64 x1)].toArray).run Tryz.prog w=.ok (.agg #[.int .i64 x0,.int .i64 x1,.int .i64 0,.int .i64 0,.slice Option.none 0 0]) w:=by kernel_rfl
theorem tc18:Tc 18:=fun _ _=>by kernel_rfl
theorem nE {n:Fw} {e:List (Nat×Value)} {C:World→Prop} {x y:Operand} {U:TypeId} (a b c d:Int) (hx:Bt e x=some (.agg #[.i6 a,.i6 b]):=by exact rfl) (hy:Bt e y=some (.agg #[.i6 c,.i6 d]):=by exact rfl):Ev Tryz.prog n e C (.binOp .neq 29 x y U) (.bool (!allB [decide (a=c),decide (b=d)])):=ev_neS B7 tqa29 tqb29 tqc29 (xs:=[.i6 a,.i6 b]) (ys:=[.i6 c,.i6 d]) hx hy ⟨_,_,rfl,by decide,⟨_,_,rfl,rfl,Ha tu3⟩,⟨_,_,rfl,by decide,⟨_,_,rfl,rfl,Ha tu3⟩,rfl⟩⟩
end Go.Dc
