import Derived.Test.YtfpbdmldeikfbaaGreatDoorDcTy
import Derived.Test.YtfpbdmldeikfbaaGreatDoorDcRS
import Derived.Test.YtfpbdmldeikfbaaGreatDoorDcSh
import Derived.Test.YtfpbdmldeikfbaaGreatDoorProg
import Derived.KernelRfl
set_option linter.unusedSimpArgs false
set_option linter.unusedVariables false
namespace Go.Dc
open Go Go.Proofs
noncomputable abbrev Un (T:Nat):=Tryz.prog.underlying T
noncomputable abbrev Sz (T:Nat):=(Tryz.prog.info? T).map (·.size)
noncomputable abbrev Zv (T:Nat):=(Tryz.prog.info? T).bind (·.zero)
noncomputable abbrev Ft (T i:Nat):=((Tryz.prog.fieldsOf T)[i]?).map (fun f=>(f.offset,f.type))
def Tc (f:Nat):Prop:=∀ (args:Array Value) (w:World),(callFunc f args).run Tryz.prog w=.ok (.enter f args) w
theorem mo:Tryz.prog.follows .mixedOrders=true:=by kernel_rfl
theorem tx179 (s:ByteArray) (c:Int) (w:World):(callFunc 179 #[.string s,.int .u8 c]).run Tryz.prog w=.ok (.value (.int .i64 (idxB s c))) w:=run_idxB (fn:=Tryz.f179) Tryz.func179 (by kernel_rfl) (by kernel_rfl) (by kernel_rfl) (by kernel_rfl) s c w
theorem tu9:Un 9=some (.string):=by kernel_rfl
theorem tu5:Un 5=some (.int .u8):=by kernel_rfl
theorem tu253:Un 253=some (.int .u32):=by kernel_rfl
theorem tc151:Tc 151:=fun _ _=>by kernel_rfl
theorem tc199:Tc 199:=fun _ _=>by kernel_rfl
theorem tz4:Zv 4=some (.bool false):=by kernel_rfl
theorem ts4:Sz 4=some 1:=by kernel_rfl
theorem tu4:Un 4=some (.bool):=by kernel_rfl
theorem tc108:Tc 108:=fun _ _=>by kernel_rfl
theorem tc149:Tc 149:=fun _ _=>by kernel_rfl
theorem tc176:Tc 176:=fun _ _=>by kernel_rfl
theorem tc109:Tc 109:=fun _ _=>by kernel_rfl
theorem tc178:Tc 178:=fun _ _=>by kernel_rfl
theorem tu3:Un 3=some (.int .i64):=by kernel_rfl
theorem ts9:Sz 9=some 1:=by kernel_rfl
theorem tc150:Tc 150:=fun _ _=>by kernel_rfl
theorem tc110:Tc 110:=fun _ _=>by kernel_rfl
theorem tz29:Zv 29=some (.agg #[.int .i64 0,.int .i64 0]):=by kernel_rfl
theorem Kz:Un 68=some (.slice 9):=by kernel_rfl
theorem tb29_0_1 (x0:Int) (x1:Int) (w:World):(Instr.build 29 [(0,.int .i64 x0),(1,.int .i64 x1)].toArray).run Tryz.prog w=.ok (.agg #[.int .i64 x0,.int .i64 x1]) w:=by kernel_rfl
theorem O0:Sz 29=some 2:=by kernel_rfl
theorem Ux:Un 29=some (.struct (Tryz.prog.fieldsOf 29)):=by kernel_rfl
theorem tb29_  (w:World):(Instr.build 29 [].toArray).run Tryz.prog w=.ok (.agg #[.int .i64 0,.int .i64 0]) w:=by kernel_rfl
theorem tc111:Tc 111:=fun _ _=>by kernel_rfl
theorem Uh:Un 133=some (.struct (Tryz.prog.fieldsOf 133)):=by kernel_rfl
theorem tf133_0:Ft 133 0=some (0,3):=by kernel_rfl
theorem ts3:Sz 3=some 1:=by kernel_rfl
theorem tf133_1:Ft 133 1=some (1,68):=by kernel_rfl
theorem Xs:Sz 68=some 1:=by kernel_rfl
theorem tf133_2:Ft 133 2=some (2,68):=by kernel_rfl
theorem Y6:Sz 133=some 3:=by kernel_rfl
theorem tc113:Tc 113:=fun _ _=>by kernel_rfl
theorem tb215_0_1 (x0:Value) (h0:T8 x0) (x1:Value) (h1:T8 x1) (w:World):(Instr.build 215 [(0,x0),(1,x1)].toArray).run Tryz.prog w=.ok (.agg #[x0,x1]) w:=by obtain ⟨a0,n0,c0,rfl⟩:=h0;obtain ⟨a1,n1,c1,rfl⟩:=h1;kernel_rfl
theorem tu215:Un 215=some (.array 2 68):=by kernel_rfl
theorem tc76:Tc 76:=fun _ _=>by kernel_rfl
theorem tqa29:Tryz.prog.stoodInHeld 29=false:=by kernel_rfl
theorem tqb29:Tryz.prog.eqGuardType Tryz.prog.depth 29=false:=by kernel_rfl
theorem tqc29 : (Tryz.prog.fieldsOf 29).toList.map (fun f => (f.name, f.type, f.offset)) = [("Code", 3, 0), ("Index", 3, 1)] := by kernel_rfl
theorem tf29_0:Ft 29 0=some (0,3):=by kernel_rfl
theorem Wq:Un 71=some (.struct (Tryz.prog.fieldsOf 71)):=by kernel_rfl
theorem Vl:Ft 71 0=some (0,69):=by kernel_rfl
theorem Xb:Sz 69=some 1:=by kernel_rfl
theorem M6:Un 69=some (.slice 133):=by kernel_rfl
theorem tz133:Zv 133=some (.agg #[.int .i64 0,.slice Option.none 0 0,.slice Option.none 0 0]):=by kernel_rfl
theorem tc112:Tc 112:=fun _ _=>by kernel_rfl
theorem tu73:Un 73=some (.struct (Tryz.prog.fieldsOf 73)):=by kernel_rfl
theorem tf73_0:Ft 73 0=some (0,3):=by kernel_rfl
theorem tf73_1:Ft 73 1=some (1,9):=by kernel_rfl
theorem tc74:Tc 74:=fun _ _=>by kernel_rfl
theorem tf73_2:Ft 73 2=some (2,9):=by kernel_rfl
theorem tc75:Tc 75:=fun _ _=>by kernel_rfl
theorem tf73_3:Ft 73 3=some (3,68):=by kernel_rfl
theorem tf73_4:Ft 73 4=some (4,71):=by kernel_rfl
theorem ts71:Sz 71=some 1:=by kernel_rfl
theorem tc77:Tc 77:=fun _ _=>by kernel_rfl
theorem tu60:Un 60=some (.struct (Tryz.prog.fieldsOf 60)):=by kernel_rfl
theorem tf60_0:Ft 60 0=some (0,58):=by kernel_rfl
theorem ts58:Sz 58=some 1:=by kernel_rfl
theorem tu58:Un 58=some (.slice 73):=by kernel_rfl
theorem ts73:Sz 73=some 5:=by kernel_rfl
theorem tz73:Zv 73=some (.agg #[.int .i64 0,.string ByteArray.empty,.string ByteArray.empty,.slice Option.none 0 0,.slice Option.none 0 0]):=by kernel_rfl
theorem tc47:Tc 47:=fun _ _=>by kernel_rfl
theorem tu62:Un 62=some (.struct (Tryz.prog.fieldsOf 62)):=by kernel_rfl
theorem tf62_0:Ft 62 0=some (0,3):=by kernel_rfl
theorem tf62_3:Ft 62 3=some (3,3):=by kernel_rfl
theorem tf62_1:Ft 62 1=some (1,3):=by kernel_rfl
theorem tf62_2:Ft 62 2=some (2,3):=by kernel_rfl
theorem tc19:Tc 19:=fun _ _=>by kernel_rfl
theorem tf62_4:Ft 62 4=some (4,60):=by kernel_rfl
theorem ts60:Sz 60=some 1:=by kernel_rfl
theorem tc30:Tc 30:=fun _ _=>by kernel_rfl
theorem Q8:Un 22=some (.slice 3):=by kernel_rfl
theorem tu23:Un 23=some (.slice 62):=by kernel_rfl
theorem ts62:Sz 62=some 5:=by kernel_rfl
theorem tz62:Zv 62=some (.agg #[.int .i64 0,.int .i64 0,.int .i64 0,.int .i64 0,.slice Option.none 0 0]):=by kernel_rfl
theorem tc20:Tc 20:=fun _ _=>by kernel_rfl
theorem tz26:Zv 26=some (.agg #[.slice Option.none 0 0]):=by kernel_rfl
theorem tu55:Un 55=some (.struct (Tryz.prog.fieldsOf 55)):=by kernel_rfl
theorem tf55_1:Ft 55 1=some (1,36):=by kernel_rfl
theorem ts36:Sz 36=some 1:=by kernel_rfl
theorem tu36:Un 36=some (.slice 26):=by kernel_rfl
theorem ts26:Sz 26=some 1:=by kernel_rfl
theorem tu26:Un 26=some (.struct (Tryz.prog.fieldsOf 26)):=by kernel_rfl
theorem tu80:Un 80=some (.struct (Tryz.prog.fieldsOf 80)):=by kernel_rfl
theorem tf80_0:Ft 80 0=some (0,9):=by kernel_rfl
theorem tf80_1:Ft 80 1=some (1,68):=by kernel_rfl
theorem tc61:Tc 61:=fun _ _=>by kernel_rfl
theorem tf26_0:Ft 26 0=some (0,24):=by kernel_rfl
theorem ts24:Sz 24=some 1:=by kernel_rfl
theorem Oi:Un 24=some (.slice 80):=by kernel_rfl
theorem tc59:Tc 59:=fun _ _=>by kernel_rfl
theorem Wy:Sz 80=some 2:=by kernel_rfl
theorem tz80:Zv 80=some (.agg #[.string ByteArray.empty,.slice Option.none 0 0]):=by kernel_rfl
theorem tc60:Tc 60:=fun _ _=>by kernel_rfl
theorem te9:ElemT Tryz.prog 9 1 16 (.string ByteArray.empty):=⟨by kernel_rfl,by kernel_rfl,by kernel_rfl,rfl⟩
theorem tc28:Tc 28:=fun _ _=>by kernel_rfl
theorem tb80_0_1 (x0:ByteArray) (x1:Value) (h1:T8 x1) (w:World):(Instr.build 80 [(0,.string x0),(1,x1)].toArray).run Tryz.prog w=.ok (.agg #[.string x0,x1]) w:=by obtain ⟨a1,n1,c1,rfl⟩:=h1;kernel_rfl
theorem te80:ElemT Tryz.prog 80 2 40 (.agg #[.string ByteArray.empty,.slice Option.none 0 0]):=⟨by kernel_rfl,by kernel_rfl,by kernel_rfl,rfl⟩
theorem tc91:Tc 91:=fun _ _=>by kernel_rfl
theorem tc119:Tc 119:=fun _ _=>by kernel_rfl
theorem tc89:Tc 89:=fun _ _=>by kernel_rfl
theorem tx180 (p q:ByteArray) (w:World):(callFunc 180 #[.string p,.string q]).run Tryz.prog w=.ok (.value (.int .i64 (cmpB p q))) w:=run_cmpB (fn:=Tryz.f180) Tryz.func180 (by kernel_rfl) (by kernel_rfl) (by kernel_rfl) (by kernel_rfl) p q w
theorem tc159:Tc 159:=fun _ _=>by kernel_rfl
theorem tc122:Tc 122:=fun _ _=>by kernel_rfl
theorem tc120:Tc 120:=fun _ _=>by kernel_rfl
theorem tc121:Tc 121:=fun _ _=>by kernel_rfl
theorem tu224:Un 224=some (.int .u64):=by kernel_rfl
theorem zr80 (g:Gh):Rep.rep g (({ Path:=ByteArray.empty,Lines:=[] }:File):File) [.string ByteArray.empty,.slice Option.none 0 0]:=rep_File_mk (.nil _)
theorem tc90:Tc 90:=fun _ _=>by kernel_rfl
theorem tb80_0 (x0:ByteArray) (w:World):(Instr.build 80 [(0,.string x0)].toArray).run Tryz.prog w=.ok (.agg #[.string x0,.slice Option.none 0 0]) w:=by kernel_rfl
theorem tc123:Tc 123:=fun _ _=>by kernel_rfl
theorem tc125:Tc 125:=fun _ _=>by kernel_rfl
theorem tc124:Tc 124:=fun _ _=>by kernel_rfl
theorem tc92:Tc 92:=fun _ _=>by kernel_rfl
theorem tc93:Tc 93:=fun _ _=>by kernel_rfl
theorem tc94:Tc 94:=fun _ _=>by kernel_rfl
theorem tb26_  (w:World):(Instr.build 26 [].toArray).run Tryz.prog w=.ok (.agg #[.slice Option.none 0 0]) w:=by kernel_rfl
theorem tc62:Tc 62:=fun _ _=>by kernel_rfl
theorem tc15:Tc 15:=fun _ _=>by kernel_rfl
theorem tc63:Tc 63:=fun _ _=>by kernel_rfl
theorem tz3:Zv 3=some (.int .i64 0):=by kernel_rfl
theorem te3:ElemT Tryz.prog 3 1 8 (.int .i64 0):=⟨by kernel_rfl,by kernel_rfl,by kernel_rfl,rfl⟩
theorem tz22:Zv 22=some (.slice Option.none 0 0):=by kernel_rfl
theorem ts22:Sz 22=some 1:=by kernel_rfl
theorem tc162:Tc 162:=fun _ _=>by kernel_rfl
theorem Wi:Un 195=some (.struct (Tryz.prog.fieldsOf 195)):=by kernel_rfl
theorem tf195_1:Ft 195 1=some (1,3):=by kernel_rfl
theorem tf195_2:Ft 195 2=some (2,4):=by kernel_rfl
theorem tc163:Tc 163:=fun _ _=>by kernel_rfl
theorem Zd:Ft 195 0=some (0,69):=by kernel_rfl
theorem tb133_0 (x0:Int) (w:World):(Instr.build 133 [(0,.int .i64 x0)].toArray).run Tryz.prog w=.ok (.agg #[.int .i64 x0,.slice Option.none 0 0,.slice Option.none 0 0]) w:=by kernel_rfl
theorem te133:ElemT Tryz.prog 133 3 56 (.agg #[.int .i64 0,.slice Option.none 0 0,.slice Option.none 0 0]):=⟨by kernel_rfl,by kernel_rfl,by kernel_rfl,rfl⟩
theorem tz71:Zv 71=some (.agg #[.slice Option.none 0 0]):=by kernel_rfl
theorem tc126:Tc 126:=fun _ _=>by kernel_rfl
theorem tb71_  (w:World):(Instr.build 71 [].toArray).run Tryz.prog w=.ok (.agg #[.slice Option.none 0 0]) w:=by kernel_rfl
theorem tz195:Zv 195=some (.agg #[.slice Option.none 0 0,.int .i64 0,.bool false]):=by kernel_rfl
theorem tc131:Tc 131:=fun _ _=>by kernel_rfl
theorem tb71_0 (x0:Value) (h0:T8 x0) (w:World):(Instr.build 71 [(0,x0)].toArray).run Tryz.prog w=.ok (.agg #[x0]) w:=by obtain ⟨a0,n0,c0,rfl⟩:=h0;kernel_rfl
theorem tc127:Tc 127:=fun _ _=>by kernel_rfl
theorem tc128:Tc 128:=fun _ _=>by kernel_rfl
theorem tc129:Tc 129:=fun _ _=>by kernel_rfl
theorem tc130:Tc 130:=fun _ _=>by kernel_rfl
theorem te73:ElemT Tryz.prog 73 5 88 (.agg #[.int .i64 0,.string ByteArray.empty,.string ByteArray.empty,.slice Option.none 0 0,.slice Option.none 0 0]):=⟨by kernel_rfl,by kernel_rfl,by kernel_rfl,rfl⟩
theorem zr73 (g:Gh):Rep.rep g (({ Kind:=0,Path:=ByteArray.empty,To:=ByteArray.empty,Lines:=[],Patch:=({ Hunks:=[] }:Patch) }:TreeChange):TreeChange) [.int .i64 0,.string ByteArray.empty,.string ByteArray.empty,.slice Option.none 0 0,.slice Option.none 0 0]:=T5 (.nil _) (.nil _)
theorem tc132:Tc 132:=fun _ _=>by kernel_rfl
theorem tu200:Un 200=some (.slice 58):=by kernel_rfl
theorem tz60:Zv 60=some (.agg #[.slice Option.none 0 0]):=by kernel_rfl
theorem tb60_  (w:World):(Instr.build 60 [].toArray).run Tryz.prog w=.ok (.agg #[.slice Option.none 0 0]) w:=by kernel_rfl
theorem te58:ElemT Tryz.prog 58 1 24 (.slice Option.none 0 0):=⟨by kernel_rfl,by kernel_rfl,by kernel_rfl,rfl⟩
theorem tc96:Tc 96:=fun _ _=>by kernel_rfl
theorem tb60_0 (x0:Value) (h0:T8 x0) (w:World):(Instr.build 60 [(0,x0)].toArray).run Tryz.prog w=.ok (.agg #[x0]) w:=by obtain ⟨a0,n0,c0,rfl⟩:=h0;kernel_rfl
theorem tb73_0_1_3 (x0:Int) (x1:ByteArray) (x3:Value) (h3:T8 x3) (w:World):(Instr.build 73 [(0,.int .i64 x0),(1,.string x1),(3,x3)].toArray).run Tryz.prog w=.ok (.agg #[.int .i64 x0,.string x1,.string ByteArray.empty,x3,.slice Option.none 0 0]) w:=by obtain ⟨a3,n3,c3,rfl⟩:=h3;kernel_rfl
theorem tc95:Tc 95:=fun _ _=>by kernel_rfl
theorem tb73_0_1_4 (x0:Int) (x1:ByteArray) (x4:Value) (h4:T8 x4) (w:World):(Instr.build 73 [(0,.int .i64 x0),(1,.string x1),(4,.agg #[x4])].toArray).run Tryz.prog w=.ok (.agg #[.int .i64 x0,.string x1,.string ByteArray.empty,.slice Option.none 0 0,x4]) w:=by obtain ⟨a4,n4,c4,rfl⟩:=h4;kernel_rfl
theorem tu203:Un 203=some (.array 2 3):=by kernel_rfl
theorem tc164:Tc 164:=fun _ _=>by kernel_rfl
theorem tu115:Un 115=some (.slice 5):=by kernel_rfl
theorem tb29_0 (x0:Int) (w:World):(Instr.build 29 [(0,.int .i64 x0)].toArray).run Tryz.prog w=.ok (.agg #[.int .i64 x0,.int .i64 0]) w:=by kernel_rfl
theorem ts5:Sz 5=some 1:=by kernel_rfl
theorem tb203_0_1 (x0:Int) (x1:Int) (w:World):(Instr.build 203 [(0,.int .i64 x0),(1,.int .i64 x1)].toArray).run Tryz.prog w=.ok (.agg #[.int .i64 x0,.int .i64 x1]) w:=by kernel_rfl
theorem tc133:Tc 133:=fun _ _=>by kernel_rfl
theorem tc135:Tc 135:=fun _ _=>by kernel_rfl
theorem tb140_0_1 (x0:Int) (x1:Int) (w:World):(Instr.build 140 [(0,.int .i64 x0),(1,.int .i64 x1)].toArray).run Tryz.prog w=.ok (.agg #[.int .i64 x0,.int .i64 x1]) w:=by kernel_rfl
theorem tu140:Un 140=some (.array 2 3):=by kernel_rfl
theorem tc134:Tc 134:=fun _ _=>by kernel_rfl
theorem tc97:Tc 97:=fun _ _=>by kernel_rfl
theorem tc98:Tc 98:=fun _ _=>by kernel_rfl
theorem tc138:Tc 138:=fun _ _=>by kernel_rfl
theorem tc136:Tc 136:=fun _ _=>by kernel_rfl
theorem tc137:Tc 137:=fun _ _=>by kernel_rfl
theorem tc139:Tc 139:=fun _ _=>by kernel_rfl
theorem te5:ElemT Tryz.prog 5 1 1 (.int .u8 0):=⟨by kernel_rfl,by kernel_rfl,by kernel_rfl,rfl⟩
theorem tc101:Tc 101:=fun _ _=>by kernel_rfl
theorem tc140:Tc 140:=fun _ _=>by kernel_rfl
theorem tu97:Un 97=some (.struct (Tryz.prog.fieldsOf 97)):=by kernel_rfl
theorem tf97_4:Ft 97 4=some (4,60):=by kernel_rfl
theorem tc99:Tc 99:=fun _ _=>by kernel_rfl
theorem tf97_0:Ft 97 0=some (0,3):=by kernel_rfl
theorem tf97_1:Ft 97 1=some (1,3):=by kernel_rfl
theorem tf97_2:Ft 97 2=some (2,3):=by kernel_rfl
theorem tc100:Tc 100:=fun _ _=>by kernel_rfl
theorem tf55_2:Ft 55 2=some (2,52):=by kernel_rfl
theorem ts52:Sz 52=some 1:=by kernel_rfl
theorem tu52:Un 52=some (.slice 57):=by kernel_rfl
theorem ts57:Sz 57=some 4:=by kernel_rfl
theorem tu57:Un 57=some (.struct (Tryz.prog.fieldsOf 57)):=by kernel_rfl
theorem tf57_1:Ft 57 1=some (1,3):=by kernel_rfl
theorem tf57_0:Ft 57 0=some (0,26):=by kernel_rfl
theorem tc64:Tc 64:=fun _ _=>by kernel_rfl
theorem Zq:Ft 55 3=some (3,53):=by kernel_rfl
theorem ts53:Sz 53=some 1:=by kernel_rfl
theorem N9:Un 53=some (.slice 97):=by kernel_rfl
theorem tf57_2:Ft 57 2=some (2,3):=by kernel_rfl
theorem tb97_0_1_2_4 (x0:Int) (x1:Int) (x2:Int) (x4:Value) (h4:T8 x4) (w:World):(Instr.build 97 [(0,.int .i64 x0),(1,.int .i64 x1),(2,.int .i64 x2),(4,.agg #[x4])].toArray).run Tryz.prog w=.ok (.agg #[.int .i64 x0,.int .i64 x1,.int .i64 x2,.int .i64 0,x4]) w:=by obtain ⟨a4,n4,c4,rfl⟩:=h4;kernel_rfl
theorem tz97:Zv 97=some (.agg #[.int .i64 0,.int .i64 0,.int .i64 0,.int .i64 0,.slice Option.none 0 0]):=by kernel_rfl
theorem Xe:Sz 97=some 5:=by kernel_rfl
theorem tc66:Tc 66:=fun _ _=>by kernel_rfl
theorem tc65:Tc 65:=fun _ _=>by kernel_rfl
theorem tf97_3:Ft 97 3=some (3,3):=by kernel_rfl
theorem te97:ElemT Tryz.prog 97 5 56 (.agg #[.int .i64 0,.int .i64 0,.int .i64 0,.int .i64 0,.slice Option.none 0 0]):=⟨by kernel_rfl,by kernel_rfl,by kernel_rfl,rfl⟩
theorem tc37:Tc 37:=fun _ _=>by kernel_rfl
theorem tc16:Tc 16:=fun _ _=>by kernel_rfl
theorem tc38:Tc 38:=fun _ _=>by kernel_rfl
theorem tc39:Tc 39:=fun _ _=>by kernel_rfl
theorem zr97 (g:Gh):Rep.rep g (({ user:=0,number:=0,base:=0,signature:=0,patch:=({ Changes:=[] }:TreePatch) }:Message_forge):Message_forge) [.int .i64 0,.int .i64 0,.int .i64 0,.int .i64 0,.slice Option.none 0 0]:=O1 (.nil _)
theorem tc167:Tc 167:=fun _ _=>by kernel_rfl
theorem tc166:Tc 166:=fun _ _=>by kernel_rfl
theorem tc182:Tc 182:=fun _ _=>by kernel_rfl
theorem tc168:Tc 168:=fun _ _=>by kernel_rfl
theorem tc141:Tc 141:=fun _ _=>by kernel_rfl
theorem tc165:Tc 165:=fun _ _=>by kernel_rfl
theorem tc142:Tc 142:=fun _ _=>by kernel_rfl
theorem tu255:Un 255=some (.int .u64):=by kernel_rfl
theorem tc143:Tc 143:=fun _ _=>by kernel_rfl
theorem tc144:Tc 144:=fun _ _=>by kernel_rfl
theorem tz165:Zv 165=some (.agg #[.bool false,.slice Option.none 0 0]):=by kernel_rfl
theorem tb165_  (w:World):(Instr.build 165 [].toArray).run Tryz.prog w=.ok (.agg #[.bool false,.slice Option.none 0 0]) w:=by kernel_rfl
theorem ts165:Sz 165=some 2:=by kernel_rfl
theorem tu165:Un 165=some (.struct (Tryz.prog.fieldsOf 165)):=by kernel_rfl
theorem tb165_0_1 (x0:Bool) (x1:Value) (h1:T8 x1) (w:World):(Instr.build 165 [(0,.bool x0),(1,x1)].toArray).run Tryz.prog w=.ok (.agg #[.bool x0,x1]) w:=by obtain ⟨a1,n1,c1,rfl⟩:=h1;kernel_rfl
theorem tf165_0:Ft 165 0=some (0,4):=by kernel_rfl
theorem tf165_1:Ft 165 1=some (1,68):=by kernel_rfl
theorem tc207:Tc 207:=fun _ _=>by kernel_rfl
theorem tb239_0_1_2 (x0:Int) (x1:Int) (x2:Int) (w:World):(Instr.build 239 [(0,.int .i64 x0),(1,.int .i64 x1),(2,.int .i64 x2)].toArray).run Tryz.prog w=.ok (.agg #[.int .i64 x0,.int .i64 x1,.int .i64 x2]) w:=by kernel_rfl
theorem tu236:Un 236=some (.slice 239):=by kernel_rfl
theorem te239:ElemT Tryz.prog 239 3 24 (.agg #[.int .i64 0,.int .i64 0,.int .i64 0]):=⟨by kernel_rfl,by kernel_rfl,by kernel_rfl,rfl⟩
theorem Vg:Un 239=some (.struct (Tryz.prog.fieldsOf 239)):=by kernel_rfl
theorem tf239_0:Ft 239 0=some (0,3):=by kernel_rfl
theorem tf239_1:Ft 239 1=some (1,3):=by kernel_rfl
theorem tc194:Tc 194:=fun _ _=>by kernel_rfl
theorem sA239 (w:World):(isAgg 239).run Tryz.prog w=.ok true w:=by kernel_rfl
theorem sZ239 (w:World):(Go.sizeOf 239).run Tryz.prog w=.ok 3 w:=by kernel_rfl
theorem tc196:Tc 196:=fun _ _=>by kernel_rfl
theorem tc195:Tc 195:=fun _ _=>by kernel_rfl
theorem Y4:Sz 239=some 3:=by kernel_rfl
theorem tz239:Zv 239=some (.agg #[.int .i64 0,.int .i64 0,.int .i64 0]):=by kernel_rfl
theorem tc197:Tc 197:=fun _ _=>by kernel_rfl
theorem tu235:Un 235=some (.struct (Tryz.prog.fieldsOf 235)):=by kernel_rfl
theorem X2:Ft 235 0=some (0,174):=by kernel_rfl
theorem ts174:Sz 174=some 1:=by kernel_rfl
theorem Vx:Un 174=some (.slice 220):=by kernel_rfl
theorem ts220:Sz 220=some 5:=by kernel_rfl
theorem tu220:Un 220=some (.struct (Tryz.prog.fieldsOf 220)):=by kernel_rfl
theorem tf220_1:Ft 220 1=some (1,68):=by kernel_rfl
theorem tf220_0:Ft 220 0=some (0,4):=by kernel_rfl
theorem tb220_  (w:World):(Instr.build 220 [].toArray).run Tryz.prog w=.ok (.agg #[.bool false,.slice Option.none 0 0,.slice Option.none 0 0,.slice Option.none 0 0,.slice Option.none 0 0]) w:=by kernel_rfl
theorem te220:ElemT Tryz.prog 220 5 104 (.agg #[.bool false,.slice Option.none 0 0,.slice Option.none 0 0,.slice Option.none 0 0,.slice Option.none 0 0]):=⟨by kernel_rfl,by kernel_rfl,by kernel_rfl,rfl⟩
theorem tz235:Zv 235=some (.agg #[.slice Option.none 0 0]):=by kernel_rfl
theorem tc172:Tc 172:=fun _ _=>by kernel_rfl
theorem tc171:Tc 171:=fun _ _=>by kernel_rfl
theorem tc173:Tc 173:=fun _ _=>by kernel_rfl
theorem tb220_0_2_3_4 (x0:Bool) (x2:Value) (h2:T8 x2) (x3:Value) (h3:T8 x3) (x4:Value) (h4:T8 x4) (w:World):(Instr.build 220 [(0,.bool x0),(2,x2),(3,x3),(4,x4)].toArray).run Tryz.prog w=.ok (.agg #[.bool x0,.slice Option.none 0 0,x2,x3,x4]) w:=by obtain ⟨a2,n2,c2,rfl⟩:=h2;obtain ⟨a3,n3,c3,rfl⟩:=h3;obtain ⟨a4,n4,c4,rfl⟩:=h4;kernel_rfl
theorem tz220:Zv 220=some (.agg #[.bool false,.slice Option.none 0 0,.slice Option.none 0 0,.slice Option.none 0 0,.slice Option.none 0 0]):=by kernel_rfl
theorem tf220_2:Ft 220 2=some (2,68):=by kernel_rfl
theorem tf220_3:Ft 220 3=some (3,68):=by kernel_rfl
theorem tf220_4:Ft 220 4=some (4,68):=by kernel_rfl
theorem tb262_0_1_2_3 (x0:Value) (h0:T8 x0) (x1:Value) (h1:T8 x1) (x2:Value) (h2:T8 x2) (x3:Value) (h3:T8 x3) (w:World):(Instr.build 262 [(0,x0),(1,x1),(2,x2),(3,x3)].toArray).run Tryz.prog w=.ok (.agg #[x0,x1,x2,x3]) w:=by obtain ⟨a0,n0,c0,rfl⟩:=h0;obtain ⟨a1,n1,c1,rfl⟩:=h1;obtain ⟨a2,n2,c2,rfl⟩:=h2;obtain ⟨a3,n3,c3,rfl⟩:=h3;kernel_rfl
theorem tu262:Un 262=some (.array 4 68):=by kernel_rfl
theorem tc174:Tc 174:=fun _ _=>by kernel_rfl
theorem tc175:Tc 175:=fun _ _=>by kernel_rfl
theorem tc145:Tc 145:=fun _ _=>by kernel_rfl
theorem tc146:Tc 146:=fun _ _=>by kernel_rfl
theorem tc147:Tc 147:=fun _ _=>by kernel_rfl
theorem tu105:Un 105=some (.slice 140):=by kernel_rfl
theorem te140:ElemT Tryz.prog 140 2 16 (.agg #[.int .i64 0,.int .i64 0]):=⟨by kernel_rfl,by kernel_rfl,by kernel_rfl,rfl⟩
theorem tc102:Tc 102:=fun _ _=>by kernel_rfl
theorem tz140:Zv 140=some (.agg #[.int .i64 0,.int .i64 0]):=by kernel_rfl
theorem tc103:Tc 103:=fun _ _=>by kernel_rfl
theorem ts140:Sz 140=some 2:=by kernel_rfl
theorem tc105:Tc 105:=fun _ _=>by kernel_rfl
theorem te26:ElemT Tryz.prog 26 1 24 (.agg #[.slice Option.none 0 0]):=⟨by kernel_rfl,by kernel_rfl,by kernel_rfl,rfl⟩
theorem tc104:Tc 104:=fun _ _=>by kernel_rfl
theorem tc106:Tc 106:=fun _ _=>by kernel_rfl
theorem tf55_0:Ft 55 0=some (0,22):=by kernel_rfl
theorem tc67:Tc 67:=fun _ _=>by kernel_rfl
theorem tf57_3:Ft 57 3=some (3,3):=by kernel_rfl
theorem tc68:Tc 68:=fun _ _=>by kernel_rfl
theorem tf55_4:Ft 55 4=some (4,27):=by kernel_rfl
theorem ts27:Sz 27=some 1:=by kernel_rfl
theorem tu27:Un 27=some (.slice 76):=by kernel_rfl
theorem tb76_0_1_2 (x0:Int) (x1:Int) (x2:Value) (h2:T8 x2) (w:World):(Instr.build 76 [(0,.int .i64 x0),(1,.int .i64 x1),(2,.agg #[x2])].toArray).run Tryz.prog w=.ok (.agg #[.int .i64 x0,.int .i64 x1,x2]) w:=by obtain ⟨a2,n2,c2,rfl⟩:=h2;kernel_rfl
theorem te76:ElemT Tryz.prog 76 3 40 (.agg #[.int .i64 0,.int .i64 0,.slice Option.none 0 0]):=⟨by kernel_rfl,by kernel_rfl,by kernel_rfl,rfl⟩
theorem tc40:Tc 40:=fun _ _=>by kernel_rfl
theorem tc41:Tc 41:=fun _ _=>by kernel_rfl
theorem tc42:Tc 42:=fun _ _=>by kernel_rfl
theorem tc7:Tc 7:=fun _ _=>by kernel_rfl
theorem te57:ElemT Tryz.prog 57 4 48 (.agg #[.slice Option.none 0 0,.int .i64 0,.int .i64 0,.int .i64 0]):=⟨by kernel_rfl,by kernel_rfl,by kernel_rfl,rfl⟩
theorem tb55_0_1_2 (x0:Value) (h0:T8 x0) (x1:Value) (h1:T8 x1) (x2:Value) (h2:T8 x2) (w:World):(Instr.build 55 [(0,x0),(1,x1),(2,x2)].toArray).run Tryz.prog w=.ok (.agg #[x0,x1,x2,.slice Option.none 0 0,.slice Option.none 0 0]) w:=by obtain ⟨a0,n0,c0,rfl⟩:=h0;obtain ⟨a1,n1,c1,rfl⟩:=h1;obtain ⟨a2,n2,c2,rfl⟩:=h2;kernel_rfl
theorem tc27:Tc 27:=fun _ _=>by kernel_rfl
theorem tc26:Tc 26:=fun _ _=>by kernel_rfl
theorem tc14:Tc 14:=fun _ _=>by kernel_rfl
theorem tc71:Tc 71:=fun _ _=>by kernel_rfl
theorem tc44:Tc 44:=fun _ _=>by kernel_rfl
theorem tc13:Tc 13:=fun _ _=>by kernel_rfl
theorem tc72:Tc 72:=fun _ _=>by kernel_rfl
theorem tc45:Tc 45:=fun _ _=>by kernel_rfl
theorem tc73:Tc 73:=fun _ _=>by kernel_rfl
theorem tc43:Tc 43:=fun _ _=>by kernel_rfl
theorem tc46:Tc 46:=fun _ _=>by kernel_rfl
theorem tc29:Tc 29:=fun _ _=>by kernel_rfl
theorem tc17:Tc 17:=fun _ _=>by kernel_rfl
theorem tc18:Tc 18:=fun _ _=>by kernel_rfl
theorem tc24:Tc 24:=fun _ _=>by kernel_rfl
theorem tc58:Tc 58:=fun _ _=>by kernel_rfl
theorem tc36:Tc 36:=fun _ _=>by kernel_rfl
theorem ts76:Sz 76=some 3:=by kernel_rfl
theorem tu76:Un 76=some (.struct (Tryz.prog.fieldsOf 76)):=by kernel_rfl
theorem tf76_0:Ft 76 0=some (0,3):=by kernel_rfl
theorem tf76_1:Ft 76 1=some (1,3):=by kernel_rfl
theorem tf76_2:Ft 76 2=some (2,60):=by kernel_rfl
theorem tc25:Tc 25:=fun _ _=>by kernel_rfl
theorem tb26_0 (x0:Value) (h0:T8 x0) (w:World):(Instr.build 26 [(0,x0)].toArray).run Tryz.prog w=.ok (.agg #[x0]) w:=by obtain ⟨a0,n0,c0,rfl⟩:=h0;kernel_rfl
theorem tc21:Tc 21:=fun _ _=>by kernel_rfl
theorem tb62_0_4 (x0:Int) (x4:Value) (h4:T8 x4) (w:World):(Instr.build 62 [(0,.int .i64 x0),(4,.agg #[x4])].toArray).run Tryz.prog w=.ok (.agg #[.int .i64 x0,.int .i64 0,.int .i64 0,.int .i64 0,x4]) w:=by obtain ⟨a4,n4,c4,rfl⟩:=h4;kernel_rfl
theorem tb62_0_2 (x0:Int) (x2:Int) (w:World):(Instr.build 62 [(0,.int .i64 x0),(2,.int .i64 x2)].toArray).run Tryz.prog w=.ok (.agg #[.int .i64 x0,.int .i64 0,.int .i64 x2,.int .i64 0,.slice Option.none 0 0]) w:=by kernel_rfl
theorem tb62_0 (x0:Int) (w:World):(Instr.build 62 [(0,.int .i64 x0)].toArray).run Tryz.prog w=.ok (.agg #[.int .i64 x0,.int .i64 0,.int .i64 0,.int .i64 0,.slice Option.none 0 0]) w:=by kernel_rfl
theorem te62:ElemT Tryz.prog 62 5 56 (.agg #[.int .i64 0,.int .i64 0,.int .i64 0,.int .i64 0,.slice Option.none 0 0]):=⟨by kernel_rfl,by kernel_rfl,by kernel_rfl,rfl⟩
theorem tc4:Tc 4:=fun _ _=>by kernel_rfl
theorem tc22:Tc 22:=fun _ _=>by kernel_rfl
theorem tc10:Tc 10:=fun _ _=>by kernel_rfl
theorem tb76_1_2 (x1:Int) (x2:Value) (h2:T8 x2) (w:World):(Instr.build 76 [(1,.int .i64 x1),(2,.agg #[x2])].toArray).run Tryz.prog w=.ok (.agg #[.int .i64 0,.int .i64 x1,x2]) w:=by obtain ⟨a2,n2,c2,rfl⟩:=h2;kernel_rfl
theorem tc11:Tc 11:=fun _ _=>by kernel_rfl
theorem tc12:Tc 12:=fun _ _=>by kernel_rfl
theorem tc49:Tc 49:=fun _ _=>by kernel_rfl
theorem tu146:Un 146=some (.slice 182):=by kernel_rfl
theorem ts182:Sz 182=some 2:=by kernel_rfl
theorem tu182:Un 182=some (.struct (Tryz.prog.fieldsOf 182)):=by kernel_rfl
theorem tf182_0:Ft 182 0=some (0,3):=by kernel_rfl
theorem tf182_1:Ft 182 1=some (1,9):=by kernel_rfl
theorem tu184:Un 184=some (.slice 22):=by kernel_rfl
theorem te22:ElemT Tryz.prog 22 1 24 (.slice Option.none 0 0):=⟨by kernel_rfl,by kernel_rfl,by kernel_rfl,rfl⟩
theorem tc118:Tc 118:=fun _ _=>by kernel_rfl
theorem tb182_0_1 (x0:Int) (x1:ByteArray) (w:World):(Instr.build 182 [(0,.int .i64 x0),(1,.string x1)].toArray).run Tryz.prog w=.ok (.agg #[.int .i64 x0,.string x1]) w:=by kernel_rfl
theorem te182:ElemT Tryz.prog 182 2 24 (.agg #[.int .i64 0,.string ByteArray.empty]):=⟨by kernel_rfl,by kernel_rfl,by kernel_rfl,rfl⟩
theorem tc86:Tc 86:=fun _ _=>by kernel_rfl
theorem tc85:Tc 85:=fun _ _=>by kernel_rfl
theorem tc52:Tc 52:=fun _ _=>by kernel_rfl
theorem tc53:Tc 53:=fun _ _=>by kernel_rfl
theorem tc51:Tc 51:=fun _ _=>by kernel_rfl
theorem tc54:Tc 54:=fun _ _=>by kernel_rfl
theorem tc78:Tc 78:=fun _ _=>by kernel_rfl
theorem tc117:Tc 117:=fun _ _=>by kernel_rfl
theorem tc82:Tc 82:=fun _ _=>by kernel_rfl
theorem tc83:Tc 83:=fun _ _=>by kernel_rfl
theorem tc84:Tc 84:=fun _ _=>by kernel_rfl
theorem tc50:Tc 50:=fun _ _=>by kernel_rfl
theorem tc152:Tc 152:=fun _ _=>by kernel_rfl
theorem tc153:Tc 153:=fun _ _=>by kernel_rfl
theorem tb220_1 (x1:Value) (h1:T8 x1) (w:World):(Instr.build 220 [(1,x1)].toArray).run Tryz.prog w=.ok (.agg #[.bool false,x1,.slice Option.none 0 0,.slice Option.none 0 0,.slice Option.none 0 0]) w:=by obtain ⟨a1,n1,c1,rfl⟩:=h1;kernel_rfl
theorem tc155:Tc 155:=fun _ _=>by kernel_rfl
theorem tc154:Tc 154:=fun _ _=>by kernel_rfl
theorem tc156:Tc 156:=fun _ _=>by kernel_rfl
theorem tc157:Tc 157:=fun _ _=>by kernel_rfl
theorem tc158:Tc 158:=fun _ _=>by kernel_rfl
theorem tc114:Tc 114:=fun _ _=>by kernel_rfl
theorem tc115:Tc 115:=fun _ _=>by kernel_rfl
theorem tc116:Tc 116:=fun _ _=>by kernel_rfl
theorem tc32:Tc 32:=fun _ _=>by kernel_rfl
theorem tc81:Tc 81:=fun _ _=>by kernel_rfl
theorem tc79:Tc 79:=fun _ _=>by kernel_rfl
theorem tc80:Tc 80:=fun _ _=>by kernel_rfl
theorem tz39:Zv 39=some (.agg #[.slice Option.none 0 0,.slice Option.none 0 0,.slice Option.none 0 0,.slice Option.none 0 0,.slice Option.none 0 0,.slice Option.none 0 0,.slice Option.none 0 0]):=by kernel_rfl
theorem tu87:Un 87=some (.struct (Tryz.prog.fieldsOf 87)):=by kernel_rfl
theorem tf87_3:Ft 87 3=some (3,3):=by kernel_rfl
theorem tf87_4:Ft 87 4=some (4,3):=by kernel_rfl
theorem tu39:Un 39=some (.struct (Tryz.prog.fieldsOf 39)):=by kernel_rfl
theorem ts39:Sz 39=some 7:=by kernel_rfl
theorem tf87_1:Ft 87 1=some (1,3):=by kernel_rfl
theorem tf39_2:Ft 39 2=some (2,22):=by kernel_rfl
theorem tf87_0:Ft 87 0=some (0,3):=by kernel_rfl
theorem tf39_0:Ft 39 0=some (0,36):=by kernel_rfl
theorem tf87_2:Ft 87 2=some (2,3):=by kernel_rfl
theorem tc34:Tc 34:=fun _ _=>by kernel_rfl
theorem tf87_5:Ft 87 5=some (5,60):=by kernel_rfl
theorem tc48:Tc 48:=fun _ _=>by kernel_rfl
theorem tf39_1:Ft 39 1=some (1,27):=by kernel_rfl
theorem tc88:Tc 88:=fun _ _=>by kernel_rfl
theorem tc57:Tc 57:=fun _ _=>by kernel_rfl
theorem tc56:Tc 56:=fun _ _=>by kernel_rfl
theorem tc87:Tc 87:=fun _ _=>by kernel_rfl
theorem tc55:Tc 55:=fun _ _=>by kernel_rfl
theorem tf39_6:Ft 39 6=some (6,37):=by kernel_rfl
theorem ts37:Sz 37=some 1:=by kernel_rfl
theorem tu37:Un 37=some (.slice 87):=by kernel_rfl
theorem ts87:Sz 87=some 6:=by kernel_rfl
theorem tz87:Zv 87=some (.agg #[.int .i64 0,.int .i64 0,.int .i64 0,.int .i64 0,.int .i64 0,.slice Option.none 0 0]):=by kernel_rfl
theorem te87:ElemT Tryz.prog 87 6 64 (.agg #[.int .i64 0,.int .i64 0,.int .i64 0,.int .i64 0,.int .i64 0,.slice Option.none 0 0]):=⟨by kernel_rfl,by kernel_rfl,by kernel_rfl,rfl⟩
theorem tc31:Tc 31:=fun _ _=>by kernel_rfl
theorem tf39_3:Ft 39 3=some (3,22):=by kernel_rfl
theorem tf39_5:Ft 39 5=some (5,36):=by kernel_rfl
theorem tc33:Tc 33:=fun _ _=>by kernel_rfl
theorem tf39_4:Ft 39 4=some (4,22):=by kernel_rfl
theorem tb87_0_1_2_5 (x0:Int) (x1:Int) (x2:Int) (x5:Value) (h5:T8 x5) (w:World):(Instr.build 87 [(0,.int .i64 x0),(1,.int .i64 x1),(2,.int .i64 x2),(5,.agg #[x5])].toArray).run Tryz.prog w=.ok (.agg #[.int .i64 x0,.int .i64 x1,.int .i64 x2,.int .i64 0,.int .i64 0,x5]) w:=by obtain ⟨a5,n5,c5,rfl⟩:=h5;kernel_rfl
theorem tc35:Tc 35:=fun _ _=>by kernel_rfl
theorem Zl (x0:Value) (h0:T8 x0) (x2:Value) (h2:T8 x2) (x3:Value) (h3:T8 x3) (x4:Value) (h4:T8 x4) (x5:Value) (h5:T8 x5) (w:World):(Instr.build 39 [(0,x0),(2,x2),(3,x3),(4,x4),(5,x5)].toArray).run Tryz.prog w=.ok (.agg #[x0,.slice Option.none 0 0,x2,x3,x4,x5,.slice Option.none 0 0]) w:=by obtain ⟨a0,n0,c0,rfl⟩:=h0;obtain ⟨a2,n2,c2,rfl⟩:=h2;obtain ⟨a3,n3,c3,rfl⟩:=h3;obtain ⟨a4,n4,c4,rfl⟩:=h4;obtain ⟨a5,n5,c5,rfl⟩:=h5;kernel_rfl
theorem tc23:Tc 23:=fun _ _=>by kernel_rfl
theorem tc5:Tc 5:=fun _ _=>by kernel_rfl
theorem tc6:Tc 6:=fun _ _=>by kernel_rfl
theorem tc8:Tc 8:=fun _ _=>by kernel_rfl
theorem tc9:Tc 9:=fun _ _=>by kernel_rfl
theorem nE {n:Fw} {e:List (Nat×Value)} {C:World→Prop} {x y:Operand} {U:TypeId} (a b c d:Int) (hx:Bn e x=some (.agg #[.i6 a,.i6 b]):=by exact rfl) (hy:Bn e y=some (.agg #[.i6 c,.i6 d]):=by exact rfl):Ev Tryz.prog n e C (.binOp .neq 29 x y U) (.bool (!allB [decide (a=c),decide (b=d)])):=ev_neS Ux tqa29 tqb29 tqc29 (xs:=[.i6 a,.i6 b]) (ys:=[.i6 c,.i6 d]) hx hy ⟨_,_,rfl,by decide,⟨_,_,rfl,rfl,Xc tu3⟩,⟨_,_,rfl,by decide,⟨_,_,rfl,rfl,Xc tu3⟩,rfl⟩⟩
end Go.Dc
