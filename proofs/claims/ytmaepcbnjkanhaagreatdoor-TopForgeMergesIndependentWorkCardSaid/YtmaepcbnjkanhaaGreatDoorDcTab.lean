import Derived.Test.YtmaepcbnjkanhaaGreatDoorDcTy
import Derived.Test.YtmaepcbnjkanhaaGreatDoorDcR
import Derived.Test.YtmaepcbnjkanhaaGreatDoorDcRS
import Derived.Test.YtmaepcbnjkanhaaGreatDoorDcSh
import Derived.Test.YtmaepcbnjkanhaaGreatDoorProg
import Derived.KernelRfl
namespace Go.Dc
open Go Go.Proofs
theorem mo:Tryz.prog.follows .mixedOrders=true:=by kernel_rfl
theorem tx181 (s:ByteArray) (c:Int) (w:World):(callFunc 181 #[.string s,.int .u8 c]).run Tryz.prog w=.ok (.value (.int .i64 (idxB s c))) w:=run_idxB (fn:=Tryz.f181) Tryz.func181 (by kernel_rfl) (by kernel_rfl) (by kernel_rfl) (by kernel_rfl) s c w
theorem tu9:Tryz.prog.underlying 9=some (.string):=by kernel_rfl
theorem tu5:Tryz.prog.underlying 5=some (.int .u8):=by kernel_rfl
theorem tc158 (args:Array Value) (w:World):(callFunc 158 args).run Tryz.prog w=.ok (.enter 158 args) w:=by kernel_rfl
theorem tc180 (args:Array Value) (w:World):(callFunc 180 args).run Tryz.prog w=.ok (.enter 180 args) w:=by kernel_rfl
theorem tz4:(Tryz.prog.info? 4).bind (·.zero)=some (.bool false):=by kernel_rfl
theorem ts4:(Tryz.prog.info? 4).map (·.size)=some 1:=by kernel_rfl
theorem tu4:Tryz.prog.underlying 4=some (.bool):=by kernel_rfl
theorem tc90 (args:Array Value) (w:World):(callFunc 90 args).run Tryz.prog w=.ok (.enter 90 args) w:=by kernel_rfl
theorem tc124 (args:Array Value) (w:World):(callFunc 124 args).run Tryz.prog w=.ok (.enter 124 args) w:=by kernel_rfl
theorem tc154 (args:Array Value) (w:World):(callFunc 154 args).run Tryz.prog w=.ok (.enter 154 args) w:=by kernel_rfl
theorem tc91 (args:Array Value) (w:World):(callFunc 91 args).run Tryz.prog w=.ok (.enter 91 args) w:=by kernel_rfl
theorem tc156 (args:Array Value) (w:World):(callFunc 156 args).run Tryz.prog w=.ok (.enter 156 args) w:=by kernel_rfl
theorem tu3:Tryz.prog.underlying 3=some (.int .i64):=by kernel_rfl
theorem ts9:(Tryz.prog.info? 9).map (·.size)=some 1:=by kernel_rfl
theorem tc157 (args:Array Value) (w:World):(callFunc 157 args).run Tryz.prog w=.ok (.enter 157 args) w:=by kernel_rfl
theorem tc125 (args:Array Value) (w:World):(callFunc 125 args).run Tryz.prog w=.ok (.enter 125 args) w:=by kernel_rfl
theorem D9:(Tryz.prog.info? 29).bind (·.zero)=some (.agg #[.int .i64 0,.int .i64 0]):=by kernel_rfl
theorem C6:Tryz.prog.underlying 76=some (.slice 9):=by kernel_rfl
theorem Ec (x0:Int) (x1:Int) (w:World):(Instr.build 29 [(0,.int .i64 x0),(1,.int .i64 x1)].toArray).run Tryz.prog w=.ok (.agg #[.int .i64 x0,.int .i64 x1]) w:=by kernel_rfl
theorem Bo:(Tryz.prog.info? 29).map (·.size)=some 2:=by kernel_rfl
theorem Ci:Tryz.prog.underlying 29=some (.struct (Tryz.prog.fieldsOf 29)):=by kernel_rfl
theorem Eu  (w:World):(Instr.build 29 [].toArray).run Tryz.prog w=.ok (.agg #[.int .i64 0,.int .i64 0]) w:=by kernel_rfl
theorem tc126 (args:Array Value) (w:World):(callFunc 126 args).run Tryz.prog w=.ok (.enter 126 args) w:=by kernel_rfl
theorem Kh:Tryz.prog.underlying 117=some (.struct (Tryz.prog.fieldsOf 117)):=by kernel_rfl
theorem Qv:((Tryz.prog.fieldsOf 117)[0]?).map (fun f=>(f.offset,f.type))=some (0,3):=by kernel_rfl
theorem ts3:(Tryz.prog.info? 3).map (·.size)=some 1:=by kernel_rfl
theorem Q9:((Tryz.prog.fieldsOf 117)[1]?).map (fun f=>(f.offset,f.type))=some (1,76):=by kernel_rfl
theorem Kd:(Tryz.prog.info? 76).map (·.size)=some 1:=by kernel_rfl
theorem tf117_2:((Tryz.prog.fieldsOf 117)[2]?).map (fun f=>(f.offset,f.type))=some (2,76):=by kernel_rfl
theorem M8:(Tryz.prog.info? 117).map (·.size)=some 3:=by kernel_rfl
theorem tc141 (args:Array Value) (w:World):(callFunc 141 args).run Tryz.prog w=.ok (.enter 141 args) w:=by kernel_rfl
theorem tb209_0_1 (x0:Value) (h0:Ql x0) (x1:Value) (h1:Ql x1) (w:World):(Instr.build 209 [(0,x0),(1,x1)].toArray).run Tryz.prog w=.ok (.agg #[x0,x1]) w:=by obtain ⟨a0,n0,c0,rfl⟩:=h0;obtain ⟨a1,n1,c1,rfl⟩:=h1;kernel_rfl
theorem tu209:Tryz.prog.underlying 209=some (.array 2 76):=by kernel_rfl
theorem tc93 (args:Array Value) (w:World):(callFunc 93 args).run Tryz.prog w=.ok (.enter 93 args) w:=by kernel_rfl
theorem Hu:Tryz.prog.stoodInHeld 29=false:=by kernel_rfl
theorem Hr:Tryz.prog.eqGuardType Tryz.prog.depth 29=false:=by kernel_rfl
theorem Hn : (Tryz.prog.fieldsOf 29).toList.map (fun f => (f.name, f.type, f.offset)) = [("Code", 3, 0), ("Index", 3, 1)] := by kernel_rfl
theorem K7:((Tryz.prog.fieldsOf 29)[0]?).map (fun f=>(f.offset,f.type))=some (0,3):=by kernel_rfl
theorem tu79:Tryz.prog.underlying 79=some (.struct (Tryz.prog.fieldsOf 79)):=by kernel_rfl
theorem tf79_0:((Tryz.prog.fieldsOf 79)[0]?).map (fun f=>(f.offset,f.type))=some (0,77):=by kernel_rfl
theorem ts77:(Tryz.prog.info? 77).map (·.size)=some 1:=by kernel_rfl
theorem Lg:Tryz.prog.underlying 77=some (.slice 117):=by kernel_rfl
theorem tz117:(Tryz.prog.info? 117).bind (·.zero)=some (.agg #[.int .i64 0,.slice Option.none 0 0,.slice Option.none 0 0]):=by kernel_rfl
theorem tc140 (args:Array Value) (w:World):(callFunc 140 args).run Tryz.prog w=.ok (.enter 140 args) w:=by kernel_rfl
theorem Km:Tryz.prog.underlying 81=some (.struct (Tryz.prog.fieldsOf 81)):=by kernel_rfl
theorem tf81_0:((Tryz.prog.fieldsOf 81)[0]?).map (fun f=>(f.offset,f.type))=some (0,3):=by kernel_rfl
theorem tf81_1:((Tryz.prog.fieldsOf 81)[1]?).map (fun f=>(f.offset,f.type))=some (1,9):=by kernel_rfl
theorem tc54 (args:Array Value) (w:World):(callFunc 54 args).run Tryz.prog w=.ok (.enter 54 args) w:=by kernel_rfl
theorem tf81_2:((Tryz.prog.fieldsOf 81)[2]?).map (fun f=>(f.offset,f.type))=some (2,9):=by kernel_rfl
theorem tc92 (args:Array Value) (w:World):(callFunc 92 args).run Tryz.prog w=.ok (.enter 92 args) w:=by kernel_rfl
theorem tf81_3:((Tryz.prog.fieldsOf 81)[3]?).map (fun f=>(f.offset,f.type))=some (3,76):=by kernel_rfl
theorem tf81_4:((Tryz.prog.fieldsOf 81)[4]?).map (fun f=>(f.offset,f.type))=some (4,79):=by kernel_rfl
theorem Tb:(Tryz.prog.info? 79).map (·.size)=some 1:=by kernel_rfl
theorem tc112 (args:Array Value) (w:World):(callFunc 112 args).run Tryz.prog w=.ok (.enter 112 args) w:=by kernel_rfl
theorem Lm:Tryz.prog.underlying 37=some (.struct (Tryz.prog.fieldsOf 37)):=by kernel_rfl
theorem tf37_0:((Tryz.prog.fieldsOf 37)[0]?).map (fun f=>(f.offset,f.type))=some (0,35):=by kernel_rfl
theorem ts35:(Tryz.prog.info? 35).map (·.size)=some 1:=by kernel_rfl
theorem Cq:Tryz.prog.underlying 35=some (.slice 81):=by kernel_rfl
theorem Qj:(Tryz.prog.info? 81).map (·.size)=some 5:=by kernel_rfl
theorem tz81:(Tryz.prog.info? 81).bind (·.zero)=some (.agg #[.int .i64 0,.string ByteArray.empty,.string ByteArray.empty,.slice Option.none 0 0,.slice Option.none 0 0]):=by kernel_rfl
theorem tc85 (args:Array Value) (w:World):(callFunc 85 args).run Tryz.prog w=.ok (.enter 85 args) w:=by kernel_rfl
theorem Mz:Tryz.prog.underlying 44=some (.struct (Tryz.prog.fieldsOf 44)):=by kernel_rfl
theorem tf44_0:((Tryz.prog.fieldsOf 44)[0]?).map (fun f=>(f.offset,f.type))=some (0,3):=by kernel_rfl
theorem Qe:((Tryz.prog.fieldsOf 44)[3]?).map (fun f=>(f.offset,f.type))=some (3,3):=by kernel_rfl
theorem tf44_1:((Tryz.prog.fieldsOf 44)[1]?).map (fun f=>(f.offset,f.type))=some (1,3):=by kernel_rfl
theorem tf44_2:((Tryz.prog.fieldsOf 44)[2]?).map (fun f=>(f.offset,f.type))=some (2,3):=by kernel_rfl
theorem tc58 (args:Array Value) (w:World):(callFunc 58 args).run Tryz.prog w=.ok (.enter 58 args) w:=by kernel_rfl
theorem tf44_4:((Tryz.prog.fieldsOf 44)[4]?).map (fun f=>(f.offset,f.type))=some (4,37):=by kernel_rfl
theorem Ke:(Tryz.prog.info? 37).map (·.size)=some 1:=by kernel_rfl
theorem tc50 (args:Array Value) (w:World):(callFunc 50 args).run Tryz.prog w=.ok (.enter 50 args) w:=by kernel_rfl
theorem Hd:Tryz.prog.underlying 22=some (.slice 3):=by kernel_rfl
theorem tu23:Tryz.prog.underlying 23=some (.slice 44):=by kernel_rfl
theorem ts44:(Tryz.prog.info? 44).map (·.size)=some 5:=by kernel_rfl
theorem tz44:(Tryz.prog.info? 44).bind (·.zero)=some (.agg #[.int .i64 0,.int .i64 0,.int .i64 0,.int .i64 0,.slice Option.none 0 0]):=by kernel_rfl
theorem tc59 (args:Array Value) (w:World):(callFunc 59 args).run Tryz.prog w=.ok (.enter 59 args) w:=by kernel_rfl
theorem te9:ElemT Tryz.prog 9 1 16 (.string ByteArray.empty):=⟨by kernel_rfl,by kernel_rfl,by kernel_rfl,rfl⟩
theorem Kw:(Tryz.prog.info? 26).bind (·.zero)=some (.agg #[.slice Option.none 0 0]):=by kernel_rfl
theorem Di:Tryz.prog.underlying 26=some (.struct (Tryz.prog.fieldsOf 26)):=by kernel_rfl
theorem Dk:(Tryz.prog.info? 26).map (·.size)=some 1:=by kernel_rfl
theorem Er:((Tryz.prog.fieldsOf 26)[0]?).map (fun f=>(f.offset,f.type))=some (0,24):=by kernel_rfl
theorem Kf:(Tryz.prog.info? 24).map (·.size)=some 1:=by kernel_rfl
theorem Dl:Tryz.prog.underlying 24=some (.slice 98):=by kernel_rfl
theorem E8:(Tryz.prog.info? 98).map (·.size)=some 2:=by kernel_rfl
theorem Hq:Tryz.prog.underlying 98=some (.struct (Tryz.prog.fieldsOf 98)):=by kernel_rfl
theorem tz98:(Tryz.prog.info? 98).bind (·.zero)=some (.agg #[.string ByteArray.empty,.slice Option.none 0 0]):=by kernel_rfl
theorem Kv:((Tryz.prog.fieldsOf 98)[0]?).map (fun f=>(f.offset,f.type))=some (0,9):=by kernel_rfl
theorem Ng:((Tryz.prog.fieldsOf 98)[1]?).map (fun f=>(f.offset,f.type))=some (1,76):=by kernel_rfl
theorem tc84 (args:Array Value) (w:World):(callFunc 84 args).run Tryz.prog w=.ok (.enter 84 args) w:=by kernel_rfl
theorem tb98_0_1 (x0:ByteArray) (x1:Value) (h1:Ql x1) (w:World):(Instr.build 98 [(0,.string x0),(1,x1)].toArray).run Tryz.prog w=.ok (.agg #[.string x0,x1]) w:=by obtain ⟨a1,n1,c1,rfl⟩:=h1;kernel_rfl
theorem te98:ElemT Tryz.prog 98 2 40 (.agg #[.string ByteArray.empty,.slice Option.none 0 0]):=⟨by kernel_rfl,by kernel_rfl,by kernel_rfl,rfl⟩
theorem tc55 (args:Array Value) (w:World):(callFunc 55 args).run Tryz.prog w=.ok (.enter 55 args) w:=by kernel_rfl
theorem tc56 (args:Array Value) (w:World):(callFunc 56 args).run Tryz.prog w=.ok (.enter 56 args) w:=by kernel_rfl
theorem tc20 (args:Array Value) (w:World):(callFunc 20 args).run Tryz.prog w=.ok (.enter 20 args) w:=by kernel_rfl
theorem tc88 (args:Array Value) (w:World):(callFunc 88 args).run Tryz.prog w=.ok (.enter 88 args) w:=by kernel_rfl
theorem tc114 (args:Array Value) (w:World):(callFunc 114 args).run Tryz.prog w=.ok (.enter 114 args) w:=by kernel_rfl
theorem tc113 (args:Array Value) (w:World):(callFunc 113 args).run Tryz.prog w=.ok (.enter 113 args) w:=by kernel_rfl
theorem tx177 (p q:ByteArray) (w:World):(callFunc 177 #[.string p,.string q]).run Tryz.prog w=.ok (.value (.int .i64 (cmpB p q))) w:=run_cmpB (fn:=Tryz.f177) Tryz.func177 (by kernel_rfl) (by kernel_rfl) (by kernel_rfl) (by kernel_rfl) p q w
theorem tc151 (args:Array Value) (w:World):(callFunc 151 args).run Tryz.prog w=.ok (.enter 151 args) w:=by kernel_rfl
theorem tc122 (args:Array Value) (w:World):(callFunc 122 args).run Tryz.prog w=.ok (.enter 122 args) w:=by kernel_rfl
theorem tc120 (args:Array Value) (w:World):(callFunc 120 args).run Tryz.prog w=.ok (.enter 120 args) w:=by kernel_rfl
theorem tc121 (args:Array Value) (w:World):(callFunc 121 args).run Tryz.prog w=.ok (.enter 121 args) w:=by kernel_rfl
theorem tu194:Tryz.prog.underlying 194=some (.int .u64):=by kernel_rfl
theorem zr98 (g:Gh):Rep.rep g (({ Path:=ByteArray.empty,Lines:=[] }:File):File) [.string ByteArray.empty,.slice Option.none 0 0]:=K0 (.nil _)
theorem tc86 (args:Array Value) (w:World):(callFunc 86 args).run Tryz.prog w=.ok (.enter 86 args) w:=by kernel_rfl
theorem tb98_0 (x0:ByteArray) (w:World):(Instr.build 98 [(0,.string x0)].toArray).run Tryz.prog w=.ok (.agg #[.string x0,.slice Option.none 0 0]) w:=by kernel_rfl
theorem tc123 (args:Array Value) (w:World):(callFunc 123 args).run Tryz.prog w=.ok (.enter 123 args) w:=by kernel_rfl
theorem tc87 (args:Array Value) (w:World):(callFunc 87 args).run Tryz.prog w=.ok (.enter 87 args) w:=by kernel_rfl
theorem tc89 (args:Array Value) (w:World):(callFunc 89 args).run Tryz.prog w=.ok (.enter 89 args) w:=by kernel_rfl
theorem tc80 (args:Array Value) (w:World):(callFunc 80 args).run Tryz.prog w=.ok (.enter 80 args) w:=by kernel_rfl
theorem tb26_  (w:World):(Instr.build 26 [].toArray).run Tryz.prog w=.ok (.agg #[.slice Option.none 0 0]) w:=by kernel_rfl
theorem tc51 (args:Array Value) (w:World):(callFunc 51 args).run Tryz.prog w=.ok (.enter 51 args) w:=by kernel_rfl
theorem tc46 (args:Array Value) (w:World):(callFunc 46 args).run Tryz.prog w=.ok (.enter 46 args) w:=by kernel_rfl
theorem tc52 (args:Array Value) (w:World):(callFunc 52 args).run Tryz.prog w=.ok (.enter 52 args) w:=by kernel_rfl
theorem M1:Tryz.prog.underlying 91=some (.struct (Tryz.prog.fieldsOf 91)):=by kernel_rfl
theorem Q3:((Tryz.prog.fieldsOf 91)[1]?).map (fun f=>(f.offset,f.type))=some (1,54):=by kernel_rfl
theorem ts54:(Tryz.prog.info? 54).map (·.size)=some 1:=by kernel_rfl
theorem Mx:Tryz.prog.underlying 54=some (.slice 26):=by kernel_rfl
theorem tz3:(Tryz.prog.info? 3).bind (·.zero)=some (.int .i64 0):=by kernel_rfl
theorem te3:ElemT Tryz.prog 3 1 8 (.int .i64 0):=⟨by kernel_rfl,by kernel_rfl,by kernel_rfl,rfl⟩
theorem tz22:(Tryz.prog.info? 22).bind (·.zero)=some (.slice Option.none 0 0):=by kernel_rfl
theorem ts22:(Tryz.prog.info? 22).map (·.size)=some 1:=by kernel_rfl
theorem tc214 (args:Array Value) (w:World):(callFunc 214 args).run Tryz.prog w=.ok (.enter 214 args) w:=by kernel_rfl
theorem Mr:Tryz.prog.underlying 236=some (.struct (Tryz.prog.fieldsOf 236)):=by kernel_rfl
theorem tf236_1:((Tryz.prog.fieldsOf 236)[1]?).map (fun f=>(f.offset,f.type))=some (1,3):=by kernel_rfl
theorem tf236_2:((Tryz.prog.fieldsOf 236)[2]?).map (fun f=>(f.offset,f.type))=some (2,4):=by kernel_rfl
theorem tc215 (args:Array Value) (w:World):(callFunc 215 args).run Tryz.prog w=.ok (.enter 215 args) w:=by kernel_rfl
theorem Oa:((Tryz.prog.fieldsOf 236)[0]?).map (fun f=>(f.offset,f.type))=some (0,77):=by kernel_rfl
theorem tb117_0 (x0:Int) (w:World):(Instr.build 117 [(0,.int .i64 x0)].toArray).run Tryz.prog w=.ok (.agg #[.int .i64 x0,.slice Option.none 0 0,.slice Option.none 0 0]) w:=by kernel_rfl
theorem te117:ElemT Tryz.prog 117 3 56 (.agg #[.int .i64 0,.slice Option.none 0 0,.slice Option.none 0 0]):=⟨by kernel_rfl,by kernel_rfl,by kernel_rfl,rfl⟩
theorem tz79:(Tryz.prog.info? 79).bind (·.zero)=some (.agg #[.slice Option.none 0 0]):=by kernel_rfl
theorem tc187 (args:Array Value) (w:World):(callFunc 187 args).run Tryz.prog w=.ok (.enter 187 args) w:=by kernel_rfl
theorem tb79_  (w:World):(Instr.build 79 [].toArray).run Tryz.prog w=.ok (.agg #[.slice Option.none 0 0]) w:=by kernel_rfl
theorem tz236:(Tryz.prog.info? 236).bind (·.zero)=some (.agg #[.slice Option.none 0 0,.int .i64 0,.bool false]):=by kernel_rfl
theorem tc192 (args:Array Value) (w:World):(callFunc 192 args).run Tryz.prog w=.ok (.enter 192 args) w:=by kernel_rfl
theorem tb79_0 (x0:Value) (h0:Ql x0) (w:World):(Instr.build 79 [(0,x0)].toArray).run Tryz.prog w=.ok (.agg #[x0]) w:=by obtain ⟨a0,n0,c0,rfl⟩:=h0;kernel_rfl
theorem tc188 (args:Array Value) (w:World):(callFunc 188 args).run Tryz.prog w=.ok (.enter 188 args) w:=by kernel_rfl
theorem tc189 (args:Array Value) (w:World):(callFunc 189 args).run Tryz.prog w=.ok (.enter 189 args) w:=by kernel_rfl
theorem tc190 (args:Array Value) (w:World):(callFunc 190 args).run Tryz.prog w=.ok (.enter 190 args) w:=by kernel_rfl
theorem tc191 (args:Array Value) (w:World):(callFunc 191 args).run Tryz.prog w=.ok (.enter 191 args) w:=by kernel_rfl
theorem Ht:ElemT Tryz.prog 81 5 88 (.agg #[.int .i64 0,.string ByteArray.empty,.string ByteArray.empty,.slice Option.none 0 0,.slice Option.none 0 0]):=⟨by kernel_rfl,by kernel_rfl,by kernel_rfl,rfl⟩
theorem zr81 (g:Gh):Rep.rep g (({ Kind:=0,Path:=ByteArray.empty,To:=ByteArray.empty,Lines:=[],Patch:=({ Hunks:=[] }:Patch) }:TreeChange):TreeChange) [.int .i64 0,.string ByteArray.empty,.string ByteArray.empty,.slice Option.none 0 0,.slice Option.none 0 0]:=Ga (.nil _) (.nil _)
theorem tc193 (args:Array Value) (w:World):(callFunc 193 args).run Tryz.prog w=.ok (.enter 193 args) w:=by kernel_rfl
theorem tu241:Tryz.prog.underlying 241=some (.slice 35):=by kernel_rfl
theorem Qg:(Tryz.prog.info? 37).bind (·.zero)=some (.agg #[.slice Option.none 0 0]):=by kernel_rfl
theorem tb37_  (w:World):(Instr.build 37 [].toArray).run Tryz.prog w=.ok (.agg #[.slice Option.none 0 0]) w:=by kernel_rfl
theorem te35:ElemT Tryz.prog 35 1 24 (.slice Option.none 0 0):=⟨by kernel_rfl,by kernel_rfl,by kernel_rfl,rfl⟩
theorem tc169 (args:Array Value) (w:World):(callFunc 169 args).run Tryz.prog w=.ok (.enter 169 args) w:=by kernel_rfl
theorem Hv (x0:Value) (h0:Ql x0) (w:World):(Instr.build 37 [(0,x0)].toArray).run Tryz.prog w=.ok (.agg #[x0]) w:=by obtain ⟨a0,n0,c0,rfl⟩:=h0;kernel_rfl
theorem Q5 (x0:Int) (x1:ByteArray) (x3:Value) (h3:Ql x3) (w:World):(Instr.build 81 [(0,.int .i64 x0),(1,.string x1),(3,x3)].toArray).run Tryz.prog w=.ok (.agg #[.int .i64 x0,.string x1,.string ByteArray.empty,x3,.slice Option.none 0 0]) w:=by obtain ⟨a3,n3,c3,rfl⟩:=h3;kernel_rfl
theorem tc168 (args:Array Value) (w:World):(callFunc 168 args).run Tryz.prog w=.ok (.enter 168 args) w:=by kernel_rfl
theorem tb81_0_1_4 (x0:Int) (x1:ByteArray) (x4:Value) (h4:Ql x4) (w:World):(Instr.build 81 [(0,.int .i64 x0),(1,.string x1),(4,.agg #[x4])].toArray).run Tryz.prog w=.ok (.agg #[.int .i64 x0,.string x1,.string ByteArray.empty,.slice Option.none 0 0,x4]) w:=by obtain ⟨a4,n4,c4,rfl⟩:=h4;kernel_rfl
theorem tu156:Tryz.prog.underlying 156=some (.array 2 3):=by kernel_rfl
theorem tc135 (args:Array Value) (w:World):(callFunc 135 args).run Tryz.prog w=.ok (.enter 135 args) w:=by kernel_rfl
theorem tu111:Tryz.prog.underlying 111=some (.slice 5):=by kernel_rfl
theorem tb29_0 (x0:Int) (w:World):(Instr.build 29 [(0,.int .i64 x0)].toArray).run Tryz.prog w=.ok (.agg #[.int .i64 x0,.int .i64 0]) w:=by kernel_rfl
theorem ts5:(Tryz.prog.info? 5).map (·.size)=some 1:=by kernel_rfl
theorem tb156_0_1 (x0:Int) (x1:Int) (w:World):(Instr.build 156 [(0,.int .i64 x0),(1,.int .i64 x1)].toArray).run Tryz.prog w=.ok (.agg #[.int .i64 x0,.int .i64 x1]) w:=by kernel_rfl
theorem tc100 (args:Array Value) (w:World):(callFunc 100 args).run Tryz.prog w=.ok (.enter 100 args) w:=by kernel_rfl
theorem tc101 (args:Array Value) (w:World):(callFunc 101 args).run Tryz.prog w=.ok (.enter 101 args) w:=by kernel_rfl
theorem tb155_0_1 (x0:Int) (x1:Int) (w:World):(Instr.build 155 [(0,.int .i64 x0),(1,.int .i64 x1)].toArray).run Tryz.prog w=.ok (.agg #[.int .i64 x0,.int .i64 x1]) w:=by kernel_rfl
theorem tu155:Tryz.prog.underlying 155=some (.array 2 3):=by kernel_rfl
theorem tc136 (args:Array Value) (w:World):(callFunc 136 args).run Tryz.prog w=.ok (.enter 136 args) w:=by kernel_rfl
theorem tc62 (args:Array Value) (w:World):(callFunc 62 args).run Tryz.prog w=.ok (.enter 62 args) w:=by kernel_rfl
theorem tc102 (args:Array Value) (w:World):(callFunc 102 args).run Tryz.prog w=.ok (.enter 102 args) w:=by kernel_rfl
theorem tc64 (args:Array Value) (w:World):(callFunc 64 args).run Tryz.prog w=.ok (.enter 64 args) w:=by kernel_rfl
theorem tc61 (args:Array Value) (w:World):(callFunc 61 args).run Tryz.prog w=.ok (.enter 61 args) w:=by kernel_rfl
theorem tc63 (args:Array Value) (w:World):(callFunc 63 args).run Tryz.prog w=.ok (.enter 63 args) w:=by kernel_rfl
theorem tc65 (args:Array Value) (w:World):(callFunc 65 args).run Tryz.prog w=.ok (.enter 65 args) w:=by kernel_rfl
theorem te5:ElemT Tryz.prog 5 1 1 (.int .u8 0):=⟨by kernel_rfl,by kernel_rfl,by kernel_rfl,rfl⟩
theorem tc75 (args:Array Value) (w:World):(callFunc 75 args).run Tryz.prog w=.ok (.enter 75 args) w:=by kernel_rfl
theorem tc194 (args:Array Value) (w:World):(callFunc 194 args).run Tryz.prog w=.ok (.enter 194 args) w:=by kernel_rfl
theorem Lr:Tryz.prog.underlying 166=some (.struct (Tryz.prog.fieldsOf 166)):=by kernel_rfl
theorem tf166_4:((Tryz.prog.fieldsOf 166)[4]?).map (fun f=>(f.offset,f.type))=some (4,37):=by kernel_rfl
theorem tc31 (args:Array Value) (w:World):(callFunc 31 args).run Tryz.prog w=.ok (.enter 31 args) w:=by kernel_rfl
theorem tf166_0:((Tryz.prog.fieldsOf 166)[0]?).map (fun f=>(f.offset,f.type))=some (0,3):=by kernel_rfl
theorem tf166_1:((Tryz.prog.fieldsOf 166)[1]?).map (fun f=>(f.offset,f.type))=some (1,3):=by kernel_rfl
theorem tf166_2:((Tryz.prog.fieldsOf 166)[2]?).map (fun f=>(f.offset,f.type))=some (2,3):=by kernel_rfl
theorem tc170 (args:Array Value) (w:World):(callFunc 170 args).run Tryz.prog w=.ok (.enter 170 args) w:=by kernel_rfl
theorem tf91_2:((Tryz.prog.fieldsOf 91)[2]?).map (fun f=>(f.offset,f.type))=some (2,88):=by kernel_rfl
theorem ts88:(Tryz.prog.info? 88).map (·.size)=some 1:=by kernel_rfl
theorem tu88:Tryz.prog.underlying 88=some (.slice 105):=by kernel_rfl
theorem ts105:(Tryz.prog.info? 105).map (·.size)=some 4:=by kernel_rfl
theorem N9:Tryz.prog.underlying 105=some (.struct (Tryz.prog.fieldsOf 105)):=by kernel_rfl
theorem tf105_1:((Tryz.prog.fieldsOf 105)[1]?).map (fun f=>(f.offset,f.type))=some (1,3):=by kernel_rfl
theorem tf105_0:((Tryz.prog.fieldsOf 105)[0]?).map (fun f=>(f.offset,f.type))=some (0,26):=by kernel_rfl
theorem M2 (args:Array Value) (w:World):(callFunc 144 args).run Tryz.prog w=.ok (.enter 144 args) w:=by kernel_rfl
theorem Nk:((Tryz.prog.fieldsOf 91)[3]?).map (fun f=>(f.offset,f.type))=some (3,89):=by kernel_rfl
theorem ts89:(Tryz.prog.info? 89).map (·.size)=some 1:=by kernel_rfl
theorem G4:Tryz.prog.underlying 89=some (.slice 166):=by kernel_rfl
theorem tf105_2:((Tryz.prog.fieldsOf 105)[2]?).map (fun f=>(f.offset,f.type))=some (2,3):=by kernel_rfl
theorem tb166_0_1_2_4 (x0:Int) (x1:Int) (x2:Int) (x4:Value) (h4:Ql x4) (w:World):(Instr.build 166 [(0,.int .i64 x0),(1,.int .i64 x1),(2,.int .i64 x2),(4,.agg #[x4])].toArray).run Tryz.prog w=.ok (.agg #[.int .i64 x0,.int .i64 x1,.int .i64 x2,.int .i64 0,x4]) w:=by obtain ⟨a4,n4,c4,rfl⟩:=h4;kernel_rfl
theorem tz166:(Tryz.prog.info? 166).bind (·.zero)=some (.agg #[.int .i64 0,.int .i64 0,.int .i64 0,.int .i64 0,.slice Option.none 0 0]):=by kernel_rfl
theorem Hg:(Tryz.prog.info? 166).map (·.size)=some 5:=by kernel_rfl
theorem tc146 (args:Array Value) (w:World):(callFunc 146 args).run Tryz.prog w=.ok (.enter 146 args) w:=by kernel_rfl
theorem tc145 (args:Array Value) (w:World):(callFunc 145 args).run Tryz.prog w=.ok (.enter 145 args) w:=by kernel_rfl
theorem tf166_3:((Tryz.prog.fieldsOf 166)[3]?).map (fun f=>(f.offset,f.type))=some (3,3):=by kernel_rfl
theorem te166:ElemT Tryz.prog 166 5 56 (.agg #[.int .i64 0,.int .i64 0,.int .i64 0,.int .i64 0,.slice Option.none 0 0]):=⟨by kernel_rfl,by kernel_rfl,by kernel_rfl,rfl⟩
theorem tc115 (args:Array Value) (w:World):(callFunc 115 args).run Tryz.prog w=.ok (.enter 115 args) w:=by kernel_rfl
theorem tc47 (args:Array Value) (w:World):(callFunc 47 args).run Tryz.prog w=.ok (.enter 47 args) w:=by kernel_rfl
theorem Lk (args:Array Value) (w:World):(callFunc 18 args).run Tryz.prog w=.ok (.enter 18 args) w:=by kernel_rfl
theorem tc116 (args:Array Value) (w:World):(callFunc 116 args).run Tryz.prog w=.ok (.enter 116 args) w:=by kernel_rfl
theorem zr166 (g:Gh):Rep.rep g (({ user:=0,number:=0,base:=0,signature:=0,patch:=({ Changes:=[] }:TreePatch) }:Message_forge):Message_forge) [.int .i64 0,.int .i64 0,.int .i64 0,.int .i64 0,.slice Option.none 0 0]:=H8 (.nil _)
theorem tc218 (args:Array Value) (w:World):(callFunc 218 args).run Tryz.prog w=.ok (.enter 218 args) w:=by kernel_rfl
theorem tc217 (args:Array Value) (w:World):(callFunc 217 args).run Tryz.prog w=.ok (.enter 217 args) w:=by kernel_rfl
theorem tc228 (args:Array Value) (w:World):(callFunc 228 args).run Tryz.prog w=.ok (.enter 228 args) w:=by kernel_rfl
theorem tc219 (args:Array Value) (w:World):(callFunc 219 args).run Tryz.prog w=.ok (.enter 219 args) w:=by kernel_rfl
theorem tc195 (args:Array Value) (w:World):(callFunc 195 args).run Tryz.prog w=.ok (.enter 195 args) w:=by kernel_rfl
theorem tc216 (args:Array Value) (w:World):(callFunc 216 args).run Tryz.prog w=.ok (.enter 216 args) w:=by kernel_rfl
theorem tc196 (args:Array Value) (w:World):(callFunc 196 args).run Tryz.prog w=.ok (.enter 196 args) w:=by kernel_rfl
theorem tc197 (args:Array Value) (w:World):(callFunc 197 args).run Tryz.prog w=.ok (.enter 197 args) w:=by kernel_rfl
theorem tc198 (args:Array Value) (w:World):(callFunc 198 args).run Tryz.prog w=.ok (.enter 198 args) w:=by kernel_rfl
theorem tz218:(Tryz.prog.info? 218).bind (·.zero)=some (.agg #[.bool false,.slice Option.none 0 0]):=by kernel_rfl
theorem tb218_  (w:World):(Instr.build 218 [].toArray).run Tryz.prog w=.ok (.agg #[.bool false,.slice Option.none 0 0]) w:=by kernel_rfl
theorem Hh:(Tryz.prog.info? 218).map (·.size)=some 2:=by kernel_rfl
theorem Gl:Tryz.prog.underlying 218=some (.struct (Tryz.prog.fieldsOf 218)):=by kernel_rfl
theorem tb218_0_1 (x0:Bool) (x1:Value) (h1:Ql x1) (w:World):(Instr.build 218 [(0,.bool x0),(1,x1)].toArray).run Tryz.prog w=.ok (.agg #[.bool x0,x1]) w:=by obtain ⟨a1,n1,c1,rfl⟩:=h1;kernel_rfl
theorem Ob:((Tryz.prog.fieldsOf 218)[0]?).map (fun f=>(f.offset,f.type))=some (0,4):=by kernel_rfl
theorem Qw:((Tryz.prog.fieldsOf 218)[1]?).map (fun f=>(f.offset,f.type))=some (1,76):=by kernel_rfl
theorem tc199 (args:Array Value) (w:World):(callFunc 199 args).run Tryz.prog w=.ok (.enter 199 args) w:=by kernel_rfl
theorem tc200 (args:Array Value) (w:World):(callFunc 200 args).run Tryz.prog w=.ok (.enter 200 args) w:=by kernel_rfl
theorem tc201 (args:Array Value) (w:World):(callFunc 201 args).run Tryz.prog w=.ok (.enter 201 args) w:=by kernel_rfl
theorem tu177:Tryz.prog.underlying 177=some (.slice 155):=by kernel_rfl
theorem te155:ElemT Tryz.prog 155 2 16 (.agg #[.int .i64 0,.int .i64 0]):=⟨by kernel_rfl,by kernel_rfl,by kernel_rfl,rfl⟩
theorem tc171 (args:Array Value) (w:World):(callFunc 171 args).run Tryz.prog w=.ok (.enter 171 args) w:=by kernel_rfl
theorem tz155:(Tryz.prog.info? 155).bind (·.zero)=some (.agg #[.int .i64 0,.int .i64 0]):=by kernel_rfl
theorem tc172 (args:Array Value) (w:World):(callFunc 172 args).run Tryz.prog w=.ok (.enter 172 args) w:=by kernel_rfl
theorem ts155:(Tryz.prog.info? 155).map (·.size)=some 2:=by kernel_rfl
theorem tc174 (args:Array Value) (w:World):(callFunc 174 args).run Tryz.prog w=.ok (.enter 174 args) w:=by kernel_rfl
theorem te26:ElemT Tryz.prog 26 1 24 (.agg #[.slice Option.none 0 0]):=⟨by kernel_rfl,by kernel_rfl,by kernel_rfl,rfl⟩
theorem tc173 (args:Array Value) (w:World):(callFunc 173 args).run Tryz.prog w=.ok (.enter 173 args) w:=by kernel_rfl
theorem tc175 (args:Array Value) (w:World):(callFunc 175 args).run Tryz.prog w=.ok (.enter 175 args) w:=by kernel_rfl
theorem tf91_0:((Tryz.prog.fieldsOf 91)[0]?).map (fun f=>(f.offset,f.type))=some (0,22):=by kernel_rfl
theorem tc147 (args:Array Value) (w:World):(callFunc 147 args).run Tryz.prog w=.ok (.enter 147 args) w:=by kernel_rfl
theorem tf105_3:((Tryz.prog.fieldsOf 105)[3]?).map (fun f=>(f.offset,f.type))=some (3,3):=by kernel_rfl
theorem tc148 (args:Array Value) (w:World):(callFunc 148 args).run Tryz.prog w=.ok (.enter 148 args) w:=by kernel_rfl
theorem tf91_4:((Tryz.prog.fieldsOf 91)[4]?).map (fun f=>(f.offset,f.type))=some (4,27):=by kernel_rfl
theorem ts27:(Tryz.prog.info? 27).map (·.size)=some 1:=by kernel_rfl
theorem tu27:Tryz.prog.underlying 27=some (.slice 39):=by kernel_rfl
theorem tb39_0_1_2 (x0:Int) (x1:Int) (x2:Value) (h2:Ql x2) (w:World):(Instr.build 39 [(0,.int .i64 x0),(1,.int .i64 x1),(2,.agg #[x2])].toArray).run Tryz.prog w=.ok (.agg #[.int .i64 x0,.int .i64 x1,x2]) w:=by obtain ⟨a2,n2,c2,rfl⟩:=h2;kernel_rfl
theorem te39:ElemT Tryz.prog 39 3 40 (.agg #[.int .i64 0,.int .i64 0,.slice Option.none 0 0]):=⟨by kernel_rfl,by kernel_rfl,by kernel_rfl,rfl⟩
theorem tc117 (args:Array Value) (w:World):(callFunc 117 args).run Tryz.prog w=.ok (.enter 117 args) w:=by kernel_rfl
theorem tc118 (args:Array Value) (w:World):(callFunc 118 args).run Tryz.prog w=.ok (.enter 118 args) w:=by kernel_rfl
theorem tc119 (args:Array Value) (w:World):(callFunc 119 args).run Tryz.prog w=.ok (.enter 119 args) w:=by kernel_rfl
theorem tc28 (args:Array Value) (w:World):(callFunc 28 args).run Tryz.prog w=.ok (.enter 28 args) w:=by kernel_rfl
theorem te105:ElemT Tryz.prog 105 4 48 (.agg #[.slice Option.none 0 0,.int .i64 0,.int .i64 0,.int .i64 0]):=⟨by kernel_rfl,by kernel_rfl,by kernel_rfl,rfl⟩
theorem tb91_0_1_2 (x0:Value) (h0:Ql x0) (x1:Value) (h1:Ql x1) (x2:Value) (h2:Ql x2) (w:World):(Instr.build 91 [(0,x0),(1,x1),(2,x2)].toArray).run Tryz.prog w=.ok (.agg #[x0,x1,x2,.slice Option.none 0 0,.slice Option.none 0 0]) w:=by obtain ⟨a0,n0,c0,rfl⟩:=h0;obtain ⟨a1,n1,c1,rfl⟩:=h1;obtain ⟨a2,n2,c2,rfl⟩:=h2;kernel_rfl
theorem tc83 (args:Array Value) (w:World):(callFunc 83 args).run Tryz.prog w=.ok (.enter 83 args) w:=by kernel_rfl
theorem tc82 (args:Array Value) (w:World):(callFunc 82 args).run Tryz.prog w=.ok (.enter 82 args) w:=by kernel_rfl
theorem tc45 (args:Array Value) (w:World):(callFunc 45 args).run Tryz.prog w=.ok (.enter 45 args) w:=by kernel_rfl
theorem tc53 (args:Array Value) (w:World):(callFunc 53 args).run Tryz.prog w=.ok (.enter 53 args) w:=by kernel_rfl
theorem ts39:(Tryz.prog.info? 39).map (·.size)=some 3:=by kernel_rfl
theorem tu39:Tryz.prog.underlying 39=some (.struct (Tryz.prog.fieldsOf 39)):=by kernel_rfl
theorem tf39_0:((Tryz.prog.fieldsOf 39)[0]?).map (fun f=>(f.offset,f.type))=some (0,3):=by kernel_rfl
theorem tb26_0 (x0:Value) (h0:Ql x0) (w:World):(Instr.build 26 [(0,x0)].toArray).run Tryz.prog w=.ok (.agg #[x0]) w:=by obtain ⟨a0,n0,c0,rfl⟩:=h0;kernel_rfl
theorem te44:ElemT Tryz.prog 44 5 56 (.agg #[.int .i64 0,.int .i64 0,.int .i64 0,.int .i64 0,.slice Option.none 0 0]):=⟨by kernel_rfl,by kernel_rfl,by kernel_rfl,rfl⟩
theorem tc16 (args:Array Value) (w:World):(callFunc 16 args).run Tryz.prog w=.ok (.enter 16 args) w:=by kernel_rfl
theorem tc19 (args:Array Value) (w:World):(callFunc 19 args).run Tryz.prog w=.ok (.enter 19 args) w:=by kernel_rfl
theorem tc25 (args:Array Value) (w:World):(callFunc 25 args).run Tryz.prog w=.ok (.enter 25 args) w:=by kernel_rfl
theorem tb44_0_3 (x0:Int) (x3:Int) (w:World):(Instr.build 44 [(0,.int .i64 x0),(3,.int .i64 x3)].toArray).run Tryz.prog w=.ok (.agg #[.int .i64 x0,.int .i64 0,.int .i64 0,.int .i64 x3,.slice Option.none 0 0]) w:=by kernel_rfl
theorem tb117_0_1_2 (x0:Int) (x1:Value) (h1:Ql x1) (x2:Value) (h2:Ql x2) (w:World):(Instr.build 117 [(0,.int .i64 x0),(1,x1),(2,x2)].toArray).run Tryz.prog w=.ok (.agg #[.int .i64 x0,x1,x2]) w:=by obtain ⟨a1,n1,c1,rfl⟩:=h1;obtain ⟨a2,n2,c2,rfl⟩:=h2;kernel_rfl
theorem tc81 (args:Array Value) (w:World):(callFunc 81 args).run Tryz.prog w=.ok (.enter 81 args) w:=by kernel_rfl
theorem tc44 (args:Array Value) (w:World):(callFunc 44 args).run Tryz.prog w=.ok (.enter 44 args) w:=by kernel_rfl
theorem tb44_0_1_4 (x0:Int) (x1:Int) (x4:Value) (h4:Ql x4) (w:World):(Instr.build 44 [(0,.int .i64 x0),(1,.int .i64 x1),(4,.agg #[x4])].toArray).run Tryz.prog w=.ok (.agg #[.int .i64 x0,.int .i64 x1,.int .i64 0,.int .i64 0,x4]) w:=by obtain ⟨a4,n4,c4,rfl⟩:=h4;kernel_rfl
theorem tb44_0_1_2 (x0:Int) (x1:Int) (x2:Int) (w:World):(Instr.build 44 [(0,.int .i64 x0),(1,.int .i64 x1),(2,.int .i64 x2)].toArray).run Tryz.prog w=.ok (.agg #[.int .i64 x0,.int .i64 x1,.int .i64 x2,.int .i64 0,.slice Option.none 0 0]) w:=by kernel_rfl
end Go.Dc
