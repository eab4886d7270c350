import Derived.Test.YtmhjcomgbfonfaaGreatDoorDcTy
import Derived.Test.YtmhjcomgbfonfaaGreatDoorDcR
import Derived.Test.YtmhjcomgbfonfaaGreatDoorDcRS
import Derived.Test.YtmhjcomgbfonfaaGreatDoorDcSh
import Derived.Test.YtmhjcomgbfonfaaGreatDoorProg
import Derived.KernelRfl
namespace Go.Dc
open Go Go.Proofs
theorem mo:Tryz.prog.follows .mixedOrders=true:=by kernel_rfl
theorem tx236 (s:ByteArray) (c:Int) (w:World):(callFunc 236 #[.string s,.int .u8 c]).run Tryz.prog w=.ok (.value (.int .i64 (idxB s c))) w:=run_idxB (fn:=Tryz.f236) Tryz.func236 (by kernel_rfl) (by kernel_rfl) (by kernel_rfl) (by kernel_rfl) s c w
theorem tu9:Tryz.prog.underlying 9=some (.string):=by kernel_rfl
theorem tc212 (args:Array Value) (w:World):(callFunc 212 args).run Tryz.prog w=.ok (.enter 212 args) w:=by kernel_rfl
theorem tc235 (args:Array Value) (w:World):(callFunc 235 args).run Tryz.prog w=.ok (.enter 235 args) w:=by kernel_rfl
theorem tz4:(Tryz.prog.info? 4).bind (·.zero)=some (.bool false):=by kernel_rfl
theorem ts4:(Tryz.prog.info? 4).map (·.size)=some 1:=by kernel_rfl
theorem tu4:Tryz.prog.underlying 4=some (.bool):=by kernel_rfl
theorem tc106 (args:Array Value) (w:World):(callFunc 106 args).run Tryz.prog w=.ok (.enter 106 args) w:=by kernel_rfl
theorem tc168 (args:Array Value) (w:World):(callFunc 168 args).run Tryz.prog w=.ok (.enter 168 args) w:=by kernel_rfl
theorem tc209 (args:Array Value) (w:World):(callFunc 209 args).run Tryz.prog w=.ok (.enter 209 args) w:=by kernel_rfl
theorem tc107 (args:Array Value) (w:World):(callFunc 107 args).run Tryz.prog w=.ok (.enter 107 args) w:=by kernel_rfl
theorem tc211 (args:Array Value) (w:World):(callFunc 211 args).run Tryz.prog w=.ok (.enter 211 args) w:=by kernel_rfl
theorem tu3:Tryz.prog.underlying 3=some (.int .i64):=by kernel_rfl
theorem ts9:(Tryz.prog.info? 9).map (·.size)=some 1:=by kernel_rfl
theorem Gn:(Tryz.prog.info? 30).bind (·.zero)=some (.agg #[.int .i64 0,.int .i64 0]):=by kernel_rfl
theorem Cn:Tryz.prog.underlying 42=some (.slice 9):=by kernel_rfl
theorem E7 (x0:Int) (x1:Int) (w:World):(Instr.build 30 [(0,.int .i64 x0),(1,.int .i64 x1)].toArray).run Tryz.prog w=.ok (.agg #[.int .i64 x0,.int .i64 x1]) w:=by kernel_rfl
theorem Bw:(Tryz.prog.info? 30).map (·.size)=some 2:=by kernel_rfl
theorem Cs:Tryz.prog.underlying 30=some (.struct (Tryz.prog.fieldsOf 30)):=by kernel_rfl
theorem Gp  (w:World):(Instr.build 30 [].toArray).run Tryz.prog w=.ok (.agg #[.int .i64 0,.int .i64 0]) w:=by kernel_rfl
theorem tc169 (args:Array Value) (w:World):(callFunc 169 args).run Tryz.prog w=.ok (.enter 169 args) w:=by kernel_rfl
theorem E3:Tryz.prog.underlying 91=some (.struct (Tryz.prog.fieldsOf 91)):=by kernel_rfl
theorem Li:((Tryz.prog.fieldsOf 91)[0]?).map (fun f=>(f.offset,f.type))=some (0,3):=by kernel_rfl
theorem ts3:(Tryz.prog.info? 3).map (·.size)=some 1:=by kernel_rfl
theorem Ki:((Tryz.prog.fieldsOf 91)[1]?).map (fun f=>(f.offset,f.type))=some (1,42):=by kernel_rfl
theorem Ej:(Tryz.prog.info? 42).map (·.size)=some 1:=by kernel_rfl
theorem Lb:((Tryz.prog.fieldsOf 91)[2]?).map (fun f=>(f.offset,f.type))=some (2,42):=by kernel_rfl
theorem Km:(Tryz.prog.info? 91).map (·.size)=some 3:=by kernel_rfl
theorem tc110 (args:Array Value) (w:World):(callFunc 110 args).run Tryz.prog w=.ok (.enter 110 args) w:=by kernel_rfl
theorem tb216_0_1 (x0:Value) (h0:IsSl x0) (x1:Value) (h1:IsSl x1) (w:World):(Instr.build 216 [(0,x0),(1,x1)].toArray).run Tryz.prog w=.ok (.agg #[x0,x1]) w:=by obtain ⟨a0,n0,c0,rfl⟩:=h0;obtain ⟨a1,n1,c1,rfl⟩:=h1;kernel_rfl
theorem tu216:Tryz.prog.underlying 216=some (.array 2 42):=by kernel_rfl
theorem tc108 (args:Array Value) (w:World):(callFunc 108 args).run Tryz.prog w=.ok (.enter 108 args) w:=by kernel_rfl
theorem L0:Tryz.prog.stoodInHeld 30=false:=by kernel_rfl
theorem L4:Tryz.prog.eqGuardType Tryz.prog.depth 30=false:=by kernel_rfl
theorem L1 : (Tryz.prog.fieldsOf 30).toList.map (fun f => (f.name, f.type, f.offset)) = [("Code", 3, 0), ("Index", 3, 1)] := by kernel_rfl
theorem Kc:((Tryz.prog.fieldsOf 30)[0]?).map (fun f=>(f.offset,f.type))=some (0,3):=by kernel_rfl
theorem Eh:Tryz.prog.underlying 45=some (.struct (Tryz.prog.fieldsOf 45)):=by kernel_rfl
theorem Ei:((Tryz.prog.fieldsOf 45)[0]?).map (fun f=>(f.offset,f.type))=some (0,43):=by kernel_rfl
theorem G9:(Tryz.prog.info? 43).map (·.size)=some 1:=by kernel_rfl
theorem Dw:Tryz.prog.underlying 43=some (.slice 91):=by kernel_rfl
theorem tz91:(Tryz.prog.info? 91).bind (·.zero)=some (.agg #[.int .i64 0,.slice Option.none 0 0,.slice Option.none 0 0]):=by kernel_rfl
theorem tc109 (args:Array Value) (w:World):(callFunc 109 args).run Tryz.prog w=.ok (.enter 109 args) w:=by kernel_rfl
theorem tc206 (args:Array Value) (w:World):(callFunc 206 args).run Tryz.prog w=.ok (.enter 206 args) w:=by kernel_rfl
theorem tc150 (args:Array Value) (w:World):(callFunc 150 args).run Tryz.prog w=.ok (.enter 150 args) w:=by kernel_rfl
theorem D4:Tryz.prog.underlying 51=some (.struct (Tryz.prog.fieldsOf 51)):=by kernel_rfl
theorem H2:((Tryz.prog.fieldsOf 51)[0]?).map (fun f=>(f.offset,f.type))=some (0,3):=by kernel_rfl
theorem Mq:((Tryz.prog.fieldsOf 51)[1]?).map (fun f=>(f.offset,f.type))=some (1,9):=by kernel_rfl
theorem tc53 (args:Array Value) (w:World):(callFunc 53 args).run Tryz.prog w=.ok (.enter 53 args) w:=by kernel_rfl
theorem Mk:((Tryz.prog.fieldsOf 51)[2]?).map (fun f=>(f.offset,f.type))=some (2,9):=by kernel_rfl
theorem tc92 (args:Array Value) (w:World):(callFunc 92 args).run Tryz.prog w=.ok (.enter 92 args) w:=by kernel_rfl
theorem O1:((Tryz.prog.fieldsOf 51)[3]?).map (fun f=>(f.offset,f.type))=some (3,42):=by kernel_rfl
theorem Mf:((Tryz.prog.fieldsOf 51)[4]?).map (fun f=>(f.offset,f.type))=some (4,45):=by kernel_rfl
theorem El:(Tryz.prog.info? 45).map (·.size)=some 1:=by kernel_rfl
theorem tc55 (args:Array Value) (w:World):(callFunc 55 args).run Tryz.prog w=.ok (.enter 55 args) w:=by kernel_rfl
theorem G6:Tryz.prog.underlying 27=some (.struct (Tryz.prog.fieldsOf 27)):=by kernel_rfl
theorem Hb:((Tryz.prog.fieldsOf 27)[0]?).map (fun f=>(f.offset,f.type))=some (0,25):=by kernel_rfl
theorem Lr:(Tryz.prog.info? 25).map (·.size)=some 1:=by kernel_rfl
theorem D9:Tryz.prog.underlying 25=some (.slice 51):=by kernel_rfl
theorem Lj:(Tryz.prog.info? 51).map (·.size)=some 5:=by kernel_rfl
theorem tz51:(Tryz.prog.info? 51).bind (·.zero)=some (.agg #[.int .i64 0,.string ByteArray.empty,.string ByteArray.empty,.slice Option.none 0 0,.slice Option.none 0 0]):=by kernel_rfl
theorem tc104 (args:Array Value) (w:World):(callFunc 104 args).run Tryz.prog w=.ok (.enter 104 args) w:=by kernel_rfl
theorem Cv:Tryz.prog.underlying 22=some (.slice 80):=by kernel_rfl
theorem Ek:(Tryz.prog.info? 80).map (·.size)=some 2:=by kernel_rfl
theorem Gq:Tryz.prog.underlying 80=some (.struct (Tryz.prog.fieldsOf 80)):=by kernel_rfl
theorem tz80:(Tryz.prog.info? 80).bind (·.zero)=some (.agg #[.string ByteArray.empty,.slice Option.none 0 0]):=by kernel_rfl
theorem Gs:((Tryz.prog.fieldsOf 80)[0]?).map (fun f=>(f.offset,f.type))=some (0,9):=by kernel_rfl
theorem D7:Tryz.prog.underlying 24=some (.struct (Tryz.prog.fieldsOf 24)):=by kernel_rfl
theorem Dk:((Tryz.prog.fieldsOf 24)[0]?).map (fun f=>(f.offset,f.type))=some (0,22):=by kernel_rfl
theorem Gg:(Tryz.prog.info? 22).map (·.size)=some 1:=by kernel_rfl
theorem tc36 (args:Array Value) (w:World):(callFunc 36 args).run Tryz.prog w=.ok (.enter 36 args) w:=by kernel_rfl
theorem Kr:((Tryz.prog.fieldsOf 80)[1]?).map (fun f=>(f.offset,f.type))=some (1,42):=by kernel_rfl
theorem tc54 (args:Array Value) (w:World):(callFunc 54 args).run Tryz.prog w=.ok (.enter 54 args) w:=by kernel_rfl
theorem Kv:(Tryz.prog.info? 24).map (·.size)=some 1:=by kernel_rfl
theorem tc16 (args:Array Value) (w:World):(callFunc 16 args).run Tryz.prog w=.ok (.enter 16 args) w:=by kernel_rfl
theorem te9:ElemT Tryz.prog 9 1 16 (.string ByteArray.empty):=⟨by kernel_rfl,by kernel_rfl,by kernel_rfl,rfl⟩
theorem tz24:(Tryz.prog.info? 24).bind (·.zero)=some (.agg #[.slice Option.none 0 0]):=by kernel_rfl
theorem tc64 (args:Array Value) (w:World):(callFunc 64 args).run Tryz.prog w=.ok (.enter 64 args) w:=by kernel_rfl
theorem tb80_0_1 (x0:ByteArray) (x1:Value) (h1:IsSl x1) (w:World):(Instr.build 80 [(0,.string x0),(1,x1)].toArray).run Tryz.prog w=.ok (.agg #[.string x0,x1]) w:=by obtain ⟨a1,n1,c1,rfl⟩:=h1;kernel_rfl
theorem te80:ElemT Tryz.prog 80 2 40 (.agg #[.string ByteArray.empty,.slice Option.none 0 0]):=⟨by kernel_rfl,by kernel_rfl,by kernel_rfl,rfl⟩
theorem tc63 (args:Array Value) (w:World):(callFunc 63 args).run Tryz.prog w=.ok (.enter 63 args) w:=by kernel_rfl
theorem tc57 (args:Array Value) (w:World):(callFunc 57 args).run Tryz.prog w=.ok (.enter 57 args) w:=by kernel_rfl
theorem tc56 (args:Array Value) (w:World):(callFunc 56 args).run Tryz.prog w=.ok (.enter 56 args) w:=by kernel_rfl
theorem tx221 (p q:ByteArray) (w:World):(callFunc 221 #[.string p,.string q]).run Tryz.prog w=.ok (.value (.int .i64 (cmpB p q))) w:=run_cmpB (fn:=Tryz.f221) Tryz.func221 (by kernel_rfl) (by kernel_rfl) (by kernel_rfl) (by kernel_rfl) p q w
theorem tc174 (args:Array Value) (w:World):(callFunc 174 args).run Tryz.prog w=.ok (.enter 174 args) w:=by kernel_rfl
theorem tc131 (args:Array Value) (w:World):(callFunc 131 args).run Tryz.prog w=.ok (.enter 131 args) w:=by kernel_rfl
theorem tc129 (args:Array Value) (w:World):(callFunc 129 args).run Tryz.prog w=.ok (.enter 129 args) w:=by kernel_rfl
theorem tc130 (args:Array Value) (w:World):(callFunc 130 args).run Tryz.prog w=.ok (.enter 130 args) w:=by kernel_rfl
theorem tu196:Tryz.prog.underlying 196=some (.int .u64):=by kernel_rfl
theorem zr80 (g:Gh):Rep.rep g (({ Path:=ByteArray.empty,Lines:=[] }:File):File) [.string ByteArray.empty,.slice Option.none 0 0]:=Kx (.nil _)
theorem tc72 (args:Array Value) (w:World):(callFunc 72 args).run Tryz.prog w=.ok (.enter 72 args) w:=by kernel_rfl
theorem tb80_0 (x0:ByteArray) (w:World):(Instr.build 80 [(0,.string x0)].toArray).run Tryz.prog w=.ok (.agg #[.string x0,.slice Option.none 0 0]) w:=by kernel_rfl
theorem tc91 (args:Array Value) (w:World):(callFunc 91 args).run Tryz.prog w=.ok (.enter 91 args) w:=by kernel_rfl
theorem tc35 (args:Array Value) (w:World):(callFunc 35 args).run Tryz.prog w=.ok (.enter 35 args) w:=by kernel_rfl
theorem tc105 (args:Array Value) (w:World):(callFunc 105 args).run Tryz.prog w=.ok (.enter 105 args) w:=by kernel_rfl
theorem tc17 (args:Array Value) (w:World):(callFunc 17 args).run Tryz.prog w=.ok (.enter 17 args) w:=by kernel_rfl
theorem Hz:(Tryz.prog.info? 27).map (·.size)=some 1:=by kernel_rfl
theorem tc49 (args:Array Value) (w:World):(callFunc 49 args).run Tryz.prog w=.ok (.enter 49 args) w:=by kernel_rfl
theorem tb24_  (w:World):(Instr.build 24 [].toArray).run Tryz.prog w=.ok (.agg #[.slice Option.none 0 0]) w:=by kernel_rfl
theorem tc50 (args:Array Value) (w:World):(callFunc 50 args).run Tryz.prog w=.ok (.enter 50 args) w:=by kernel_rfl
theorem tc51 (args:Array Value) (w:World):(callFunc 51 args).run Tryz.prog w=.ok (.enter 51 args) w:=by kernel_rfl
theorem tc52 (args:Array Value) (w:World):(callFunc 52 args).run Tryz.prog w=.ok (.enter 52 args) w:=by kernel_rfl
theorem tz3:(Tryz.prog.info? 3).bind (·.zero)=some (.int .i64 0):=by kernel_rfl
theorem tc67 (args:Array Value) (w:World):(callFunc 67 args).run Tryz.prog w=.ok (.enter 67 args) w:=by kernel_rfl
theorem tc120 (args:Array Value) (w:World):(callFunc 120 args).run Tryz.prog w=.ok (.enter 120 args) w:=by kernel_rfl
theorem Qv:ElemT Tryz.prog 51 5 88 (.agg #[.int .i64 0,.string ByteArray.empty,.string ByteArray.empty,.slice Option.none 0 0,.slice Option.none 0 0]):=⟨by kernel_rfl,by kernel_rfl,by kernel_rfl,rfl⟩
theorem Hd:Tryz.prog.underlying 168=some (.slice 3):=by kernel_rfl
theorem te3:ElemT Tryz.prog 3 1 8 (.int .i64 0):=⟨by kernel_rfl,by kernel_rfl,by kernel_rfl,rfl⟩
theorem tz168:(Tryz.prog.info? 168).bind (·.zero)=some (.slice Option.none 0 0):=by kernel_rfl
theorem ts168:(Tryz.prog.info? 168).map (·.size)=some 1:=by kernel_rfl
theorem tc170 (args:Array Value) (w:World):(callFunc 170 args).run Tryz.prog w=.ok (.enter 170 args) w:=by kernel_rfl
theorem L2:Tryz.prog.underlying 167=some (.struct (Tryz.prog.fieldsOf 167)):=by kernel_rfl
theorem tf167_1:((Tryz.prog.fieldsOf 167)[1]?).map (fun f=>(f.offset,f.type))=some (1,3):=by kernel_rfl
theorem tf167_2:((Tryz.prog.fieldsOf 167)[2]?).map (fun f=>(f.offset,f.type))=some (2,4):=by kernel_rfl
theorem tc171 (args:Array Value) (w:World):(callFunc 171 args).run Tryz.prog w=.ok (.enter 171 args) w:=by kernel_rfl
theorem Nh:((Tryz.prog.fieldsOf 167)[0]?).map (fun f=>(f.offset,f.type))=some (0,43):=by kernel_rfl
theorem tb91_0 (x0:Int) (w:World):(Instr.build 91 [(0,.int .i64 x0)].toArray).run Tryz.prog w=.ok (.agg #[.int .i64 x0,.slice Option.none 0 0,.slice Option.none 0 0]) w:=by kernel_rfl
theorem te91:ElemT Tryz.prog 91 3 56 (.agg #[.int .i64 0,.slice Option.none 0 0,.slice Option.none 0 0]):=⟨by kernel_rfl,by kernel_rfl,by kernel_rfl,rfl⟩
theorem Qc:(Tryz.prog.info? 45).bind (·.zero)=some (.agg #[.slice Option.none 0 0]):=by kernel_rfl
theorem tc58 (args:Array Value) (w:World):(callFunc 58 args).run Tryz.prog w=.ok (.enter 58 args) w:=by kernel_rfl
theorem tb45_  (w:World):(Instr.build 45 [].toArray).run Tryz.prog w=.ok (.agg #[.slice Option.none 0 0]) w:=by kernel_rfl
theorem tz167:(Tryz.prog.info? 167).bind (·.zero)=some (.agg #[.slice Option.none 0 0,.int .i64 0,.bool false]):=by kernel_rfl
theorem tc115 (args:Array Value) (w:World):(callFunc 115 args).run Tryz.prog w=.ok (.enter 115 args) w:=by kernel_rfl
theorem tb45_0 (x0:Value) (h0:IsSl x0) (w:World):(Instr.build 45 [(0,x0)].toArray).run Tryz.prog w=.ok (.agg #[x0]) w:=by obtain ⟨a0,n0,c0,rfl⟩:=h0;kernel_rfl
theorem tc111 (args:Array Value) (w:World):(callFunc 111 args).run Tryz.prog w=.ok (.enter 111 args) w:=by kernel_rfl
theorem tc112 (args:Array Value) (w:World):(callFunc 112 args).run Tryz.prog w=.ok (.enter 112 args) w:=by kernel_rfl
theorem tc113 (args:Array Value) (w:World):(callFunc 113 args).run Tryz.prog w=.ok (.enter 113 args) w:=by kernel_rfl
theorem tc114 (args:Array Value) (w:World):(callFunc 114 args).run Tryz.prog w=.ok (.enter 114 args) w:=by kernel_rfl
theorem tc123 (args:Array Value) (w:World):(callFunc 123 args).run Tryz.prog w=.ok (.enter 123 args) w:=by kernel_rfl
theorem tc59 (args:Array Value) (w:World):(callFunc 59 args).run Tryz.prog w=.ok (.enter 59 args) w:=by kernel_rfl
theorem tc15 (args:Array Value) (w:World):(callFunc 15 args).run Tryz.prog w=.ok (.enter 15 args) w:=by kernel_rfl
theorem tc45 (args:Array Value) (w:World):(callFunc 45 args).run Tryz.prog w=.ok (.enter 45 args) w:=by kernel_rfl
theorem tc151 (args:Array Value) (w:World):(callFunc 151 args).run Tryz.prog w=.ok (.enter 151 args) w:=by kernel_rfl
theorem Qf (args:Array Value) (w:World):(callFunc 39 args).run Tryz.prog w=.ok (.enter 39 args) w:=by kernel_rfl
theorem tc152 (args:Array Value) (w:World):(callFunc 152 args).run Tryz.prog w=.ok (.enter 152 args) w:=by kernel_rfl
theorem tc93 (args:Array Value) (w:World):(callFunc 93 args).run Tryz.prog w=.ok (.enter 93 args) w:=by kernel_rfl
theorem tc94 (args:Array Value) (w:World):(callFunc 94 args).run Tryz.prog w=.ok (.enter 94 args) w:=by kernel_rfl
theorem tc173 (args:Array Value) (w:World):(callFunc 173 args).run Tryz.prog w=.ok (.enter 173 args) w:=by kernel_rfl
theorem tc126 (args:Array Value) (w:World):(callFunc 126 args).run Tryz.prog w=.ok (.enter 126 args) w:=by kernel_rfl
theorem tc125 (args:Array Value) (w:World):(callFunc 125 args).run Tryz.prog w=.ok (.enter 125 args) w:=by kernel_rfl
theorem tc75 (args:Array Value) (w:World):(callFunc 75 args).run Tryz.prog w=.ok (.enter 75 args) w:=by kernel_rfl
theorem tc41 (args:Array Value) (w:World):(callFunc 41 args).run Tryz.prog w=.ok (.enter 41 args) w:=by kernel_rfl
theorem tc70 (args:Array Value) (w:World):(callFunc 70 args).run Tryz.prog w=.ok (.enter 70 args) w:=by kernel_rfl
theorem tc37 (args:Array Value) (w:World):(callFunc 37 args).run Tryz.prog w=.ok (.enter 37 args) w:=by kernel_rfl
theorem Oc:Tryz.prog.underlying 189=some (.slice 222):=by kernel_rfl
theorem ts222:(Tryz.prog.info? 222).map (·.size)=some 2:=by kernel_rfl
theorem tu222:Tryz.prog.underlying 222=some (.struct (Tryz.prog.fieldsOf 222)):=by kernel_rfl
theorem tf222_0:((Tryz.prog.fieldsOf 222)[0]?).map (fun f=>(f.offset,f.type))=some (0,3):=by kernel_rfl
theorem tf222_1:((Tryz.prog.fieldsOf 222)[1]?).map (fun f=>(f.offset,f.type))=some (1,9):=by kernel_rfl
theorem tu223:Tryz.prog.underlying 223=some (.slice 168):=by kernel_rfl
theorem te168:ElemT Tryz.prog 168 1 24 (.slice Option.none 0 0):=⟨by kernel_rfl,by kernel_rfl,by kernel_rfl,rfl⟩
theorem tc175 (args:Array Value) (w:World):(callFunc 175 args).run Tryz.prog w=.ok (.enter 175 args) w:=by kernel_rfl
theorem tb222_0_1 (x0:Int) (x1:ByteArray) (w:World):(Instr.build 222 [(0,.int .i64 x0),(1,.string x1)].toArray).run Tryz.prog w=.ok (.agg #[.int .i64 x0,.string x1]) w:=by kernel_rfl
theorem te222:ElemT Tryz.prog 222 2 24 (.agg #[.int .i64 0,.string ByteArray.empty]):=⟨by kernel_rfl,by kernel_rfl,by kernel_rfl,rfl⟩
theorem tc134 (args:Array Value) (w:World):(callFunc 134 args).run Tryz.prog w=.ok (.enter 134 args) w:=by kernel_rfl
theorem tc133 (args:Array Value) (w:World):(callFunc 133 args).run Tryz.prog w=.ok (.enter 133 args) w:=by kernel_rfl
theorem tc76 (args:Array Value) (w:World):(callFunc 76 args).run Tryz.prog w=.ok (.enter 76 args) w:=by kernel_rfl
theorem tc46 (args:Array Value) (w:World):(callFunc 46 args).run Tryz.prog w=.ok (.enter 46 args) w:=by kernel_rfl
theorem tb91_0_1_2 (x0:Int) (x1:Value) (h1:IsSl x1) (x2:Value) (h2:IsSl x2) (w:World):(Instr.build 91 [(0,.int .i64 x0),(1,x1),(2,x2)].toArray).run Tryz.prog w=.ok (.agg #[.int .i64 x0,x1,x2]) w:=by obtain ⟨a1,n1,c1,rfl⟩:=h1;obtain ⟨a2,n2,c2,rfl⟩:=h2;kernel_rfl
theorem tc121 (args:Array Value) (w:World):(callFunc 121 args).run Tryz.prog w=.ok (.enter 121 args) w:=by kernel_rfl
theorem tb51_0_1_4 (x0:Int) (x1:ByteArray) (x4:Value) (h4:IsSl x4) (w:World):(Instr.build 51 [(0,.int .i64 x0),(1,.string x1),(4,.agg #[x4])].toArray).run Tryz.prog w=.ok (.agg #[.int .i64 x0,.string x1,.string ByteArray.empty,.slice Option.none 0 0,x4]) w:=by obtain ⟨a4,n4,c4,rfl⟩:=h4;kernel_rfl
theorem tc68 (args:Array Value) (w:World):(callFunc 68 args).run Tryz.prog w=.ok (.enter 68 args) w:=by kernel_rfl
theorem tb27_0 (x0:Value) (h0:IsSl x0) (w:World):(Instr.build 27 [(0,x0)].toArray).run Tryz.prog w=.ok (.agg #[x0]) w:=by obtain ⟨a0,n0,c0,rfl⟩:=h0;kernel_rfl
theorem tc103 (args:Array Value) (w:World):(callFunc 103 args).run Tryz.prog w=.ok (.enter 103 args) w:=by kernel_rfl
theorem tb51_0_1_2 (x0:Int) (x1:ByteArray) (x2:ByteArray) (w:World):(Instr.build 51 [(0,.int .i64 x0),(1,.string x1),(2,.string x2)].toArray).run Tryz.prog w=.ok (.agg #[.int .i64 x0,.string x1,.string x2,.slice Option.none 0 0,.slice Option.none 0 0]) w:=by kernel_rfl
theorem tc48 (args:Array Value) (w:World):(callFunc 48 args).run Tryz.prog w=.ok (.enter 48 args) w:=by kernel_rfl
theorem tc12 (args:Array Value) (w:World):(callFunc 12 args).run Tryz.prog w=.ok (.enter 12 args) w:=by kernel_rfl
theorem tb27_  (w:World):(Instr.build 27 [].toArray).run Tryz.prog w=.ok (.agg #[.slice Option.none 0 0]) w:=by kernel_rfl
theorem tb24_0 (x0:Value) (h0:IsSl x0) (w:World):(Instr.build 24 [(0,x0)].toArray).run Tryz.prog w=.ok (.agg #[x0]) w:=by obtain ⟨a0,n0,c0,rfl⟩:=h0;kernel_rfl
theorem tz27:(Tryz.prog.info? 27).bind (·.zero)=some (.agg #[.slice Option.none 0 0]):=by kernel_rfl
theorem tc18 (args:Array Value) (w:World):(callFunc 18 args).run Tryz.prog w=.ok (.enter 18 args) w:=by kernel_rfl
theorem tc19 (args:Array Value) (w:World):(callFunc 19 args).run Tryz.prog w=.ok (.enter 19 args) w:=by kernel_rfl
theorem tc124 (args:Array Value) (w:World):(callFunc 124 args).run Tryz.prog w=.ok (.enter 124 args) w:=by kernel_rfl
theorem tc122 (args:Array Value) (w:World):(callFunc 122 args).run Tryz.prog w=.ok (.enter 122 args) w:=by kernel_rfl
theorem tc69 (args:Array Value) (w:World):(callFunc 69 args).run Tryz.prog w=.ok (.enter 69 args) w:=by kernel_rfl
theorem tc128 (args:Array Value) (w:World):(callFunc 128 args).run Tryz.prog w=.ok (.enter 128 args) w:=by kernel_rfl
theorem tc127 (args:Array Value) (w:World):(callFunc 127 args).run Tryz.prog w=.ok (.enter 127 args) w:=by kernel_rfl
theorem tc71 (args:Array Value) (w:World):(callFunc 71 args).run Tryz.prog w=.ok (.enter 71 args) w:=by kernel_rfl
theorem zr51 (g:Gh):Rep.rep g (({ Kind:=0,Path:=ByteArray.empty,To:=ByteArray.empty,Lines:=[],Patch:=({ Hunks:=[] }:Patch) }:TreeChange):TreeChange) [.int .i64 0,.string ByteArray.empty,.string ByteArray.empty,.slice Option.none 0 0,.slice Option.none 0 0]:=D2 (.nil _) (.nil _)
theorem tc132 (args:Array Value) (w:World):(callFunc 132 args).run Tryz.prog w=.ok (.enter 132 args) w:=by kernel_rfl
theorem tu186:Tryz.prog.underlying 186=some (.slice 25):=by kernel_rfl
theorem te25:ElemT Tryz.prog 25 1 24 (.slice Option.none 0 0):=⟨by kernel_rfl,by kernel_rfl,by kernel_rfl,rfl⟩
theorem tc73 (args:Array Value) (w:World):(callFunc 73 args).run Tryz.prog w=.ok (.enter 73 args) w:=by kernel_rfl
theorem Qp (x0:Int) (x1:ByteArray) (x3:Value) (h3:IsSl x3) (w:World):(Instr.build 51 [(0,.int .i64 x0),(1,.string x1),(3,x3)].toArray).run Tryz.prog w=.ok (.agg #[.int .i64 x0,.string x1,.string ByteArray.empty,x3,.slice Option.none 0 0]) w:=by obtain ⟨a3,n3,c3,rfl⟩:=h3;kernel_rfl
theorem tc74 (args:Array Value) (w:World):(callFunc 74 args).run Tryz.prog w=.ok (.enter 74 args) w:=by kernel_rfl
theorem tc22 (args:Array Value) (w:World):(callFunc 22 args).run Tryz.prog w=.ok (.enter 22 args) w:=by kernel_rfl
theorem tc23 (args:Array Value) (w:World):(callFunc 23 args).run Tryz.prog w=.ok (.enter 23 args) w:=by kernel_rfl
theorem tc24 (args:Array Value) (w:World):(callFunc 24 args).run Tryz.prog w=.ok (.enter 24 args) w:=by kernel_rfl
theorem tc25 (args:Array Value) (w:World):(callFunc 25 args).run Tryz.prog w=.ok (.enter 25 args) w:=by kernel_rfl
theorem tc26 (args:Array Value) (w:World):(callFunc 26 args).run Tryz.prog w=.ok (.enter 26 args) w:=by kernel_rfl
theorem tc27 (args:Array Value) (w:World):(callFunc 27 args).run Tryz.prog w=.ok (.enter 27 args) w:=by kernel_rfl
end Go.Dc
