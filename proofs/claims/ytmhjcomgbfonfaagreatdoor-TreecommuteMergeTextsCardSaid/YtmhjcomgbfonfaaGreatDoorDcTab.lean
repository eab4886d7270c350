import Derived.Test.YtmhjcomgbfonfaaGreatDoorDcTy
import Derived.Test.YtmhjcomgbfonfaaGreatDoorDcR
import Derived.Test.YtmhjcomgbfonfaaGreatDoorDcRS
import Derived.Test.YtmhjcomgbfonfaaGreatDoorDcSh
import Derived.Test.YtmhjcomgbfonfaaGreatDoorProg
import Derived.KernelRfl
namespace Go.Dc
open Go Go.Proofs
theorem mo:Tryz.prog.follows .mixedOrders=true:=by kernel_rfl
theorem tx236 (s:ByteArray) (c:Int) (w:World):(callFunc 236 #[.string s,.int .u8 c]).run Tryz.prog w=.ok (.value (.int .i64 (idxB s c))) w:=run_idxB (fn:=Tryz.f236) Tryz.func236 (by kernel_rfl) (by kernel_rfl) (by kernel_rfl) (by kernel_rfl) s c w
theorem tu9:Tryz.prog.underlying 9=some (.string):=by kernel_rfl
theorem tc212 (args:Array Value) (w:World):(callFunc 212 args).run Tryz.prog w=.ok (.enter 212 args) w:=by kernel_rfl
theorem tc235 (args:Array Value) (w:World):(callFunc 235 args).run Tryz.prog w=.ok (.enter 235 args) w:=by kernel_rfl
theorem tz4:(Tryz.prog.info? 4).bind (·.zero)=some (.bool false):=by kernel_rfl
theorem ts4:(Tryz.prog.info? 4).map (·.size)=some 1:=by kernel_rfl
theorem tu4:Tryz.prog.underlying 4=some (.bool):=by kernel_rfl
theorem tc106 (args:Array Value) (w:World):(callFunc 106 args).run Tryz.prog w=.ok (.enter 106 args) w:=by kernel_rfl
theorem tc168 (args:Array Value) (w:World):(callFunc 168 args).run Tryz.prog w=.ok (.enter 168 args) w:=by kernel_rfl
theorem tc209 (args:Array Value) (w:World):(callFunc 209 args).run Tryz.prog w=.ok (.enter 209 args) w:=by kernel_rfl
theorem tc107 (args:Array Value) (w:World):(callFunc 107 args).run Tryz.prog w=.ok (.enter 107 args) w:=by kernel_rfl
theorem tc211 (args:Array Value) (w:World):(callFunc 211 args).run Tryz.prog w=.ok (.enter 211 args) w:=by kernel_rfl
theorem tu3:Tryz.prog.underlying 3=some (.int .i64):=by kernel_rfl
theorem ts9:(Tryz.prog.info? 9).map (·.size)=some 1:=by kernel_rfl
theorem Ez:(Tryz.prog.info? 30).bind (·.zero)=some (.agg #[.int .i64 0,.int .i64 0]):=by kernel_rfl
theorem Cj:Tryz.prog.underlying 42=some (.slice 9):=by kernel_rfl
theorem D7 (x0:Int) (x1:Int) (w:World):(Instr.build 30 [(0,.int .i64 x0),(1,.int .i64 x1)].toArray).run Tryz.prog w=.ok (.agg #[.int .i64 x0,.int .i64 x1]) w:=by kernel_rfl
theorem Bv:(Tryz.prog.info? 30).map (·.size)=some 2:=by kernel_rfl
theorem Cq:Tryz.prog.underlying 30=some (.struct (Tryz.prog.fieldsOf 30)):=by kernel_rfl
theorem Ec  (w:World):(Instr.build 30 [].toArray).run Tryz.prog w=.ok (.agg #[.int .i64 0,.int .i64 0]) w:=by kernel_rfl
theorem tc169 (args:Array Value) (w:World):(callFunc 169 args).run Tryz.prog w=.ok (.enter 169 args) w:=by kernel_rfl
theorem Hc:Tryz.prog.underlying 91=some (.struct (Tryz.prog.fieldsOf 91)):=by kernel_rfl
theorem Ny:((Tryz.prog.fieldsOf 91)[0]?).map (fun f=>(f.offset,f.type))=some (0,3):=by kernel_rfl
theorem ts3:(Tryz.prog.info? 3).map (·.size)=some 1:=by kernel_rfl
theorem On:((Tryz.prog.fieldsOf 91)[1]?).map (fun f=>(f.offset,f.type))=some (1,42):=by kernel_rfl
theorem Et:(Tryz.prog.info? 42).map (·.size)=some 1:=by kernel_rfl
theorem Qb:((Tryz.prog.fieldsOf 91)[2]?).map (fun f=>(f.offset,f.type))=some (2,42):=by kernel_rfl
theorem Kv:(Tryz.prog.info? 91).map (·.size)=some 3:=by kernel_rfl
theorem tc110 (args:Array Value) (w:World):(callFunc 110 args).run Tryz.prog w=.ok (.enter 110 args) w:=by kernel_rfl
theorem tb216_0_1 (x0:Value) (h0:Oo x0) (x1:Value) (h1:Oo x1) (w:World):(Instr.build 216 [(0,x0),(1,x1)].toArray).run Tryz.prog w=.ok (.agg #[x0,x1]) w:=by obtain ⟨a0,n0,c0,rfl⟩:=h0;obtain ⟨a1,n1,c1,rfl⟩:=h1;kernel_rfl
theorem tu216:Tryz.prog.underlying 216=some (.array 2 42):=by kernel_rfl
theorem tc108 (args:Array Value) (w:World):(callFunc 108 args).run Tryz.prog w=.ok (.enter 108 args) w:=by kernel_rfl
theorem Kk:Tryz.prog.stoodInHeld 30=false:=by kernel_rfl
theorem Ki:Tryz.prog.eqGuardType Tryz.prog.depth 30=false:=by kernel_rfl
theorem Kj : (Tryz.prog.fieldsOf 30).toList.map (fun f => (f.name, f.type, f.offset)) = [("Code", 3, 0), ("Index", 3, 1)] := by kernel_rfl
theorem K6:((Tryz.prog.fieldsOf 30)[0]?).map (fun f=>(f.offset,f.type))=some (0,3):=by kernel_rfl
theorem D9:Tryz.prog.underlying 45=some (.struct (Tryz.prog.fieldsOf 45)):=by kernel_rfl
theorem H9:((Tryz.prog.fieldsOf 45)[0]?).map (fun f=>(f.offset,f.type))=some (0,43):=by kernel_rfl
theorem Lq:(Tryz.prog.info? 43).map (·.size)=some 1:=by kernel_rfl
theorem D8:Tryz.prog.underlying 43=some (.slice 91):=by kernel_rfl
theorem tz91:(Tryz.prog.info? 91).bind (·.zero)=some (.agg #[.int .i64 0,.slice Option.none 0 0,.slice Option.none 0 0]):=by kernel_rfl
theorem tc109 (args:Array Value) (w:World):(callFunc 109 args).run Tryz.prog w=.ok (.enter 109 args) w:=by kernel_rfl
theorem tc206 (args:Array Value) (w:World):(callFunc 206 args).run Tryz.prog w=.ok (.enter 206 args) w:=by kernel_rfl
theorem tc150 (args:Array Value) (w:World):(callFunc 150 args).run Tryz.prog w=.ok (.enter 150 args) w:=by kernel_rfl
theorem C4:Tryz.prog.underlying 51=some (.struct (Tryz.prog.fieldsOf 51)):=by kernel_rfl
theorem Mq:((Tryz.prog.fieldsOf 51)[0]?).map (fun f=>(f.offset,f.type))=some (0,3):=by kernel_rfl
theorem Kw:((Tryz.prog.fieldsOf 51)[1]?).map (fun f=>(f.offset,f.type))=some (1,9):=by kernel_rfl
theorem tc53 (args:Array Value) (w:World):(callFunc 53 args).run Tryz.prog w=.ok (.enter 53 args) w:=by kernel_rfl
theorem Ou:((Tryz.prog.fieldsOf 51)[2]?).map (fun f=>(f.offset,f.type))=some (2,9):=by kernel_rfl
theorem tc92 (args:Array Value) (w:World):(callFunc 92 args).run Tryz.prog w=.ok (.enter 92 args) w:=by kernel_rfl
theorem tf51_3:((Tryz.prog.fieldsOf 51)[3]?).map (fun f=>(f.offset,f.type))=some (3,42):=by kernel_rfl
theorem N4:((Tryz.prog.fieldsOf 51)[4]?).map (fun f=>(f.offset,f.type))=some (4,45):=by kernel_rfl
theorem D6:(Tryz.prog.info? 45).map (·.size)=some 1:=by kernel_rfl
theorem tc55 (args:Array Value) (w:World):(callFunc 55 args).run Tryz.prog w=.ok (.enter 55 args) w:=by kernel_rfl
theorem tu27:Tryz.prog.underlying 27=some (.struct (Tryz.prog.fieldsOf 27)):=by kernel_rfl
theorem tf27_0:((Tryz.prog.fieldsOf 27)[0]?).map (fun f=>(f.offset,f.type))=some (0,25):=by kernel_rfl
theorem ts25:(Tryz.prog.info? 25).map (·.size)=some 1:=by kernel_rfl
theorem N8:Tryz.prog.underlying 25=some (.slice 51):=by kernel_rfl
theorem Dq:(Tryz.prog.info? 51).map (·.size)=some 5:=by kernel_rfl
theorem tz51:(Tryz.prog.info? 51).bind (·.zero)=some (.agg #[.int .i64 0,.string ByteArray.empty,.string ByteArray.empty,.slice Option.none 0 0,.slice Option.none 0 0]):=by kernel_rfl
theorem tc104 (args:Array Value) (w:World):(callFunc 104 args).run Tryz.prog w=.ok (.enter 104 args) w:=by kernel_rfl
theorem Dh:Tryz.prog.underlying 22=some (.slice 80):=by kernel_rfl
theorem E6:(Tryz.prog.info? 80).map (·.size)=some 2:=by kernel_rfl
theorem Kr:Tryz.prog.underlying 80=some (.struct (Tryz.prog.fieldsOf 80)):=by kernel_rfl
theorem tz80:(Tryz.prog.info? 80).bind (·.zero)=some (.agg #[.string ByteArray.empty,.slice Option.none 0 0]):=by kernel_rfl
theorem Ls:((Tryz.prog.fieldsOf 80)[0]?).map (fun f=>(f.offset,f.type))=some (0,9):=by kernel_rfl
theorem Dk:Tryz.prog.underlying 24=some (.struct (Tryz.prog.fieldsOf 24)):=by kernel_rfl
theorem Ef:((Tryz.prog.fieldsOf 24)[0]?).map (fun f=>(f.offset,f.type))=some (0,22):=by kernel_rfl
theorem Kg:(Tryz.prog.info? 22).map (·.size)=some 1:=by kernel_rfl
theorem tc36 (args:Array Value) (w:World):(callFunc 36 args).run Tryz.prog w=.ok (.enter 36 args) w:=by kernel_rfl
theorem Qh:((Tryz.prog.fieldsOf 80)[1]?).map (fun f=>(f.offset,f.type))=some (1,42):=by kernel_rfl
theorem tc54 (args:Array Value) (w:World):(callFunc 54 args).run Tryz.prog w=.ok (.enter 54 args) w:=by kernel_rfl
theorem Du:(Tryz.prog.info? 24).map (·.size)=some 1:=by kernel_rfl
theorem tc16 (args:Array Value) (w:World):(callFunc 16 args).run Tryz.prog w=.ok (.enter 16 args) w:=by kernel_rfl
theorem te9:ElemT Tryz.prog 9 1 16 (.string ByteArray.empty):=⟨by kernel_rfl,by kernel_rfl,by kernel_rfl,rfl⟩
theorem M3:(Tryz.prog.info? 24).bind (·.zero)=some (.agg #[.slice Option.none 0 0]):=by kernel_rfl
theorem tc64 (args:Array Value) (w:World):(callFunc 64 args).run Tryz.prog w=.ok (.enter 64 args) w:=by kernel_rfl
theorem tb80_0_1 (x0:ByteArray) (x1:Value) (h1:Oo x1) (w:World):(Instr.build 80 [(0,.string x0),(1,x1)].toArray).run Tryz.prog w=.ok (.agg #[.string x0,x1]) w:=by obtain ⟨a1,n1,c1,rfl⟩:=h1;kernel_rfl
theorem te80:ElemT Tryz.prog 80 2 40 (.agg #[.string ByteArray.empty,.slice Option.none 0 0]):=⟨by kernel_rfl,by kernel_rfl,by kernel_rfl,rfl⟩
theorem tc63 (args:Array Value) (w:World):(callFunc 63 args).run Tryz.prog w=.ok (.enter 63 args) w:=by kernel_rfl
theorem tc57 (args:Array Value) (w:World):(callFunc 57 args).run Tryz.prog w=.ok (.enter 57 args) w:=by kernel_rfl
theorem tc56 (args:Array Value) (w:World):(callFunc 56 args).run Tryz.prog w=.ok (.enter 56 args) w:=by kernel_rfl
theorem tx221 (p q:ByteArray) (w:World):(callFunc 221 #[.string p,.string q]).run Tryz.prog w=.ok (.value (.int .i64 (cmpB p q))) w:=run_cmpB (fn:=Tryz.f221) Tryz.func221 (by kernel_rfl) (by kernel_rfl) (by kernel_rfl) (by kernel_rfl) p q w
theorem tc174 (args:Array Value) (w:World):(callFunc 174 args).run Tryz.prog w=.ok (.enter 174 args) w:=by kernel_rfl
theorem tc131 (args:Array Value) (w:World):(callFunc 131 args).run Tryz.prog w=.ok (.enter 131 args) w:=by kernel_rfl
theorem tc129 (args:Array Value) (w:World):(callFunc 129 args).run Tryz.prog w=.ok (.enter 129 args) w:=by kernel_rfl
theorem tc130 (args:Array Value) (w:World):(callFunc 130 args).run Tryz.prog w=.ok (.enter 130 args) w:=by kernel_rfl
theorem tu196:Tryz.prog.underlying 196=some (.int .u64):=by kernel_rfl
theorem zr80 (g:Gh):Rep.rep g (({ Path:=ByteArray.empty,Lines:=[] }:File):File) [.string ByteArray.empty,.slice Option.none 0 0]:=H4 (.nil _)
theorem tc72 (args:Array Value) (w:World):(callFunc 72 args).run Tryz.prog w=.ok (.enter 72 args) w:=by kernel_rfl
theorem tb80_0 (x0:ByteArray) (w:World):(Instr.build 80 [(0,.string x0)].toArray).run Tryz.prog w=.ok (.agg #[.string x0,.slice Option.none 0 0]) w:=by kernel_rfl
theorem tc91 (args:Array Value) (w:World):(callFunc 91 args).run Tryz.prog w=.ok (.enter 91 args) w:=by kernel_rfl
theorem tc35 (args:Array Value) (w:World):(callFunc 35 args).run Tryz.prog w=.ok (.enter 35 args) w:=by kernel_rfl
theorem tc105 (args:Array Value) (w:World):(callFunc 105 args).run Tryz.prog w=.ok (.enter 105 args) w:=by kernel_rfl
theorem tc17 (args:Array Value) (w:World):(callFunc 17 args).run Tryz.prog w=.ok (.enter 17 args) w:=by kernel_rfl
theorem ts27:(Tryz.prog.info? 27).map (·.size)=some 1:=by kernel_rfl
theorem tc49 (args:Array Value) (w:World):(callFunc 49 args).run Tryz.prog w=.ok (.enter 49 args) w:=by kernel_rfl
theorem tb24_  (w:World):(Instr.build 24 [].toArray).run Tryz.prog w=.ok (.agg #[.slice Option.none 0 0]) w:=by kernel_rfl
theorem tc50 (args:Array Value) (w:World):(callFunc 50 args).run Tryz.prog w=.ok (.enter 50 args) w:=by kernel_rfl
theorem tc51 (args:Array Value) (w:World):(callFunc 51 args).run Tryz.prog w=.ok (.enter 51 args) w:=by kernel_rfl
theorem tc52 (args:Array Value) (w:World):(callFunc 52 args).run Tryz.prog w=.ok (.enter 52 args) w:=by kernel_rfl
theorem tc145 (args:Array Value) (w:World):(callFunc 145 args).run Tryz.prog w=.ok (.enter 145 args) w:=by kernel_rfl
theorem tc144 (args:Array Value) (w:World):(callFunc 144 args).run Tryz.prog w=.ok (.enter 144 args) w:=by kernel_rfl
theorem tc195 (args:Array Value) (w:World):(callFunc 195 args).run Tryz.prog w=.ok (.enter 195 args) w:=by kernel_rfl
theorem tc146 (args:Array Value) (w:World):(callFunc 146 args).run Tryz.prog w=.ok (.enter 146 args) w:=by kernel_rfl
theorem tz3:(Tryz.prog.info? 3).bind (·.zero)=some (.int .i64 0):=by kernel_rfl
theorem tc67 (args:Array Value) (w:World):(callFunc 67 args).run Tryz.prog w=.ok (.enter 67 args) w:=by kernel_rfl
theorem tc120 (args:Array Value) (w:World):(callFunc 120 args).run Tryz.prog w=.ok (.enter 120 args) w:=by kernel_rfl
theorem te51:ElemT Tryz.prog 51 5 88 (.agg #[.int .i64 0,.string ByteArray.empty,.string ByteArray.empty,.slice Option.none 0 0,.slice Option.none 0 0]):=⟨by kernel_rfl,by kernel_rfl,by kernel_rfl,rfl⟩
theorem tc87 (args:Array Value) (w:World):(callFunc 87 args).run Tryz.prog w=.ok (.enter 87 args) w:=by kernel_rfl
theorem tc88 (args:Array Value) (w:World):(callFunc 88 args).run Tryz.prog w=.ok (.enter 88 args) w:=by kernel_rfl
theorem tc89 (args:Array Value) (w:World):(callFunc 89 args).run Tryz.prog w=.ok (.enter 89 args) w:=by kernel_rfl
theorem tu145:Tryz.prog.underlying 145=some (.slice 24):=by kernel_rfl
theorem tz73:(Tryz.prog.info? 73).bind (·.zero)=some (.agg #[.bool false,.slice Option.none 0 0]):=by kernel_rfl
theorem tb73_  (w:World):(Instr.build 73 [].toArray).run Tryz.prog w=.ok (.agg #[.bool false,.slice Option.none 0 0]) w:=by kernel_rfl
theorem Lf:(Tryz.prog.info? 73).map (·.size)=some 2:=by kernel_rfl
theorem H1:Tryz.prog.underlying 73=some (.struct (Tryz.prog.fieldsOf 73)):=by kernel_rfl
theorem tb73_0_1 (x0:Bool) (x1:Value) (h1:Oo x1) (w:World):(Instr.build 73 [(0,.bool x0),(1,x1)].toArray).run Tryz.prog w=.ok (.agg #[.bool x0,x1]) w:=by obtain ⟨a1,n1,c1,rfl⟩:=h1;kernel_rfl
theorem Ng:Tryz.prog.underlying 168=some (.slice 3):=by kernel_rfl
theorem te3:ElemT Tryz.prog 3 1 8 (.int .i64 0):=⟨by kernel_rfl,by kernel_rfl,by kernel_rfl,rfl⟩
theorem tz168:(Tryz.prog.info? 168).bind (·.zero)=some (.slice Option.none 0 0):=by kernel_rfl
theorem ts168:(Tryz.prog.info? 168).map (·.size)=some 1:=by kernel_rfl
theorem tc170 (args:Array Value) (w:World):(callFunc 170 args).run Tryz.prog w=.ok (.enter 170 args) w:=by kernel_rfl
theorem L0:Tryz.prog.underlying 167=some (.struct (Tryz.prog.fieldsOf 167)):=by kernel_rfl
theorem tf167_1:((Tryz.prog.fieldsOf 167)[1]?).map (fun f=>(f.offset,f.type))=some (1,3):=by kernel_rfl
theorem tf167_2:((Tryz.prog.fieldsOf 167)[2]?).map (fun f=>(f.offset,f.type))=some (2,4):=by kernel_rfl
theorem tc171 (args:Array Value) (w:World):(callFunc 171 args).run Tryz.prog w=.ok (.enter 171 args) w:=by kernel_rfl
theorem Nj:((Tryz.prog.fieldsOf 167)[0]?).map (fun f=>(f.offset,f.type))=some (0,43):=by kernel_rfl
theorem tb91_0 (x0:Int) (w:World):(Instr.build 91 [(0,.int .i64 x0)].toArray).run Tryz.prog w=.ok (.agg #[.int .i64 x0,.slice Option.none 0 0,.slice Option.none 0 0]) w:=by kernel_rfl
theorem te91:ElemT Tryz.prog 91 3 56 (.agg #[.int .i64 0,.slice Option.none 0 0,.slice Option.none 0 0]):=⟨by kernel_rfl,by kernel_rfl,by kernel_rfl,rfl⟩
theorem tz45:(Tryz.prog.info? 45).bind (·.zero)=some (.agg #[.slice Option.none 0 0]):=by kernel_rfl
theorem tc58 (args:Array Value) (w:World):(callFunc 58 args).run Tryz.prog w=.ok (.enter 58 args) w:=by kernel_rfl
theorem tb45_  (w:World):(Instr.build 45 [].toArray).run Tryz.prog w=.ok (.agg #[.slice Option.none 0 0]) w:=by kernel_rfl
theorem tz167:(Tryz.prog.info? 167).bind (·.zero)=some (.agg #[.slice Option.none 0 0,.int .i64 0,.bool false]):=by kernel_rfl
theorem tc115 (args:Array Value) (w:World):(callFunc 115 args).run Tryz.prog w=.ok (.enter 115 args) w:=by kernel_rfl
theorem tb45_0 (x0:Value) (h0:Oo x0) (w:World):(Instr.build 45 [(0,x0)].toArray).run Tryz.prog w=.ok (.agg #[x0]) w:=by obtain ⟨a0,n0,c0,rfl⟩:=h0;kernel_rfl
theorem tc111 (args:Array Value) (w:World):(callFunc 111 args).run Tryz.prog w=.ok (.enter 111 args) w:=by kernel_rfl
theorem tc112 (args:Array Value) (w:World):(callFunc 112 args).run Tryz.prog w=.ok (.enter 112 args) w:=by kernel_rfl
theorem tc113 (args:Array Value) (w:World):(callFunc 113 args).run Tryz.prog w=.ok (.enter 113 args) w:=by kernel_rfl
theorem tc114 (args:Array Value) (w:World):(callFunc 114 args).run Tryz.prog w=.ok (.enter 114 args) w:=by kernel_rfl
theorem tc123 (args:Array Value) (w:World):(callFunc 123 args).run Tryz.prog w=.ok (.enter 123 args) w:=by kernel_rfl
theorem tb112_0_1_2 (x0:Int) (x1:Int) (x2:Int) (w:World):(Instr.build 112 [(0,.int .i64 x0),(1,.int .i64 x1),(2,.int .i64 x2)].toArray).run Tryz.prog w=.ok (.agg #[.int .i64 x0,.int .i64 x1,.int .i64 x2]) w:=by kernel_rfl
theorem Nh:Tryz.prog.underlying 109=some (.slice 112):=by kernel_rfl
theorem te112:ElemT Tryz.prog 112 3 24 (.agg #[.int .i64 0,.int .i64 0,.int .i64 0]):=⟨by kernel_rfl,by kernel_rfl,by kernel_rfl,rfl⟩
theorem G4:Tryz.prog.underlying 112=some (.struct (Tryz.prog.fieldsOf 112)):=by kernel_rfl
theorem L7:((Tryz.prog.fieldsOf 112)[0]?).map (fun f=>(f.offset,f.type))=some (0,3):=by kernel_rfl
theorem Lm:((Tryz.prog.fieldsOf 112)[1]?).map (fun f=>(f.offset,f.type))=some (1,3):=by kernel_rfl
theorem tc116 (args:Array Value) (w:World):(callFunc 116 args).run Tryz.prog w=.ok (.enter 116 args) w:=by kernel_rfl
theorem sA112 (w:World):(isAgg 112).run Tryz.prog w=.ok true w:=by kernel_rfl
theorem sZ112 (w:World):(Go.sizeOf 112).run Tryz.prog w=.ok 3 w:=by kernel_rfl
theorem tc118 (args:Array Value) (w:World):(callFunc 118 args).run Tryz.prog w=.ok (.enter 118 args) w:=by kernel_rfl
theorem tc117 (args:Array Value) (w:World):(callFunc 117 args).run Tryz.prog w=.ok (.enter 117 args) w:=by kernel_rfl
theorem N1:(Tryz.prog.info? 112).map (·.size)=some 3:=by kernel_rfl
theorem tz112:(Tryz.prog.info? 112).bind (·.zero)=some (.agg #[.int .i64 0,.int .i64 0,.int .i64 0]):=by kernel_rfl
theorem tc119 (args:Array Value) (w:World):(callFunc 119 args).run Tryz.prog w=.ok (.enter 119 args) w:=by kernel_rfl
theorem tu108:Tryz.prog.underlying 108=some (.struct (Tryz.prog.fieldsOf 108)):=by kernel_rfl
theorem Nr:((Tryz.prog.fieldsOf 108)[0]?).map (fun f=>(f.offset,f.type))=some (0,52):=by kernel_rfl
theorem ts52:(Tryz.prog.info? 52).map (·.size)=some 1:=by kernel_rfl
theorem Nm:Tryz.prog.underlying 52=some (.slice 117):=by kernel_rfl
theorem ts117:(Tryz.prog.info? 117).map (·.size)=some 5:=by kernel_rfl
theorem Mi:Tryz.prog.underlying 117=some (.struct (Tryz.prog.fieldsOf 117)):=by kernel_rfl
theorem tf117_1:((Tryz.prog.fieldsOf 117)[1]?).map (fun f=>(f.offset,f.type))=some (1,42):=by kernel_rfl
theorem tf117_0:((Tryz.prog.fieldsOf 117)[0]?).map (fun f=>(f.offset,f.type))=some (0,4):=by kernel_rfl
theorem tb117_  (w:World):(Instr.build 117 [].toArray).run Tryz.prog w=.ok (.agg #[.bool false,.slice Option.none 0 0,.slice Option.none 0 0,.slice Option.none 0 0,.slice Option.none 0 0]) w:=by kernel_rfl
theorem te117:ElemT Tryz.prog 117 5 104 (.agg #[.bool false,.slice Option.none 0 0,.slice Option.none 0 0,.slice Option.none 0 0,.slice Option.none 0 0]):=⟨by kernel_rfl,by kernel_rfl,by kernel_rfl,rfl⟩
theorem tc59 (args:Array Value) (w:World):(callFunc 59 args).run Tryz.prog w=.ok (.enter 59 args) w:=by kernel_rfl
theorem tz108:(Tryz.prog.info? 108).bind (·.zero)=some (.agg #[.slice Option.none 0 0]):=by kernel_rfl
theorem tc61 (args:Array Value) (w:World):(callFunc 61 args).run Tryz.prog w=.ok (.enter 61 args) w:=by kernel_rfl
theorem tc60 (args:Array Value) (w:World):(callFunc 60 args).run Tryz.prog w=.ok (.enter 60 args) w:=by kernel_rfl
theorem tc62 (args:Array Value) (w:World):(callFunc 62 args).run Tryz.prog w=.ok (.enter 62 args) w:=by kernel_rfl
theorem tb117_0_2_3_4 (x0:Bool) (x2:Value) (h2:Oo x2) (x3:Value) (h3:Oo x3) (x4:Value) (h4:Oo x4) (w:World):(Instr.build 117 [(0,.bool x0),(2,x2),(3,x3),(4,x4)].toArray).run Tryz.prog w=.ok (.agg #[.bool x0,.slice Option.none 0 0,x2,x3,x4]) w:=by obtain ⟨a2,n2,c2,rfl⟩:=h2;obtain ⟨a3,n3,c3,rfl⟩:=h3;obtain ⟨a4,n4,c4,rfl⟩:=h4;kernel_rfl
theorem tz117:(Tryz.prog.info? 117).bind (·.zero)=some (.agg #[.bool false,.slice Option.none 0 0,.slice Option.none 0 0,.slice Option.none 0 0,.slice Option.none 0 0]):=by kernel_rfl
theorem tf117_2:((Tryz.prog.fieldsOf 117)[2]?).map (fun f=>(f.offset,f.type))=some (2,42):=by kernel_rfl
theorem tf117_3:((Tryz.prog.fieldsOf 117)[3]?).map (fun f=>(f.offset,f.type))=some (3,42):=by kernel_rfl
theorem tf117_4:((Tryz.prog.fieldsOf 117)[4]?).map (fun f=>(f.offset,f.type))=some (4,42):=by kernel_rfl
theorem tb179_0_1_2_3 (x0:Value) (h0:Oo x0) (x1:Value) (h1:Oo x1) (x2:Value) (h2:Oo x2) (x3:Value) (h3:Oo x3) (w:World):(Instr.build 179 [(0,x0),(1,x1),(2,x2),(3,x3)].toArray).run Tryz.prog w=.ok (.agg #[x0,x1,x2,x3]) w:=by obtain ⟨a0,n0,c0,rfl⟩:=h0;obtain ⟨a1,n1,c1,rfl⟩:=h1;obtain ⟨a2,n2,c2,rfl⟩:=h2;obtain ⟨a3,n3,c3,rfl⟩:=h3;kernel_rfl
theorem tu179:Tryz.prog.underlying 179=some (.array 4 42):=by kernel_rfl
theorem tc65 (args:Array Value) (w:World):(callFunc 65 args).run Tryz.prog w=.ok (.enter 65 args) w:=by kernel_rfl
theorem tc66 (args:Array Value) (w:World):(callFunc 66 args).run Tryz.prog w=.ok (.enter 66 args) w:=by kernel_rfl
theorem Qc:((Tryz.prog.fieldsOf 73)[0]?).map (fun f=>(f.offset,f.type))=some (0,4):=by kernel_rfl
theorem tf73_1:((Tryz.prog.fieldsOf 73)[1]?).map (fun f=>(f.offset,f.type))=some (1,42):=by kernel_rfl
theorem tc90 (args:Array Value) (w:World):(callFunc 90 args).run Tryz.prog w=.ok (.enter 90 args) w:=by kernel_rfl
theorem tc20 (args:Array Value) (w:World):(callFunc 20 args).run Tryz.prog w=.ok (.enter 20 args) w:=by kernel_rfl
theorem tc21 (args:Array Value) (w:World):(callFunc 21 args).run Tryz.prog w=.ok (.enter 21 args) w:=by kernel_rfl
theorem tc15 (args:Array Value) (w:World):(callFunc 15 args).run Tryz.prog w=.ok (.enter 15 args) w:=by kernel_rfl
theorem tu28:Tryz.prog.underlying 28=some (.slice 40):=by kernel_rfl
theorem te40:ElemT Tryz.prog 40 2 16 (.agg #[.int .i64 0,.int .i64 0]):=⟨by kernel_rfl,by kernel_rfl,by kernel_rfl,rfl⟩
theorem tc30 (args:Array Value) (w:World):(callFunc 30 args).run Tryz.prog w=.ok (.enter 30 args) w:=by kernel_rfl
theorem tz40:(Tryz.prog.info? 40).bind (·.zero)=some (.agg #[.int .i64 0,.int .i64 0]):=by kernel_rfl
theorem tc31 (args:Array Value) (w:World):(callFunc 31 args).run Tryz.prog w=.ok (.enter 31 args) w:=by kernel_rfl
theorem tb40_0_1 (x0:Int) (x1:Int) (w:World):(Instr.build 40 [(0,.int .i64 x0),(1,.int .i64 x1)].toArray).run Tryz.prog w=.ok (.agg #[.int .i64 x0,.int .i64 x1]) w:=by kernel_rfl
theorem ts40:(Tryz.prog.info? 40).map (·.size)=some 2:=by kernel_rfl
theorem tu40:Tryz.prog.underlying 40=some (.array 2 3):=by kernel_rfl
theorem tc33 (args:Array Value) (w:World):(callFunc 33 args).run Tryz.prog w=.ok (.enter 33 args) w:=by kernel_rfl
theorem te24:ElemT Tryz.prog 24 1 24 (.agg #[.slice Option.none 0 0]):=⟨by kernel_rfl,by kernel_rfl,by kernel_rfl,rfl⟩
theorem tc32 (args:Array Value) (w:World):(callFunc 32 args).run Tryz.prog w=.ok (.enter 32 args) w:=by kernel_rfl
theorem tc34 (args:Array Value) (w:World):(callFunc 34 args).run Tryz.prog w=.ok (.enter 34 args) w:=by kernel_rfl
theorem tc46 (args:Array Value) (w:World):(callFunc 46 args).run Tryz.prog w=.ok (.enter 46 args) w:=by kernel_rfl
theorem tqb40:Tryz.prog.eqGuardType Tryz.prog.depth 40=false:=by kernel_rfl
theorem tb91_0_1_2 (x0:Int) (x1:Value) (h1:Oo x1) (x2:Value) (h2:Oo x2) (w:World):(Instr.build 91 [(0,.int .i64 x0),(1,x1),(2,x2)].toArray).run Tryz.prog w=.ok (.agg #[.int .i64 x0,x1,x2]) w:=by obtain ⟨a1,n1,c1,rfl⟩:=h1;obtain ⟨a2,n2,c2,rfl⟩:=h2;kernel_rfl
theorem tc121 (args:Array Value) (w:World):(callFunc 121 args).run Tryz.prog w=.ok (.enter 121 args) w:=by kernel_rfl
theorem tc163 (args:Array Value) (w:World):(callFunc 163 args).run Tryz.prog w=.ok (.enter 163 args) w:=by kernel_rfl
theorem Nw (x0:Int) (x1:ByteArray) (x4:Value) (h4:Oo x4) (w:World):(Instr.build 51 [(0,.int .i64 x0),(1,.string x1),(4,.agg #[x4])].toArray).run Tryz.prog w=.ok (.agg #[.int .i64 x0,.string x1,.string ByteArray.empty,.slice Option.none 0 0,x4]) w:=by obtain ⟨a4,n4,c4,rfl⟩:=h4;kernel_rfl
theorem tc68 (args:Array Value) (w:World):(callFunc 68 args).run Tryz.prog w=.ok (.enter 68 args) w:=by kernel_rfl
theorem tc100 (args:Array Value) (w:World):(callFunc 100 args).run Tryz.prog w=.ok (.enter 100 args) w:=by kernel_rfl
theorem tc101 (args:Array Value) (w:World):(callFunc 101 args).run Tryz.prog w=.ok (.enter 101 args) w:=by kernel_rfl
theorem tc102 (args:Array Value) (w:World):(callFunc 102 args).run Tryz.prog w=.ok (.enter 102 args) w:=by kernel_rfl
theorem tb27_0 (x0:Value) (h0:Oo x0) (w:World):(Instr.build 27 [(0,x0)].toArray).run Tryz.prog w=.ok (.agg #[x0]) w:=by obtain ⟨a0,n0,c0,rfl⟩:=h0;kernel_rfl
theorem tc99 (args:Array Value) (w:World):(callFunc 99 args).run Tryz.prog w=.ok (.enter 99 args) w:=by kernel_rfl
theorem tc103 (args:Array Value) (w:World):(callFunc 103 args).run Tryz.prog w=.ok (.enter 103 args) w:=by kernel_rfl
theorem tb91_0_2 (x0:Int) (x2:Value) (h2:Oo x2) (w:World):(Instr.build 91 [(0,.int .i64 x0),(2,x2)].toArray).run Tryz.prog w=.ok (.agg #[.int .i64 x0,.slice Option.none 0 0,x2]) w:=by obtain ⟨a2,n2,c2,rfl⟩:=h2;kernel_rfl
theorem tb51_0_1_2 (x0:Int) (x1:ByteArray) (x2:ByteArray) (w:World):(Instr.build 51 [(0,.int .i64 x0),(1,.string x1),(2,.string x2)].toArray).run Tryz.prog w=.ok (.agg #[.int .i64 x0,.string x1,.string x2,.slice Option.none 0 0,.slice Option.none 0 0]) w:=by kernel_rfl
theorem tc47 (args:Array Value) (w:World):(callFunc 47 args).run Tryz.prog w=.ok (.enter 47 args) w:=by kernel_rfl
theorem tc48 (args:Array Value) (w:World):(callFunc 48 args).run Tryz.prog w=.ok (.enter 48 args) w:=by kernel_rfl
theorem O8 (args:Array Value) (w:World):(callFunc 10 args).run Tryz.prog w=.ok (.enter 10 args) w:=by kernel_rfl
theorem tc12 (args:Array Value) (w:World):(callFunc 12 args).run Tryz.prog w=.ok (.enter 12 args) w:=by kernel_rfl
theorem tc13 (args:Array Value) (w:World):(callFunc 13 args).run Tryz.prog w=.ok (.enter 13 args) w:=by kernel_rfl
theorem tc14 (args:Array Value) (w:World):(callFunc 14 args).run Tryz.prog w=.ok (.enter 14 args) w:=by kernel_rfl
theorem tb24_0 (x0:Value) (h0:Oo x0) (w:World):(Instr.build 24 [(0,x0)].toArray).run Tryz.prog w=.ok (.agg #[x0]) w:=by obtain ⟨a0,n0,c0,rfl⟩:=h0;kernel_rfl
theorem tz27:(Tryz.prog.info? 27).bind (·.zero)=some (.agg #[.slice Option.none 0 0]):=by kernel_rfl
theorem tc18 (args:Array Value) (w:World):(callFunc 18 args).run Tryz.prog w=.ok (.enter 18 args) w:=by kernel_rfl
theorem tc19 (args:Array Value) (w:World):(callFunc 19 args).run Tryz.prog w=.ok (.enter 19 args) w:=by kernel_rfl
end Go.Dc
