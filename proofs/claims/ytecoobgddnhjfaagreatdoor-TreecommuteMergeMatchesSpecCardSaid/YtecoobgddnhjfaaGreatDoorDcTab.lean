import Derived.Test.YtecoobgddnhjfaaGreatDoorDcTy
import Derived.Test.YtecoobgddnhjfaaGreatDoorDcR
import Derived.Test.YtecoobgddnhjfaaGreatDoorDcRS
import Derived.Test.YtecoobgddnhjfaaGreatDoorDcSh
import Derived.Test.YtecoobgddnhjfaaGreatDoorProg
import Derived.KernelRfl
namespace Go.Dc
open Go Go.Proofs
noncomputable abbrev Un (T:Nat):=Tryz.prog.underlying T
noncomputable abbrev Sz (T:Nat):=(Tryz.prog.info? T).map (·.size)
noncomputable abbrev Zv (T:Nat):=(Tryz.prog.info? T).bind (·.zero)
noncomputable abbrev Ft (T i:Nat):=((Tryz.prog.fieldsOf T)[i]?).map (fun f=>(f.offset,f.type))
def Tc (f:Nat):Prop:=∀ (args:Array Value) (w:World),(callFunc f args).run Tryz.prog w=.ok (.enter f args) w
theorem mo:Tryz.prog.follows .mixedOrders=true:=by kernel_rfl
theorem tu9:Un 9=some (.string):=by kernel_rfl
theorem tc137:Tc 137:=fun _ _=>by kernel_rfl
theorem tc87:Tc 87:=fun _ _=>by kernel_rfl
theorem Cr:Un 22=some (.slice 53):=by kernel_rfl
theorem H1:Sz 53=some 2:=by kernel_rfl
theorem Lm:Un 53=some (.struct (Tryz.prog.fieldsOf 53)):=by kernel_rfl
theorem tz53:Zv 53=some (.agg #[.string ByteArray.empty,.slice Option.none 0 0]):=by kernel_rfl
theorem Mc:Ft 53 0=some (0,9):=by kernel_rfl
theorem ts9:Sz 9=some 1:=by kernel_rfl
theorem tc46:Tc 46:=fun _ _=>by kernel_rfl
theorem tx164 (s:ByteArray) (c:Int) (w:World):(callFunc 164 #[.string s,.int .u8 c]).run Tryz.prog w=.ok (.value (.int .i64 (idxB s c))) w:=run_idxB (fn:=Tryz.f164) Tryz.func164 (by kernel_rfl) (by kernel_rfl) (by kernel_rfl) (by kernel_rfl) s c w
theorem tc148:Tc 148:=fun _ _=>by kernel_rfl
theorem tc163:Tc 163:=fun _ _=>by kernel_rfl
theorem tz4:Zv 4=some (.bool false):=by kernel_rfl
theorem ts4:Sz 4=some 1:=by kernel_rfl
theorem tu4:Un 4=some (.bool):=by kernel_rfl
theorem tc61:Tc 61:=fun _ _=>by kernel_rfl
theorem tc110:Tc 110:=fun _ _=>by kernel_rfl
theorem tc145:Tc 145:=fun _ _=>by kernel_rfl
theorem tc62:Tc 62:=fun _ _=>by kernel_rfl
theorem tc147:Tc 147:=fun _ _=>by kernel_rfl
theorem tu3:Un 3=some (.int .i64):=by kernel_rfl
theorem Lr:Zv 30=some (.agg #[.int .i64 0,.int .i64 0]):=by kernel_rfl
theorem Ct:Un 43=some (.slice 9):=by kernel_rfl
theorem Lg (x0:Int) (x1:Int) (w:World):(Instr.build 30 [(0,.int .i64 x0),(1,.int .i64 x1)].toArray).run Tryz.prog w=.ok (.agg #[.int .i64 x0,.int .i64 x1]) w:=by kernel_rfl
theorem Ci:Sz 30=some 2:=by kernel_rfl
theorem Dn:Un 30=some (.struct (Tryz.prog.fieldsOf 30)):=by kernel_rfl
theorem Kx  (w:World):(Instr.build 30 [].toArray).run Tryz.prog w=.ok (.agg #[.int .i64 0,.int .i64 0]) w:=by kernel_rfl
theorem tc111:Tc 111:=fun _ _=>by kernel_rfl
theorem tc63:Tc 63:=fun _ _=>by kernel_rfl
theorem Qw:Tryz.prog.stoodInHeld 30=false:=by kernel_rfl
theorem Qy:Tryz.prog.eqGuardType Tryz.prog.depth 30=false:=by kernel_rfl
theorem Qz : (Tryz.prog.fieldsOf 30).toList.map (fun f => (f.name, f.type, f.offset)) = [("Code", 3, 0), ("Index", 3, 1)] := by kernel_rfl
theorem Mi:Ft 30 0=some (0,3):=by kernel_rfl
theorem ts3:Sz 3=some 1:=by kernel_rfl
theorem El:Un 24=some (.struct (Tryz.prog.fieldsOf 24)):=by kernel_rfl
theorem E6:Ft 24 0=some (0,22):=by kernel_rfl
theorem K7:Sz 22=some 1:=by kernel_rfl
theorem tc30:Tc 30:=fun _ _=>by kernel_rfl
theorem tc17:Tc 17:=fun _ _=>by kernel_rfl
theorem Tl:Ft 53 1=some (1,43):=by kernel_rfl
theorem Ka:Sz 43=some 1:=by kernel_rfl
theorem tc31:Tc 31:=fun _ _=>by kernel_rfl
theorem Lf:Un 64=some (.struct (Tryz.prog.fieldsOf 64)):=by kernel_rfl
theorem Oq:Ft 64 0=some (0,3):=by kernel_rfl
theorem Ue:Ft 64 1=some (1,43):=by kernel_rfl
theorem Vb:Ft 64 2=some (2,43):=by kernel_rfl
theorem Mo:Sz 64=some 3:=by kernel_rfl
theorem tc135:Tc 135:=fun _ _=>by kernel_rfl
theorem tb208_0_1 (x0:Value) (h0:Yp x0) (x1:Value) (h1:Yp x1) (w:World):(Instr.build 208 [(0,x0),(1,x1)].toArray).run Tryz.prog w=.ok (.agg #[x0,x1]) w:=by obtain ⟨a0,n0,c0,rfl⟩:=h0;obtain ⟨a1,n1,c1,rfl⟩:=h1;kernel_rfl
theorem tu208:Un 208=some (.array 2 43):=by kernel_rfl
theorem Kl:Un 67=some (.struct (Tryz.prog.fieldsOf 67)):=by kernel_rfl
theorem Kg:Ft 67 0=some (0,65):=by kernel_rfl
theorem Mq:Sz 65=some 1:=by kernel_rfl
theorem Gx:Un 65=some (.slice 64):=by kernel_rfl
theorem tz64:Zv 64=some (.agg #[.int .i64 0,.slice Option.none 0 0,.slice Option.none 0 0]):=by kernel_rfl
theorem tc149:Tc 149:=fun _ _=>by kernel_rfl
theorem E8:Un 69=some (.struct (Tryz.prog.fieldsOf 69)):=by kernel_rfl
theorem O7:Ft 69 0=some (0,3):=by kernel_rfl
theorem Oc:Ft 69 1=some (1,9):=by kernel_rfl
theorem U6:Ft 69 2=some (2,9):=by kernel_rfl
theorem Wt:Ft 69 3=some (3,43):=by kernel_rfl
theorem Vc:Ft 69 4=some (4,67):=by kernel_rfl
theorem Lh:Sz 67=some 1:=by kernel_rfl
theorem tc112:Tc 112:=fun _ _=>by kernel_rfl
theorem Tm:Un 27=some (.struct (Tryz.prog.fieldsOf 27)):=by kernel_rfl
theorem Xq:Ft 27 0=some (0,25):=by kernel_rfl
theorem ts25:Sz 25=some 1:=by kernel_rfl
theorem Tu:Un 25=some (.slice 69):=by kernel_rfl
theorem Kd:Sz 69=some 5:=by kernel_rfl
theorem tz69:Zv 69=some (.agg #[.int .i64 0,.string ByteArray.empty,.string ByteArray.empty,.slice Option.none 0 0,.slice Option.none 0 0]):=by kernel_rfl
theorem tc64:Tc 64:=fun _ _=>by kernel_rfl
theorem Gr:Sz 24=some 1:=by kernel_rfl
theorem tc9:Tc 9:=fun _ _=>by kernel_rfl
theorem te9:ElemT Tryz.prog 9 1 16 (.string ByteArray.empty):=⟨by kernel_rfl,by kernel_rfl,by kernel_rfl,rfl⟩
theorem Vw:Zv 24=some (.agg #[.slice Option.none 0 0]):=by kernel_rfl
theorem tc45:Tc 45:=fun _ _=>by kernel_rfl
theorem tb53_0_1 (x0:ByteArray) (x1:Value) (h1:Yp x1) (w:World):(Instr.build 53 [(0,.string x0),(1,x1)].toArray).run Tryz.prog w=.ok (.agg #[.string x0,x1]) w:=by obtain ⟨a1,n1,c1,rfl⟩:=h1;kernel_rfl
theorem N6:ElemT Tryz.prog 53 2 40 (.agg #[.string ByteArray.empty,.slice Option.none 0 0]):=⟨by kernel_rfl,by kernel_rfl,by kernel_rfl,rfl⟩
theorem tx156 (p q:ByteArray) (w:World):(callFunc 156 #[.string p,.string q]).run Tryz.prog w=.ok (.value (.int .i64 (cmpB p q))) w:=run_cmpB (fn:=Tryz.f156) Tryz.func156 (by kernel_rfl) (by kernel_rfl) (by kernel_rfl) (by kernel_rfl) p q w
theorem tc126:Tc 126:=fun _ _=>by kernel_rfl
theorem tc76:Tc 76:=fun _ _=>by kernel_rfl
theorem tc74:Tc 74:=fun _ _=>by kernel_rfl
theorem tc75:Tc 75:=fun _ _=>by kernel_rfl
theorem tu119:Un 119=some (.int .u64):=by kernel_rfl
theorem zr53 (g:Gh):Rep.rep g (({ Path:=ByteArray.empty,Lines:=[] }:File):File) [.string ByteArray.empty,.slice Option.none 0 0]:=Kr (.nil _)
theorem tc40:Tc 40:=fun _ _=>by kernel_rfl
theorem tb53_0 (x0:ByteArray) (w:World):(Instr.build 53 [(0,.string x0)].toArray).run Tryz.prog w=.ok (.agg #[.string x0,.slice Option.none 0 0]) w:=by kernel_rfl
theorem tc44:Tc 44:=fun _ _=>by kernel_rfl
theorem tc65:Tc 65:=fun _ _=>by kernel_rfl
theorem tc82:Tc 82:=fun _ _=>by kernel_rfl
theorem tc113:Tc 113:=fun _ _=>by kernel_rfl
theorem tc16:Tc 16:=fun _ _=>by kernel_rfl
theorem tc66:Tc 66:=fun _ _=>by kernel_rfl
theorem tc67:Tc 67:=fun _ _=>by kernel_rfl
theorem Xs:Sz 27=some 1:=by kernel_rfl
theorem tc32:Tc 32:=fun _ _=>by kernel_rfl
theorem X6  (w:World):(Instr.build 24 [].toArray).run Tryz.prog w=.ok (.agg #[.slice Option.none 0 0]) w:=by kernel_rfl
theorem tc33:Tc 33:=fun _ _=>by kernel_rfl
theorem tc34:Tc 34:=fun _ _=>by kernel_rfl
theorem tc35:Tc 35:=fun _ _=>by kernel_rfl
theorem tc70:Tc 70:=fun _ _=>by kernel_rfl
theorem tc69:Tc 69:=fun _ _=>by kernel_rfl
theorem tc114:Tc 114:=fun _ _=>by kernel_rfl
theorem tc71:Tc 71:=fun _ _=>by kernel_rfl
theorem tz3:Zv 3=some (.int .i64 0):=by kernel_rfl
theorem tc36:Tc 36:=fun _ _=>by kernel_rfl
theorem tc68:Tc 68:=fun _ _=>by kernel_rfl
theorem te69:ElemT Tryz.prog 69 5 88 (.agg #[.int .i64 0,.string ByteArray.empty,.string ByteArray.empty,.slice Option.none 0 0,.slice Option.none 0 0]):=⟨by kernel_rfl,by kernel_rfl,by kernel_rfl,rfl⟩
theorem tc37:Tc 37:=fun _ _=>by kernel_rfl
theorem tc38:Tc 38:=fun _ _=>by kernel_rfl
theorem tc39:Tc 39:=fun _ _=>by kernel_rfl
theorem tu83:Un 83=some (.slice 24):=by kernel_rfl
theorem tz46:Zv 46=some (.agg #[.bool false,.slice Option.none 0 0]):=by kernel_rfl
theorem tb46_  (w:World):(Instr.build 46 [].toArray).run Tryz.prog w=.ok (.agg #[.bool false,.slice Option.none 0 0]) w:=by kernel_rfl
theorem Uv:Sz 46=some 2:=by kernel_rfl
theorem Qu:Un 46=some (.struct (Tryz.prog.fieldsOf 46)):=by kernel_rfl
theorem tb46_0_1 (x0:Bool) (x1:Value) (h1:Yp x1) (w:World):(Instr.build 46 [(0,.bool x0),(1,x1)].toArray).run Tryz.prog w=.ok (.agg #[.bool x0,x1]) w:=by obtain ⟨a1,n1,c1,rfl⟩:=h1;kernel_rfl
theorem Zd:Ft 46 0=some (0,4):=by kernel_rfl
theorem tf46_1:Ft 46 1=some (1,43):=by kernel_rfl
theorem Mm:Un 143=some (.slice 3):=by kernel_rfl
theorem te3:ElemT Tryz.prog 3 1 8 (.int .i64 0):=⟨by kernel_rfl,by kernel_rfl,by kernel_rfl,rfl⟩
theorem tz143:Zv 143=some (.slice Option.none 0 0):=by kernel_rfl
theorem ts143:Sz 143=some 1:=by kernel_rfl
theorem tc157:Tc 157:=fun _ _=>by kernel_rfl
theorem Vd:Un 172=some (.struct (Tryz.prog.fieldsOf 172)):=by kernel_rfl
theorem tf172_1:Ft 172 1=some (1,3):=by kernel_rfl
theorem tf172_2:Ft 172 2=some (2,4):=by kernel_rfl
theorem tc158:Tc 158:=fun _ _=>by kernel_rfl
theorem W1:Ft 172 0=some (0,65):=by kernel_rfl
theorem tb64_0 (x0:Int) (w:World):(Instr.build 64 [(0,.int .i64 x0)].toArray).run Tryz.prog w=.ok (.agg #[.int .i64 x0,.slice Option.none 0 0,.slice Option.none 0 0]) w:=by kernel_rfl
theorem te64:ElemT Tryz.prog 64 3 56 (.agg #[.int .i64 0,.slice Option.none 0 0,.slice Option.none 0 0]):=⟨by kernel_rfl,by kernel_rfl,by kernel_rfl,rfl⟩
theorem tz67:Zv 67=some (.agg #[.slice Option.none 0 0]):=by kernel_rfl
theorem tc77:Tc 77:=fun _ _=>by kernel_rfl
theorem tb67_  (w:World):(Instr.build 67 [].toArray).run Tryz.prog w=.ok (.agg #[.slice Option.none 0 0]) w:=by kernel_rfl
theorem tz172:Zv 172=some (.agg #[.slice Option.none 0 0,.int .i64 0,.bool false]):=by kernel_rfl
theorem tc131:Tc 131:=fun _ _=>by kernel_rfl
theorem tb67_0 (x0:Value) (h0:Yp x0) (w:World):(Instr.build 67 [(0,x0)].toArray).run Tryz.prog w=.ok (.agg #[x0]) w:=by obtain ⟨a0,n0,c0,rfl⟩:=h0;kernel_rfl
theorem tc127:Tc 127:=fun _ _=>by kernel_rfl
theorem tc128:Tc 128:=fun _ _=>by kernel_rfl
theorem tc129:Tc 129:=fun _ _=>by kernel_rfl
theorem tc130:Tc 130:=fun _ _=>by kernel_rfl
theorem tc144:Tc 144:=fun _ _=>by kernel_rfl
theorem tb131_0_1_2 (x0:Int) (x1:Int) (x2:Int) (w:World):(Instr.build 131 [(0,.int .i64 x0),(1,.int .i64 x1),(2,.int .i64 x2)].toArray).run Tryz.prog w=.ok (.agg #[.int .i64 x0,.int .i64 x1,.int .i64 x2]) w:=by kernel_rfl
theorem Wv:Un 128=some (.slice 131):=by kernel_rfl
theorem te131:ElemT Tryz.prog 131 3 24 (.agg #[.int .i64 0,.int .i64 0,.int .i64 0]):=⟨by kernel_rfl,by kernel_rfl,by kernel_rfl,rfl⟩
theorem Of:Un 131=some (.struct (Tryz.prog.fieldsOf 131)):=by kernel_rfl
theorem Vq:Ft 131 0=some (0,3):=by kernel_rfl
theorem U3:Ft 131 1=some (1,3):=by kernel_rfl
theorem tc107:Tc 107:=fun _ _=>by kernel_rfl
theorem sA131 (w:World):(isAgg 131).run Tryz.prog w=.ok true w:=by kernel_rfl
theorem sZ131 (w:World):(Go.sizeOf 131).run Tryz.prog w=.ok 3 w:=by kernel_rfl
theorem tc133:Tc 133:=fun _ _=>by kernel_rfl
theorem tc132:Tc 132:=fun _ _=>by kernel_rfl
theorem Xu:Sz 131=some 3:=by kernel_rfl
theorem tz131:Zv 131=some (.agg #[.int .i64 0,.int .i64 0,.int .i64 0]):=by kernel_rfl
theorem tc134:Tc 134:=fun _ _=>by kernel_rfl
theorem tu127:Un 127=some (.struct (Tryz.prog.fieldsOf 127)):=by kernel_rfl
theorem W5:Ft 127 0=some (0,89):=by kernel_rfl
theorem ts89:Sz 89=some 1:=by kernel_rfl
theorem O1:Un 89=some (.slice 135):=by kernel_rfl
theorem We:Sz 135=some 5:=by kernel_rfl
theorem Nm:Un 135=some (.struct (Tryz.prog.fieldsOf 135)):=by kernel_rfl
theorem W2:Ft 135 1=some (1,43):=by kernel_rfl
theorem Ya:Ft 135 0=some (0,4):=by kernel_rfl
theorem tb135_  (w:World):(Instr.build 135 [].toArray).run Tryz.prog w=.ok (.agg #[.bool false,.slice Option.none 0 0,.slice Option.none 0 0,.slice Option.none 0 0,.slice Option.none 0 0]) w:=by kernel_rfl
theorem te135:ElemT Tryz.prog 135 5 104 (.agg #[.bool false,.slice Option.none 0 0,.slice Option.none 0 0,.slice Option.none 0 0,.slice Option.none 0 0]):=⟨by kernel_rfl,by kernel_rfl,by kernel_rfl,rfl⟩
theorem tc78:Tc 78:=fun _ _=>by kernel_rfl
theorem tz127:Zv 127=some (.agg #[.slice Option.none 0 0]):=by kernel_rfl
theorem tc80:Tc 80:=fun _ _=>by kernel_rfl
theorem tc79:Tc 79:=fun _ _=>by kernel_rfl
theorem tc81:Tc 81:=fun _ _=>by kernel_rfl
theorem tb135_0_2_3_4 (x0:Bool) (x2:Value) (h2:Yp x2) (x3:Value) (h3:Yp x3) (x4:Value) (h4:Yp x4) (w:World):(Instr.build 135 [(0,.bool x0),(2,x2),(3,x3),(4,x4)].toArray).run Tryz.prog w=.ok (.agg #[.bool x0,.slice Option.none 0 0,x2,x3,x4]) w:=by obtain ⟨a2,n2,c2,rfl⟩:=h2;obtain ⟨a3,n3,c3,rfl⟩:=h3;obtain ⟨a4,n4,c4,rfl⟩:=h4;kernel_rfl
theorem tz135:Zv 135=some (.agg #[.bool false,.slice Option.none 0 0,.slice Option.none 0 0,.slice Option.none 0 0,.slice Option.none 0 0]):=by kernel_rfl
theorem tf135_2:Ft 135 2=some (2,43):=by kernel_rfl
theorem tf135_3:Ft 135 3=some (3,43):=by kernel_rfl
theorem tf135_4:Ft 135 4=some (4,43):=by kernel_rfl
theorem tb183_0_1_2_3 (x0:Value) (h0:Yp x0) (x1:Value) (h1:Yp x1) (x2:Value) (h2:Yp x2) (x3:Value) (h3:Yp x3) (w:World):(Instr.build 183 [(0,x0),(1,x1),(2,x2),(3,x3)].toArray).run Tryz.prog w=.ok (.agg #[x0,x1,x2,x3]) w:=by obtain ⟨a0,n0,c0,rfl⟩:=h0;obtain ⟨a1,n1,c1,rfl⟩:=h1;obtain ⟨a2,n2,c2,rfl⟩:=h2;obtain ⟨a3,n3,c3,rfl⟩:=h3;kernel_rfl
theorem tu183:Un 183=some (.array 4 43):=by kernel_rfl
theorem tc83:Tc 83:=fun _ _=>by kernel_rfl
theorem tc84:Tc 84:=fun _ _=>by kernel_rfl
theorem tc41:Tc 41:=fun _ _=>by kernel_rfl
theorem tc42:Tc 42:=fun _ _=>by kernel_rfl
theorem tc43:Tc 43:=fun _ _=>by kernel_rfl
theorem tc10:Tc 10:=fun _ _=>by kernel_rfl
theorem Zf:Un 28=some (.slice 40):=by kernel_rfl
theorem te40:ElemT Tryz.prog 40 2 16 (.agg #[.int .i64 0,.int .i64 0]):=⟨by kernel_rfl,by kernel_rfl,by kernel_rfl,rfl⟩
theorem tc11:Tc 11:=fun _ _=>by kernel_rfl
theorem tz40:Zv 40=some (.agg #[.int .i64 0,.int .i64 0]):=by kernel_rfl
theorem tc12:Tc 12:=fun _ _=>by kernel_rfl
theorem tb40_0_1 (x0:Int) (x1:Int) (w:World):(Instr.build 40 [(0,.int .i64 x0),(1,.int .i64 x1)].toArray).run Tryz.prog w=.ok (.agg #[.int .i64 x0,.int .i64 x1]) w:=by kernel_rfl
theorem ts40:Sz 40=some 2:=by kernel_rfl
theorem tu40:Un 40=some (.array 2 3):=by kernel_rfl
theorem tc14:Tc 14:=fun _ _=>by kernel_rfl
theorem te24:ElemT Tryz.prog 24 1 24 (.agg #[.slice Option.none 0 0]):=⟨by kernel_rfl,by kernel_rfl,by kernel_rfl,rfl⟩
theorem tc13:Tc 13:=fun _ _=>by kernel_rfl
theorem tc15:Tc 15:=fun _ _=>by kernel_rfl
theorem tc26:Tc 26:=fun _ _=>by kernel_rfl
theorem tc88:Tc 88:=fun _ _=>by kernel_rfl
theorem U9:Tc 20:=fun _ _=>by kernel_rfl
theorem tc89:Tc 89:=fun _ _=>by kernel_rfl
theorem tc47:Tc 47:=fun _ _=>by kernel_rfl
theorem tc48:Tc 48:=fun _ _=>by kernel_rfl
theorem tc140:Tc 140:=fun _ _=>by kernel_rfl
theorem tc138:Tc 138:=fun _ _=>by kernel_rfl
theorem tc90:Tc 90:=fun _ _=>by kernel_rfl
theorem tc21:Tc 21:=fun _ _=>by kernel_rfl
theorem tc51:Tc 51:=fun _ _=>by kernel_rfl
theorem tc139:Tc 139:=fun _ _=>by kernel_rfl
theorem tc91:Tc 91:=fun _ _=>by kernel_rfl
theorem tc22:Tc 22:=fun _ _=>by kernel_rfl
theorem tc92:Tc 92:=fun _ _=>by kernel_rfl
theorem tc93:Tc 93:=fun _ _=>by kernel_rfl
theorem tc49:Tc 49:=fun _ _=>by kernel_rfl
theorem tc18:Tc 18:=fun _ _=>by kernel_rfl
theorem tc50:Tc 50:=fun _ _=>by kernel_rfl
theorem X9:Un 186=some (.slice 205):=by kernel_rfl
theorem ts205:Sz 205=some 2:=by kernel_rfl
theorem tu205:Un 205=some (.struct (Tryz.prog.fieldsOf 205)):=by kernel_rfl
theorem tf205_0:Ft 205 0=some (0,3):=by kernel_rfl
theorem tf205_1:Ft 205 1=some (1,9):=by kernel_rfl
theorem tu206:Un 206=some (.slice 143):=by kernel_rfl
theorem te143:ElemT Tryz.prog 143 1 24 (.slice Option.none 0 0):=⟨by kernel_rfl,by kernel_rfl,by kernel_rfl,rfl⟩
theorem tc161:Tc 161:=fun _ _=>by kernel_rfl
theorem tb205_0_1 (x0:Int) (x1:ByteArray) (w:World):(Instr.build 205 [(0,.int .i64 x0),(1,.string x1)].toArray).run Tryz.prog w=.ok (.agg #[.int .i64 x0,.string x1]) w:=by kernel_rfl
theorem te205:ElemT Tryz.prog 205 2 24 (.agg #[.int .i64 0,.string ByteArray.empty]):=⟨by kernel_rfl,by kernel_rfl,by kernel_rfl,rfl⟩
theorem tc142:Tc 142:=fun _ _=>by kernel_rfl
theorem tc141:Tc 141:=fun _ _=>by kernel_rfl
theorem tc94:Tc 94:=fun _ _=>by kernel_rfl
theorem tc95:Tc 95:=fun _ _=>by kernel_rfl
theorem tc96:Tc 96:=fun _ _=>by kernel_rfl
theorem tb135_1 (x1:Value) (h1:Yp x1) (w:World):(Instr.build 135 [(1,x1)].toArray).run Tryz.prog w=.ok (.agg #[.bool false,x1,.slice Option.none 0 0,.slice Option.none 0 0,.slice Option.none 0 0]) w:=by obtain ⟨a1,n1,c1,rfl⟩:=h1;kernel_rfl
theorem tc98:Tc 98:=fun _ _=>by kernel_rfl
theorem tc97:Tc 97:=fun _ _=>by kernel_rfl
theorem tc99:Tc 99:=fun _ _=>by kernel_rfl
theorem tc100:Tc 100:=fun _ _=>by kernel_rfl
theorem tc101:Tc 101:=fun _ _=>by kernel_rfl
theorem tc52:Tc 52:=fun _ _=>by kernel_rfl
theorem tc53:Tc 53:=fun _ _=>by kernel_rfl
theorem tc54:Tc 54:=fun _ _=>by kernel_rfl
theorem tc19:Tc 19:=fun _ _=>by kernel_rfl
theorem tc25:Tc 25:=fun _ _=>by kernel_rfl
theorem tc23:Tc 23:=fun _ _=>by kernel_rfl
theorem tc24:Tc 24:=fun _ _=>by kernel_rfl
theorem tc27:Tc 27:=fun _ _=>by kernel_rfl
theorem tqb40:Tryz.prog.eqGuardType Tryz.prog.depth 40=false:=by kernel_rfl
theorem tb64_0_1_2 (x0:Int) (x1:Value) (h1:Yp x1) (x2:Value) (h2:Yp x2) (w:World):(Instr.build 64 [(0,.int .i64 x0),(1,x1),(2,x2)].toArray).run Tryz.prog w=.ok (.agg #[.int .i64 x0,x1,x2]) w:=by obtain ⟨a1,n1,c1,rfl⟩:=h1;obtain ⟨a2,n2,c2,rfl⟩:=h2;kernel_rfl
theorem tc102:Tc 102:=fun _ _=>by kernel_rfl
theorem tc103:Tc 103:=fun _ _=>by kernel_rfl
theorem tb69_0_1_4 (x0:Int) (x1:ByteArray) (x4:Value) (h4:Yp x4) (w:World):(Instr.build 69 [(0,.int .i64 x0),(1,.string x1),(4,.agg #[x4])].toArray).run Tryz.prog w=.ok (.agg #[.int .i64 x0,.string x1,.string ByteArray.empty,.slice Option.none 0 0,x4]) w:=by obtain ⟨a4,n4,c4,rfl⟩:=h4;kernel_rfl
theorem tc56:Tc 56:=fun _ _=>by kernel_rfl
theorem tc57:Tc 57:=fun _ _=>by kernel_rfl
theorem tc58:Tc 58:=fun _ _=>by kernel_rfl
theorem tc59:Tc 59:=fun _ _=>by kernel_rfl
theorem tb27_0 (x0:Value) (h0:Yp x0) (w:World):(Instr.build 27 [(0,x0)].toArray).run Tryz.prog w=.ok (.agg #[x0]) w:=by obtain ⟨a0,n0,c0,rfl⟩:=h0;kernel_rfl
theorem tc55:Tc 55:=fun _ _=>by kernel_rfl
theorem tc60:Tc 60:=fun _ _=>by kernel_rfl
theorem tb64_0_2 (x0:Int) (x2:Value) (h2:Yp x2) (w:World):(Instr.build 64 [(0,.int .i64 x0),(2,x2)].toArray).run Tryz.prog w=.ok (.agg #[.int .i64 x0,.slice Option.none 0 0,x2]) w:=by obtain ⟨a2,n2,c2,rfl⟩:=h2;kernel_rfl
theorem tb69_0_1_2 (x0:Int) (x1:ByteArray) (x2:ByteArray) (w:World):(Instr.build 69 [(0,.int .i64 x0),(1,.string x1),(2,.string x2)].toArray).run Tryz.prog w=.ok (.agg #[.int .i64 x0,.string x1,.string x2,.slice Option.none 0 0,.slice Option.none 0 0]) w:=by kernel_rfl
theorem tc28:Tc 28:=fun _ _=>by kernel_rfl
theorem tc29:Tc 29:=fun _ _=>by kernel_rfl
theorem tc4:Tc 4:=fun _ _=>by kernel_rfl
theorem tc5:Tc 5:=fun _ _=>by kernel_rfl
theorem tc6:Tc 6:=fun _ _=>by kernel_rfl
theorem tc7:Tc 7:=fun _ _=>by kernel_rfl
theorem tc8:Tc 8:=fun _ _=>by kernel_rfl
end Go.Dc
