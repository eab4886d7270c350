/- Closed facts of the translation. -/
import Derived.Test.YthpkobkngplbbaaGreatDoorDcTy
import Derived.Test.YthpkobkngplbbaaGreatDoorDcR
import Derived.Test.YthpkobkngplbbaaGreatDoorDcSh
import Derived.Test.YthpkobkngplbbaaGreatDoorProg
import Derived.KernelRfl
namespace Go.Dc
open Go Go.Proofs
theorem mo : Tryz.prog.follows .mixedOrders = true := by kernel_rfl
theorem tx145 (s : ByteArray) (c : Int) (w : World) : (callFunc 145 #[.string s, .int .u8 c]).run Tryz.prog w = .ok (.value (.int .i64 (idxB s c))) w := run_idxB (fn := Tryz.f145) Tryz.func145 (by kernel_rfl) (by kernel_rfl) (by kernel_rfl) (by kernel_rfl) s c w
theorem tc126 (args : Array Value) (w : World) : (callFunc 126 args).run Tryz.prog w = .ok (.enter 126 args) w := by kernel_rfl
theorem tz32 : (Tryz.prog.info? 32).bind (·.zero) = some (.agg #[.int .i64 0, .int .i64 0]) := by kernel_rfl
theorem tu28 : Tryz.prog.underlying 28 = some (.slice 9) := by kernel_rfl
theorem tb32_0_1 (x0 : Int) (x1 : Int) (w : World) : (Instr.build 32 [(0, .int .i64 x0), (1, .int .i64 x1)].toArray).run Tryz.prog w = .ok (.agg #[.int .i64 x0, .int .i64 x1]) w := by kernel_rfl
theorem ts32 : (Tryz.prog.info? 32).map (·.size) = some 2 := by kernel_rfl
theorem tu32 : Tryz.prog.underlying 32 = some (.struct (Tryz.prog.fieldsOf 32)) := by kernel_rfl
theorem tb32_  (w : World) : (Instr.build 32 [].toArray).run Tryz.prog w = .ok (.agg #[.int .i64 0, .int .i64 0]) w := by kernel_rfl
theorem ts9 : (Tryz.prog.info? 9).map (·.size) = some 1 := by kernel_rfl
theorem tu9 : Tryz.prog.underlying 9 = some (.string) := by kernel_rfl
theorem tc84 (args : Array Value) (w : World) : (callFunc 84 args).run Tryz.prog w = .ok (.enter 84 args) w := by kernel_rfl
theorem tu65 : Tryz.prog.underlying 65 = some (.struct (Tryz.prog.fieldsOf 65)) := by kernel_rfl
theorem tf65_0 : ((Tryz.prog.fieldsOf 65)[0]?).map (fun f => (f.offset, f.type)) = some (0, 3) := by kernel_rfl
theorem ts3 : (Tryz.prog.info? 3).map (·.size) = some 1 := by kernel_rfl
theorem tu3 : Tryz.prog.underlying 3 = some (.int .i64) := by kernel_rfl
theorem tf65_1 : ((Tryz.prog.fieldsOf 65)[1]?).map (fun f => (f.offset, f.type)) = some (1, 28) := by kernel_rfl
theorem ts28 : (Tryz.prog.info? 28).map (·.size) = some 1 := by kernel_rfl
theorem tf65_2 : ((Tryz.prog.fieldsOf 65)[2]?).map (fun f => (f.offset, f.type)) = some (2, 28) := by kernel_rfl
theorem ts65 : (Tryz.prog.info? 65).map (·.size) = some 3 := by kernel_rfl
theorem tc99 (args : Array Value) (w : World) : (callFunc 99 args).run Tryz.prog w = .ok (.enter 99 args) w := by kernel_rfl
theorem tb180_0_1 (x0 : Value) (h0 : IsSl x0) (x1 : Value) (h1 : IsSl x1) (w : World) : (Instr.build 180 [(0, x0), (1, x1)].toArray).run Tryz.prog w = .ok (.agg #[x0, x1]) w := by obtain ⟨a0, n0, c0, rfl⟩ := h0; obtain ⟨a1, n1, c1, rfl⟩ := h1; kernel_rfl
theorem tu180 : Tryz.prog.underlying 180 = some (.array 2 28) := by kernel_rfl
theorem tc42 (args : Array Value) (w : World) : (callFunc 42 args).run Tryz.prog w = .ok (.enter 42 args) w := by kernel_rfl
theorem tqa32 : Tryz.prog.stoodInHeld 32 = false := by kernel_rfl
theorem tqb32 : Tryz.prog.eqGuardType Tryz.prog.depth 32 = false := by kernel_rfl
theorem tqc32 : (Tryz.prog.fieldsOf 32).toList.map (fun f => (f.name, f.type, f.offset)) = [("Code", 3, 0), ("Index", 3, 1)] := by kernel_rfl
theorem tf32_0 : ((Tryz.prog.fieldsOf 32)[0]?).map (fun f => (f.offset, f.type)) = some (0, 3) := by kernel_rfl
theorem tu27 : Tryz.prog.underlying 27 = some (.struct (Tryz.prog.fieldsOf 27)) := by kernel_rfl
theorem tf27_0 : ((Tryz.prog.fieldsOf 27)[0]?).map (fun f => (f.offset, f.type)) = some (0, 25) := by kernel_rfl
theorem ts25 : (Tryz.prog.info? 25).map (·.size) = some 1 := by kernel_rfl
theorem tu25 : Tryz.prog.underlying 25 = some (.slice 65) := by kernel_rfl
theorem tz65 : (Tryz.prog.info? 65).bind (·.zero) = some (.agg #[.int .i64 0, .slice Option.none 0 0, .slice Option.none 0 0]) := by kernel_rfl
theorem tc98 (args : Array Value) (w : World) : (callFunc 98 args).run Tryz.prog w = .ok (.enter 98 args) w := by kernel_rfl
theorem tc157 (args : Array Value) (w : World) : (callFunc 157 args).run Tryz.prog w = .ok (.enter 157 args) w := by kernel_rfl
theorem tz4 : (Tryz.prog.info? 4).bind (·.zero) = some (.bool false) := by kernel_rfl
theorem ts4 : (Tryz.prog.info? 4).map (·.size) = some 1 := by kernel_rfl
theorem tu4 : Tryz.prog.underlying 4 = some (.bool) := by kernel_rfl
theorem tc100 (args : Array Value) (w : World) : (callFunc 100 args).run Tryz.prog w = .ok (.enter 100 args) w := by kernel_rfl
theorem tc136 (args : Array Value) (w : World) : (callFunc 136 args).run Tryz.prog w = .ok (.enter 136 args) w := by kernel_rfl
theorem tc150 (args : Array Value) (w : World) : (callFunc 150 args).run Tryz.prog w = .ok (.enter 150 args) w := by kernel_rfl
theorem tc101 (args : Array Value) (w : World) : (callFunc 101 args).run Tryz.prog w = .ok (.enter 101 args) w := by kernel_rfl
theorem tc152 (args : Array Value) (w : World) : (callFunc 152 args).run Tryz.prog w = .ok (.enter 152 args) w := by kernel_rfl
theorem tc147 (args : Array Value) (w : World) : (callFunc 147 args).run Tryz.prog w = .ok (.enter 147 args) w := by kernel_rfl
theorem tc132 (args : Array Value) (w : World) : (callFunc 132 args).run Tryz.prog w = .ok (.enter 132 args) w := by kernel_rfl
theorem tu30 : Tryz.prog.underlying 30 = some (.struct (Tryz.prog.fieldsOf 30)) := by kernel_rfl
theorem tf30_0 : ((Tryz.prog.fieldsOf 30)[0]?).map (fun f => (f.offset, f.type)) = some (0, 3) := by kernel_rfl
theorem tf30_1 : ((Tryz.prog.fieldsOf 30)[1]?).map (fun f => (f.offset, f.type)) = some (1, 9) := by kernel_rfl
theorem tc64 (args : Array Value) (w : World) : (callFunc 64 args).run Tryz.prog w = .ok (.enter 64 args) w := by kernel_rfl
theorem tf30_2 : ((Tryz.prog.fieldsOf 30)[2]?).map (fun f => (f.offset, f.type)) = some (2, 9) := by kernel_rfl
theorem tc93 (args : Array Value) (w : World) : (callFunc 93 args).run Tryz.prog w = .ok (.enter 93 args) w := by kernel_rfl
theorem tf30_3 : ((Tryz.prog.fieldsOf 30)[3]?).map (fun f => (f.offset, f.type)) = some (3, 28) := by kernel_rfl
theorem tf30_4 : ((Tryz.prog.fieldsOf 30)[4]?).map (fun f => (f.offset, f.type)) = some (4, 27) := by kernel_rfl
theorem ts27 : (Tryz.prog.info? 27).map (·.size) = some 1 := by kernel_rfl
theorem tc60 (args : Array Value) (w : World) : (callFunc 60 args).run Tryz.prog w = .ok (.enter 60 args) w := by kernel_rfl
theorem tu37 : Tryz.prog.underlying 37 = some (.struct (Tryz.prog.fieldsOf 37)) := by kernel_rfl
theorem tf37_0 : ((Tryz.prog.fieldsOf 37)[0]?).map (fun f => (f.offset, f.type)) = some (0, 35) := by kernel_rfl
theorem ts35 : (Tryz.prog.info? 35).map (·.size) = some 1 := by kernel_rfl
theorem tu35 : Tryz.prog.underlying 35 = some (.slice 30) := by kernel_rfl
theorem ts30 : (Tryz.prog.info? 30).map (·.size) = some 5 := by kernel_rfl
theorem tz30 : (Tryz.prog.info? 30).bind (·.zero) = some (.agg #[.int .i64 0, .string ByteArray.empty, .string ByteArray.empty, .slice Option.none 0 0, .slice Option.none 0 0]) := by kernel_rfl
theorem tc53 (args : Array Value) (w : World) : (callFunc 53 args).run Tryz.prog w = .ok (.enter 53 args) w := by kernel_rfl
theorem tu22 : Tryz.prog.underlying 22 = some (.slice 70) := by kernel_rfl
theorem ts70 : (Tryz.prog.info? 70).map (·.size) = some 2 := by kernel_rfl
theorem tu70 : Tryz.prog.underlying 70 = some (.struct (Tryz.prog.fieldsOf 70)) := by kernel_rfl
theorem tz70 : (Tryz.prog.info? 70).bind (·.zero) = some (.agg #[.string ByteArray.empty, .slice Option.none 0 0]) := by kernel_rfl
theorem tf70_0 : ((Tryz.prog.fieldsOf 70)[0]?).map (fun f => (f.offset, f.type)) = some (0, 9) := by kernel_rfl
theorem tu24 : Tryz.prog.underlying 24 = some (.struct (Tryz.prog.fieldsOf 24)) := by kernel_rfl
theorem tf24_0 : ((Tryz.prog.fieldsOf 24)[0]?).map (fun f => (f.offset, f.type)) = some (0, 22) := by kernel_rfl
theorem ts22 : (Tryz.prog.info? 22).map (·.size) = some 1 := by kernel_rfl
theorem tc56 (args : Array Value) (w : World) : (callFunc 56 args).run Tryz.prog w = .ok (.enter 56 args) w := by kernel_rfl
theorem tf70_1 : ((Tryz.prog.fieldsOf 70)[1]?).map (fun f => (f.offset, f.type)) = some (1, 28) := by kernel_rfl
theorem tc61 (args : Array Value) (w : World) : (callFunc 61 args).run Tryz.prog w = .ok (.enter 61 args) w := by kernel_rfl
theorem ts24 : (Tryz.prog.info? 24).map (·.size) = some 1 := by kernel_rfl
theorem tc27 (args : Array Value) (w : World) : (callFunc 27 args).run Tryz.prog w = .ok (.enter 27 args) w := by kernel_rfl
theorem te9 : ElemT Tryz.prog 9 1 16 (.string ByteArray.empty) := ⟨by kernel_rfl, by kernel_rfl, by kernel_rfl, rfl⟩
theorem tz24 : (Tryz.prog.info? 24).bind (·.zero) = some (.agg #[.slice Option.none 0 0]) := by kernel_rfl
theorem tc54 (args : Array Value) (w : World) : (callFunc 54 args).run Tryz.prog w = .ok (.enter 54 args) w := by kernel_rfl
theorem tb70_0_1 (x0 : ByteArray) (x1 : Value) (h1 : IsSl x1) (w : World) : (Instr.build 70 [(0, .string x0), (1, x1)].toArray).run Tryz.prog w = .ok (.agg #[.string x0, x1]) w := by obtain ⟨a1, n1, c1, rfl⟩ := h1; kernel_rfl
theorem te70 : ElemT Tryz.prog 70 2 40 (.agg #[.string ByteArray.empty, .slice Option.none 0 0]) := ⟨by kernel_rfl, by kernel_rfl, by kernel_rfl, rfl⟩
theorem tc58 (args : Array Value) (w : World) : (callFunc 58 args).run Tryz.prog w = .ok (.enter 58 args) w := by kernel_rfl
theorem tc63 (args : Array Value) (w : World) : (callFunc 63 args).run Tryz.prog w = .ok (.enter 63 args) w := by kernel_rfl
theorem tc62 (args : Array Value) (w : World) : (callFunc 62 args).run Tryz.prog w = .ok (.enter 62 args) w := by kernel_rfl
theorem tx148 (p q : ByteArray) (w : World) : (callFunc 148 #[.string p, .string q]).run Tryz.prog w = .ok (.value (.int .i64 (cmpB p q))) w := run_cmpB (fn := Tryz.f148) Tryz.func148 (by kernel_rfl) (by kernel_rfl) (by kernel_rfl) (by kernel_rfl) p q w
theorem tc133 (args : Array Value) (w : World) : (callFunc 133 args).run Tryz.prog w = .ok (.enter 133 args) w := by kernel_rfl
theorem tc96 (args : Array Value) (w : World) : (callFunc 96 args).run Tryz.prog w = .ok (.enter 96 args) w := by kernel_rfl
theorem tc94 (args : Array Value) (w : World) : (callFunc 94 args).run Tryz.prog w = .ok (.enter 94 args) w := by kernel_rfl
theorem tc95 (args : Array Value) (w : World) : (callFunc 95 args).run Tryz.prog w = .ok (.enter 95 args) w := by kernel_rfl
theorem tu120 : Tryz.prog.underlying 120 = some (.int .u64) := by kernel_rfl
theorem zr70 (g : Gh) : Rep.rep g (({ Path := ByteArray.empty, Lines := [] } : File) : File) [.string ByteArray.empty, .slice Option.none 0 0] := rep_File_mk (.nil _)
theorem tc55 (args : Array Value) (w : World) : (callFunc 55 args).run Tryz.prog w = .ok (.enter 55 args) w := by kernel_rfl
theorem tb70_0 (x0 : ByteArray) (w : World) : (Instr.build 70 [(0, .string x0)].toArray).run Tryz.prog w = .ok (.agg #[.string x0, .slice Option.none 0 0]) w := by kernel_rfl
theorem tc97 (args : Array Value) (w : World) : (callFunc 97 args).run Tryz.prog w = .ok (.enter 97 args) w := by kernel_rfl
theorem tc57 (args : Array Value) (w : World) : (callFunc 57 args).run Tryz.prog w = .ok (.enter 57 args) w := by kernel_rfl
theorem tc59 (args : Array Value) (w : World) : (callFunc 59 args).run Tryz.prog w = .ok (.enter 59 args) w := by kernel_rfl
theorem tc24 (args : Array Value) (w : World) : (callFunc 24 args).run Tryz.prog w = .ok (.enter 24 args) w := by kernel_rfl
theorem ts37 : (Tryz.prog.info? 37).map (·.size) = some 1 := by kernel_rfl
theorem tc20 (args : Array Value) (w : World) : (callFunc 20 args).run Tryz.prog w = .ok (.enter 20 args) w := by kernel_rfl
theorem tb24_  (w : World) : (Instr.build 24 [].toArray).run Tryz.prog w = .ok (.agg #[.slice Option.none 0 0]) w := by kernel_rfl
theorem tc21 (args : Array Value) (w : World) : (callFunc 21 args).run Tryz.prog w = .ok (.enter 21 args) w := by kernel_rfl
theorem tc22 (args : Array Value) (w : World) : (callFunc 22 args).run Tryz.prog w = .ok (.enter 22 args) w := by kernel_rfl
theorem tc23 (args : Array Value) (w : World) : (callFunc 23 args).run Tryz.prog w = .ok (.enter 23 args) w := by kernel_rfl
theorem tc26 (args : Array Value) (w : World) : (callFunc 26 args).run Tryz.prog w = .ok (.enter 26 args) w := by kernel_rfl
theorem tz37 : (Tryz.prog.info? 37).bind (·.zero) = some (.agg #[.slice Option.none 0 0]) := by kernel_rfl
theorem tb30_0_1_4 (x0 : Int) (x1 : ByteArray) (x4 : Value) (h4 : IsSl x4) (w : World) : (Instr.build 30 [(0, .int .i64 x0), (1, .string x1), (4, .agg #[x4])].toArray).run Tryz.prog w = .ok (.agg #[.int .i64 x0, .string x1, .string ByteArray.empty, .slice Option.none 0 0, x4]) w := by obtain ⟨a4, n4, c4, rfl⟩ := h4; kernel_rfl
theorem te30 : ElemT Tryz.prog 30 5 88 (.agg #[.int .i64 0, .string ByteArray.empty, .string ByteArray.empty, .slice Option.none 0 0, .slice Option.none 0 0]) := ⟨by kernel_rfl, by kernel_rfl, by kernel_rfl, rfl⟩
theorem tb37_0 (x0 : Value) (h0 : IsSl x0) (w : World) : (Instr.build 37 [(0, x0)].toArray).run Tryz.prog w = .ok (.agg #[x0]) w := by obtain ⟨a0, n0, c0, rfl⟩ := h0; kernel_rfl
theorem tb65_0_1_2 (x0 : Int) (x1 : Value) (h1 : IsSl x1) (x2 : Value) (h2 : IsSl x2) (w : World) : (Instr.build 65 [(0, .int .i64 x0), (1, x1), (2, x2)].toArray).run Tryz.prog w = .ok (.agg #[.int .i64 x0, x1, x2]) w := by obtain ⟨a1, n1, c1, rfl⟩ := h1; obtain ⟨a2, n2, c2, rfl⟩ := h2; kernel_rfl
theorem te65 : ElemT Tryz.prog 65 3 56 (.agg #[.int .i64 0, .slice Option.none 0 0, .slice Option.none 0 0]) := ⟨by kernel_rfl, by kernel_rfl, by kernel_rfl, rfl⟩
theorem tb27_0 (x0 : Value) (h0 : IsSl x0) (w : World) : (Instr.build 27 [(0, x0)].toArray).run Tryz.prog w = .ok (.agg #[x0]) w := by obtain ⟨a0, n0, c0, rfl⟩ := h0; kernel_rfl
theorem tz27 : (Tryz.prog.info? 27).bind (·.zero) = some (.agg #[.slice Option.none 0 0]) := by kernel_rfl
theorem tc25 (args : Array Value) (w : World) : (callFunc 25 args).run Tryz.prog w = .ok (.enter 25 args) w := by kernel_rfl
theorem tb24_0 (x0 : Value) (h0 : IsSl x0) (w : World) : (Instr.build 24 [(0, x0)].toArray).run Tryz.prog w = .ok (.agg #[x0]) w := by obtain ⟨a0, n0, c0, rfl⟩ := h0; kernel_rfl
theorem tc5 (args : Array Value) (w : World) : (callFunc 5 args).run Tryz.prog w = .ok (.enter 5 args) w := by kernel_rfl
theorem tc9 (args : Array Value) (w : World) : (callFunc 9 args).run Tryz.prog w = .ok (.enter 9 args) w := by kernel_rfl
theorem tu47 : Tryz.prog.underlying 47 = some (.slice 3) := by kernel_rfl
theorem tz3 : (Tryz.prog.info? 3).bind (·.zero) = some (.int .i64 0) := by kernel_rfl
theorem te3 : ElemT Tryz.prog 3 1 8 (.int .i64 0) := ⟨by kernel_rfl, by kernel_rfl, by kernel_rfl, rfl⟩
theorem tz47 : (Tryz.prog.info? 47).bind (·.zero) = some (.slice Option.none 0 0) := by kernel_rfl
theorem ts47 : (Tryz.prog.info? 47).map (·.size) = some 1 := by kernel_rfl
theorem tc128 (args : Array Value) (w : World) : (callFunc 128 args).run Tryz.prog w = .ok (.enter 128 args) w := by kernel_rfl
theorem tc88 (args : Array Value) (w : World) : (callFunc 88 args).run Tryz.prog w = .ok (.enter 88 args) w := by kernel_rfl
theorem tc89 (args : Array Value) (w : World) : (callFunc 89 args).run Tryz.prog w = .ok (.enter 89 args) w := by kernel_rfl
theorem tc45 (args : Array Value) (w : World) : (callFunc 45 args).run Tryz.prog w = .ok (.enter 45 args) w := by kernel_rfl
theorem tc66 (args : Array Value) (w : World) : (callFunc 66 args).run Tryz.prog w = .ok (.enter 66 args) w := by kernel_rfl
theorem tc65 (args : Array Value) (w : World) : (callFunc 65 args).run Tryz.prog w = .ok (.enter 65 args) w := by kernel_rfl
theorem tc102 (args : Array Value) (w : World) : (callFunc 102 args).run Tryz.prog w = .ok (.enter 102 args) w := by kernel_rfl
theorem tc67 (args : Array Value) (w : World) : (callFunc 67 args).run Tryz.prog w = .ok (.enter 67 args) w := by kernel_rfl
theorem tc70 (args : Array Value) (w : World) : (callFunc 70 args).run Tryz.prog w = .ok (.enter 70 args) w := by kernel_rfl
theorem tu76 : Tryz.prog.underlying 76 = some (.struct (Tryz.prog.fieldsOf 76)) := by kernel_rfl
theorem tf76_2 : ((Tryz.prog.fieldsOf 76)[2]?).map (fun f => (f.offset, f.type)) = some (2, 3) := by kernel_rfl
theorem tf76_0 : ((Tryz.prog.fieldsOf 76)[0]?).map (fun f => (f.offset, f.type)) = some (0, 9) := by kernel_rfl
theorem tf76_1 : ((Tryz.prog.fieldsOf 76)[1]?).map (fun f => (f.offset, f.type)) = some (1, 9) := by kernel_rfl
theorem tc32 (args : Array Value) (w : World) : (callFunc 32 args).run Tryz.prog w = .ok (.enter 32 args) w := by kernel_rfl
theorem tc31 (args : Array Value) (w : World) : (callFunc 31 args).run Tryz.prog w = .ok (.enter 31 args) w := by kernel_rfl
theorem tu42 : Tryz.prog.underlying 42 = some (.array 2 9) := by kernel_rfl
theorem sA76 (w : World) : (isAgg 76).run Tryz.prog w = .ok true w := by kernel_rfl
theorem sZ76 (w : World) : (Go.sizeOf 76).run Tryz.prog w = .ok 3 w := by kernel_rfl
theorem tc30 (args : Array Value) (w : World) : (callFunc 30 args).run Tryz.prog w = .ok (.enter 30 args) w := by kernel_rfl
theorem tc29 (args : Array Value) (w : World) : (callFunc 29 args).run Tryz.prog w = .ok (.enter 29 args) w := by kernel_rfl
theorem sA42 (w : World) : (isAgg 42).run Tryz.prog w = .ok true w := by kernel_rfl
theorem sZ42 (w : World) : (Go.sizeOf 42).run Tryz.prog w = .ok 2 w := by kernel_rfl
theorem tc36 (args : Array Value) (w : World) : (callFunc 36 args).run Tryz.prog w = .ok (.enter 36 args) w := by kernel_rfl
theorem tc35 (args : Array Value) (w : World) : (callFunc 35 args).run Tryz.prog w = .ok (.enter 35 args) w := by kernel_rfl
theorem tu73 : Tryz.prog.underlying 73 = some (.slice 76) := by kernel_rfl
theorem ts76 : (Tryz.prog.info? 76).map (·.size) = some 3 := by kernel_rfl
theorem tz76 : (Tryz.prog.info? 76).bind (·.zero) = some (.agg #[.string ByteArray.empty, .string ByteArray.empty, .int .i64 0]) := by kernel_rfl
theorem tc34 (args : Array Value) (w : World) : (callFunc 34 args).run Tryz.prog w = .ok (.enter 34 args) w := by kernel_rfl
theorem tc71 (args : Array Value) (w : World) : (callFunc 71 args).run Tryz.prog w = .ok (.enter 71 args) w := by kernel_rfl
theorem tb42_0_1 (x0 : ByteArray) (x1 : ByteArray) (w : World) : (Instr.build 42 [(0, .string x0), (1, .string x1)].toArray).run Tryz.prog w = .ok (.agg #[.string x0, .string x1]) w := by kernel_rfl
theorem tu39 : Tryz.prog.underlying 39 = some (.slice 42) := by kernel_rfl
theorem te42 : ElemT Tryz.prog 42 2 32 (.agg #[.string ByteArray.empty, .string ByteArray.empty]) := ⟨by kernel_rfl, by kernel_rfl, by kernel_rfl, rfl⟩
theorem ts42 : (Tryz.prog.info? 42).map (·.size) = some 2 := by kernel_rfl
theorem tc33 (args : Array Value) (w : World) : (callFunc 33 args).run Tryz.prog w = .ok (.enter 33 args) w := by kernel_rfl
theorem tc28 (args : Array Value) (w : World) : (callFunc 28 args).run Tryz.prog w = .ok (.enter 28 args) w := by kernel_rfl
theorem tc11 (args : Array Value) (w : World) : (callFunc 11 args).run Tryz.prog w = .ok (.enter 11 args) w := by kernel_rfl
theorem tb76_0_1_2 (x0 : ByteArray) (x1 : ByteArray) (x2 : Int) (w : World) : (Instr.build 76 [(0, .string x0), (1, .string x1), (2, .int .i64 x2)].toArray).run Tryz.prog w = .ok (.agg #[.string x0, .string x1, .int .i64 x2]) w := by kernel_rfl
theorem te76 : ElemT Tryz.prog 76 3 40 (.agg #[.string ByteArray.empty, .string ByteArray.empty, .int .i64 0]) := ⟨by kernel_rfl, by kernel_rfl, by kernel_rfl, rfl⟩
theorem tc73 (args : Array Value) (w : World) : (callFunc 73 args).run Tryz.prog w = .ok (.enter 73 args) w := by kernel_rfl
theorem tc75 (args : Array Value) (w : World) : (callFunc 75 args).run Tryz.prog w = .ok (.enter 75 args) w := by kernel_rfl
theorem tc74 (args : Array Value) (w : World) : (callFunc 74 args).run Tryz.prog w = .ok (.enter 74 args) w := by kernel_rfl
theorem tc121 (args : Array Value) (w : World) : (callFunc 121 args).run Tryz.prog w = .ok (.enter 121 args) w := by kernel_rfl
theorem tc122 (args : Array Value) (w : World) : (callFunc 122 args).run Tryz.prog w = .ok (.enter 122 args) w := by kernel_rfl
theorem tc76 (args : Array Value) (w : World) : (callFunc 76 args).run Tryz.prog w = .ok (.enter 76 args) w := by kernel_rfl
theorem tc77 (args : Array Value) (w : World) : (callFunc 77 args).run Tryz.prog w = .ok (.enter 77 args) w := by kernel_rfl
theorem tc123 (args : Array Value) (w : World) : (callFunc 123 args).run Tryz.prog w = .ok (.enter 123 args) w := by kernel_rfl
theorem tc124 (args : Array Value) (w : World) : (callFunc 124 args).run Tryz.prog w = .ok (.enter 124 args) w := by kernel_rfl
theorem tb174_0_1_2 (x0 : Int) (x1 : Int) (x2 : Int) (w : World) : (Instr.build 174 [(0, .int .i64 x0), (1, .int .i64 x1), (2, .int .i64 x2)].toArray).run Tryz.prog w = .ok (.agg #[.int .i64 x0, .int .i64 x1, .int .i64 x2]) w := by kernel_rfl
theorem tu128 : Tryz.prog.underlying 128 = some (.slice 174) := by kernel_rfl
theorem te174 : ElemT Tryz.prog 174 3 24 (.agg #[.int .i64 0, .int .i64 0, .int .i64 0]) := ⟨by kernel_rfl, by kernel_rfl, by kernel_rfl, rfl⟩
theorem tu174 : Tryz.prog.underlying 174 = some (.struct (Tryz.prog.fieldsOf 174)) := by kernel_rfl
theorem tf174_1 : ((Tryz.prog.fieldsOf 174)[1]?).map (fun f => (f.offset, f.type)) = some (1, 3) := by kernel_rfl
theorem tf174_0 : ((Tryz.prog.fieldsOf 174)[0]?).map (fun f => (f.offset, f.type)) = some (0, 3) := by kernel_rfl
theorem ts174 : (Tryz.prog.info? 174).map (·.size) = some 3 := by kernel_rfl
theorem tz174 : (Tryz.prog.info? 174).bind (·.zero) = some (.agg #[.int .i64 0, .int .i64 0, .int .i64 0]) := by kernel_rfl
theorem tc125 (args : Array Value) (w : World) : (callFunc 125 args).run Tryz.prog w = .ok (.enter 125 args) w := by kernel_rfl
theorem tb27_  (w : World) : (Instr.build 27 [].toArray).run Tryz.prog w = .ok (.agg #[.slice Option.none 0 0]) w := by kernel_rfl
theorem tf174_2 : ((Tryz.prog.fieldsOf 174)[2]?).map (fun f => (f.offset, f.type)) = some (2, 3) := by kernel_rfl
theorem tc78 (args : Array Value) (w : World) : (callFunc 78 args).run Tryz.prog w = .ok (.enter 78 args) w := by kernel_rfl
theorem tc79 (args : Array Value) (w : World) : (callFunc 79 args).run Tryz.prog w = .ok (.enter 79 args) w := by kernel_rfl
theorem tc81 (args : Array Value) (w : World) : (callFunc 81 args).run Tryz.prog w = .ok (.enter 81 args) w := by kernel_rfl
theorem tc80 (args : Array Value) (w : World) : (callFunc 80 args).run Tryz.prog w = .ok (.enter 80 args) w := by kernel_rfl
theorem tc83 (args : Array Value) (w : World) : (callFunc 83 args).run Tryz.prog w = .ok (.enter 83 args) w := by kernel_rfl
theorem tc82 (args : Array Value) (w : World) : (callFunc 82 args).run Tryz.prog w = .ok (.enter 82 args) w := by kernel_rfl
theorem tc38 (args : Array Value) (w : World) : (callFunc 38 args).run Tryz.prog w = .ok (.enter 38 args) w := by kernel_rfl
theorem tc39 (args : Array Value) (w : World) : (callFunc 39 args).run Tryz.prog w = .ok (.enter 39 args) w := by kernel_rfl
theorem tc40 (args : Array Value) (w : World) : (callFunc 40 args).run Tryz.prog w = .ok (.enter 40 args) w := by kernel_rfl
theorem tc41 (args : Array Value) (w : World) : (callFunc 41 args).run Tryz.prog w = .ok (.enter 41 args) w := by kernel_rfl
theorem tc37 (args : Array Value) (w : World) : (callFunc 37 args).run Tryz.prog w = .ok (.enter 37 args) w := by kernel_rfl
theorem tb30_0_1_2 (x0 : Int) (x1 : ByteArray) (x2 : ByteArray) (w : World) : (Instr.build 30 [(0, .int .i64 x0), (1, .string x1), (2, .string x2)].toArray).run Tryz.prog w = .ok (.agg #[.int .i64 x0, .string x1, .string x2, .slice Option.none 0 0, .slice Option.none 0 0]) w := by kernel_rfl
theorem tc6 (args : Array Value) (w : World) : (callFunc 6 args).run Tryz.prog w = .ok (.enter 6 args) w := by kernel_rfl
theorem tc7 (args : Array Value) (w : World) : (callFunc 7 args).run Tryz.prog w = .ok (.enter 7 args) w := by kernel_rfl
theorem tqb42 : Tryz.prog.eqGuardType Tryz.prog.depth 42 = false := by kernel_rfl
theorem tc8 (args : Array Value) (w : World) : (callFunc 8 args).run Tryz.prog w = .ok (.enter 8 args) w := by kernel_rfl
end Go.Dc
