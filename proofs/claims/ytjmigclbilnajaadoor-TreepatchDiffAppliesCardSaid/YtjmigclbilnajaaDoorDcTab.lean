/- Closed facts of the translation. -/
import Derived.Test.YtjmigclbilnajaaDoorDcTy
import Derived.Test.YtjmigclbilnajaaDoorProg
import Derived.KernelRfl
namespace Go.Dc
open Go Go.Proofs
theorem mo : Tryd.prog.follows .mixedOrders = true := by kernel_rfl
theorem tx130 (s : ByteArray) (c : Int) (w : World) : (callFunc 130 #[.string s, .int .u8 c]).run Tryd.prog w = .ok (.value (.int .i64 (idxB s c))) w := run_idxB (fn := Tryd.f130) Tryd.func130 (by kernel_rfl) (by kernel_rfl) (by kernel_rfl) (by kernel_rfl) s c w
theorem tu9 : Tryd.prog.underlying 9 = some (.string) := by kernel_rfl
theorem tu5 : Tryd.prog.underlying 5 = some (.int .u8) := by kernel_rfl
theorem tu162 : Tryd.prog.underlying 162 = some (.int .u32) := by kernel_rfl
theorem tc136 (args : Array Value) (w : World) : (callFunc 136 args).run Tryd.prog w = .ok (.enter 136 args) w := by kernel_rfl
theorem tc123 (args : Array Value) (w : World) : (callFunc 123 args).run Tryd.prog w = .ok (.enter 123 args) w := by kernel_rfl
theorem tc127 (args : Array Value) (w : World) : (callFunc 127 args).run Tryd.prog w = .ok (.enter 127 args) w := by kernel_rfl
theorem tz4 : (Tryd.prog.info? 4).bind (·.zero) = some (.bool false) := by kernel_rfl
theorem ts4 : (Tryd.prog.info? 4).map (·.size) = some 1 := by kernel_rfl
theorem tu4 : Tryd.prog.underlying 4 = some (.bool) := by kernel_rfl
theorem tc51 (args : Array Value) (w : World) : (callFunc 51 args).run Tryd.prog w = .ok (.enter 51 args) w := by kernel_rfl
theorem tc95 (args : Array Value) (w : World) : (callFunc 95 args).run Tryd.prog w = .ok (.enter 95 args) w := by kernel_rfl
theorem tc117 (args : Array Value) (w : World) : (callFunc 117 args).run Tryd.prog w = .ok (.enter 117 args) w := by kernel_rfl
theorem tc52 (args : Array Value) (w : World) : (callFunc 52 args).run Tryd.prog w = .ok (.enter 52 args) w := by kernel_rfl
theorem tc119 (args : Array Value) (w : World) : (callFunc 119 args).run Tryd.prog w = .ok (.enter 119 args) w := by kernel_rfl
theorem tu3 : Tryd.prog.underlying 3 = some (.int .i64) := by kernel_rfl
theorem ts9 : (Tryd.prog.info? 9).map (·.size) = some 1 := by kernel_rfl
theorem tu69 : Tryd.prog.underlying 69 = some (.struct (Tryd.prog.fieldsOf 69)) := by kernel_rfl
theorem tf69_0 : ((Tryd.prog.fieldsOf 69)[0]?).map (fun f => (f.offset, f.type)) = some (0, 3) := by kernel_rfl
theorem ts3 : (Tryd.prog.info? 3).map (·.size) = some 1 := by kernel_rfl
theorem tf69_1 : ((Tryd.prog.fieldsOf 69)[1]?).map (fun f => (f.offset, f.type)) = some (1, 22) := by kernel_rfl
theorem ts22 : (Tryd.prog.info? 22).map (·.size) = some 1 := by kernel_rfl
theorem tu22 : Tryd.prog.underlying 22 = some (.slice 9) := by kernel_rfl
theorem tz29 : (Tryd.prog.info? 29).bind (·.zero) = some (.agg #[.int .i64 0, .int .i64 0]) := by kernel_rfl
theorem tb29_0_1 (x0 : Int) (x1 : Int) (w : World) : (Instr.build 29 [(0, .int .i64 x0), (1, .int .i64 x1)].toArray).run Tryd.prog w = .ok (.agg #[.int .i64 x0, .int .i64 x1]) w := by kernel_rfl
theorem ts29 : (Tryd.prog.info? 29).map (·.size) = some 2 := by kernel_rfl
theorem tu29 : Tryd.prog.underlying 29 = some (.struct (Tryd.prog.fieldsOf 29)) := by kernel_rfl
theorem tb29_  (w : World) : (Instr.build 29 [].toArray).run Tryd.prog w = .ok (.agg #[.int .i64 0, .int .i64 0]) w := by kernel_rfl
theorem tc113 (args : Array Value) (w : World) : (callFunc 113 args).run Tryd.prog w = .ok (.enter 113 args) w := by kernel_rfl
theorem tf69_2 : ((Tryd.prog.fieldsOf 69)[2]?).map (fun f => (f.offset, f.type)) = some (2, 22) := by kernel_rfl
theorem ts69 : (Tryd.prog.info? 69).map (·.size) = some 3 := by kernel_rfl
theorem tc84 (args : Array Value) (w : World) : (callFunc 84 args).run Tryd.prog w = .ok (.enter 84 args) w := by kernel_rfl
theorem tb144_0_1 (x0 : Value) (h0 : IsSl x0) (x1 : Value) (h1 : IsSl x1) (w : World) : (Instr.build 144 [(0, x0), (1, x1)].toArray).run Tryd.prog w = .ok (.agg #[x0, x1]) w := by obtain ⟨a0, n0, c0, rfl⟩ := h0; obtain ⟨a1, n1, c1, rfl⟩ := h1; kernel_rfl
theorem tu144 : Tryd.prog.underlying 144 = some (.array 2 22) := by kernel_rfl
theorem tc85 (args : Array Value) (w : World) : (callFunc 85 args).run Tryd.prog w = .ok (.enter 85 args) w := by kernel_rfl
theorem tqa29 : Tryd.prog.stoodInHeld 29 = false := by kernel_rfl
theorem tqb29 : Tryd.prog.eqGuardType Tryd.prog.depth 29 = false := by kernel_rfl
theorem tqc29 : (Tryd.prog.fieldsOf 29).toList.map (fun f => (f.name, f.type, f.offset)) = [("Code", 3, 0), ("Index", 3, 1)] := by kernel_rfl
theorem tf29_0 : ((Tryd.prog.fieldsOf 29)[0]?).map (fun f => (f.offset, f.type)) = some (0, 3) := by kernel_rfl
theorem tu25 : Tryd.prog.underlying 25 = some (.struct (Tryd.prog.fieldsOf 25)) := by kernel_rfl
theorem tf25_0 : ((Tryd.prog.fieldsOf 25)[0]?).map (fun f => (f.offset, f.type)) = some (0, 23) := by kernel_rfl
theorem ts23 : (Tryd.prog.info? 23).map (·.size) = some 1 := by kernel_rfl
theorem tu23 : Tryd.prog.underlying 23 = some (.slice 69) := by kernel_rfl
theorem tz69 : (Tryd.prog.info? 69).bind (·.zero) = some (.agg #[.int .i64 0, .slice Option.none 0 0, .slice Option.none 0 0]) := by kernel_rfl
theorem tc83 (args : Array Value) (w : World) : (callFunc 83 args).run Tryd.prog w = .ok (.enter 83 args) w := by kernel_rfl
theorem tc128 (args : Array Value) (w : World) : (callFunc 128 args).run Tryd.prog w = .ok (.enter 128 args) w := by kernel_rfl
theorem tc120 (args : Array Value) (w : World) : (callFunc 120 args).run Tryd.prog w = .ok (.enter 120 args) w := by kernel_rfl
theorem tu27 : Tryd.prog.underlying 27 = some (.struct (Tryd.prog.fieldsOf 27)) := by kernel_rfl
theorem tf27_0 : ((Tryd.prog.fieldsOf 27)[0]?).map (fun f => (f.offset, f.type)) = some (0, 3) := by kernel_rfl
theorem tf27_1 : ((Tryd.prog.fieldsOf 27)[1]?).map (fun f => (f.offset, f.type)) = some (1, 9) := by kernel_rfl
theorem tc20 (args : Array Value) (w : World) : (callFunc 20 args).run Tryd.prog w = .ok (.enter 20 args) w := by kernel_rfl
theorem tf27_2 : ((Tryd.prog.fieldsOf 27)[2]?).map (fun f => (f.offset, f.type)) = some (2, 9) := by kernel_rfl
theorem tc96 (args : Array Value) (w : World) : (callFunc 96 args).run Tryd.prog w = .ok (.enter 96 args) w := by kernel_rfl
theorem tf27_3 : ((Tryd.prog.fieldsOf 27)[3]?).map (fun f => (f.offset, f.type)) = some (3, 22) := by kernel_rfl
theorem tf27_4 : ((Tryd.prog.fieldsOf 27)[4]?).map (fun f => (f.offset, f.type)) = some (4, 25) := by kernel_rfl
theorem ts25 : (Tryd.prog.info? 25).map (·.size) = some 1 := by kernel_rfl
theorem tc41 (args : Array Value) (w : World) : (callFunc 41 args).run Tryd.prog w = .ok (.enter 41 args) w := by kernel_rfl
theorem tu41 : Tryd.prog.underlying 41 = some (.struct (Tryd.prog.fieldsOf 41)) := by kernel_rfl
theorem tf41_0 : ((Tryd.prog.fieldsOf 41)[0]?).map (fun f => (f.offset, f.type)) = some (0, 39) := by kernel_rfl
theorem ts39 : (Tryd.prog.info? 39).map (·.size) = some 1 := by kernel_rfl
theorem tu39 : Tryd.prog.underlying 39 = some (.slice 27) := by kernel_rfl
theorem ts27 : (Tryd.prog.info? 27).map (·.size) = some 5 := by kernel_rfl
theorem tz27 : (Tryd.prog.info? 27).bind (·.zero) = some (.agg #[.int .i64 0, .string ByteArray.empty, .string ByteArray.empty, .slice Option.none 0 0, .slice Option.none 0 0]) := by kernel_rfl
theorem tc57 (args : Array Value) (w : World) : (callFunc 57 args).run Tryd.prog w = .ok (.enter 57 args) w := by kernel_rfl
theorem ts41 : (Tryd.prog.info? 41).map (·.size) = some 1 := by kernel_rfl
theorem tc24 (args : Array Value) (w : World) : (callFunc 24 args).run Tryd.prog w = .ok (.enter 24 args) w := by kernel_rfl
theorem te9 : ElemT Tryd.prog 9 1 16 (.string ByteArray.empty) := ⟨by kernel_rfl, by kernel_rfl, by kernel_rfl, rfl⟩
theorem tz25 : (Tryd.prog.info? 25).bind (·.zero) = some (.agg #[.slice Option.none 0 0]) := by kernel_rfl
theorem tc63 (args : Array Value) (w : World) : (callFunc 63 args).run Tryd.prog w = .ok (.enter 63 args) w := by kernel_rfl
theorem tb69_0_1_2 (x0 : Int) (x1 : Value) (h1 : IsSl x1) (x2 : Value) (h2 : IsSl x2) (w : World) : (Instr.build 69 [(0, .int .i64 x0), (1, x1), (2, x2)].toArray).run Tryd.prog w = .ok (.agg #[.int .i64 x0, x1, x2]) w := by obtain ⟨a1, n1, c1, rfl⟩ := h1; obtain ⟨a2, n2, c2, rfl⟩ := h2; kernel_rfl
theorem te69 : ElemT Tryd.prog 69 3 56 (.agg #[.int .i64 0, .slice Option.none 0 0, .slice Option.none 0 0]) := ⟨by kernel_rfl, by kernel_rfl, by kernel_rfl, rfl⟩
theorem tc66 (args : Array Value) (w : World) : (callFunc 66 args).run Tryd.prog w = .ok (.enter 66 args) w := by kernel_rfl
theorem tc68 (args : Array Value) (w : World) : (callFunc 68 args).run Tryd.prog w = .ok (.enter 68 args) w := by kernel_rfl
theorem tc67 (args : Array Value) (w : World) : (callFunc 67 args).run Tryd.prog w = .ok (.enter 67 args) w := by kernel_rfl
theorem tc109 (args : Array Value) (w : World) : (callFunc 109 args).run Tryd.prog w = .ok (.enter 109 args) w := by kernel_rfl
theorem tc110 (args : Array Value) (w : World) : (callFunc 110 args).run Tryd.prog w = .ok (.enter 110 args) w := by kernel_rfl
theorem tc69 (args : Array Value) (w : World) : (callFunc 69 args).run Tryd.prog w = .ok (.enter 69 args) w := by kernel_rfl
theorem te27 : ElemT Tryd.prog 27 5 88 (.agg #[.int .i64 0, .string ByteArray.empty, .string ByteArray.empty, .slice Option.none 0 0, .slice Option.none 0 0]) := ⟨by kernel_rfl, by kernel_rfl, by kernel_rfl, rfl⟩
theorem tc70 (args : Array Value) (w : World) : (callFunc 70 args).run Tryd.prog w = .ok (.enter 70 args) w := by kernel_rfl
theorem tc111 (args : Array Value) (w : World) : (callFunc 111 args).run Tryd.prog w = .ok (.enter 111 args) w := by kernel_rfl
theorem tc100 (args : Array Value) (w : World) : (callFunc 100 args).run Tryd.prog w = .ok (.enter 100 args) w := by kernel_rfl
theorem tb142_0_1_2 (x0 : Int) (x1 : Int) (x2 : Int) (w : World) : (Instr.build 142 [(0, .int .i64 x0), (1, .int .i64 x1), (2, .int .i64 x2)].toArray).run Tryd.prog w = .ok (.agg #[.int .i64 x0, .int .i64 x1, .int .i64 x2]) w := by kernel_rfl
theorem tu109 : Tryd.prog.underlying 109 = some (.slice 142) := by kernel_rfl
theorem te142 : ElemT Tryd.prog 142 3 24 (.agg #[.int .i64 0, .int .i64 0, .int .i64 0]) := ⟨by kernel_rfl, by kernel_rfl, by kernel_rfl, rfl⟩
theorem tu142 : Tryd.prog.underlying 142 = some (.struct (Tryd.prog.fieldsOf 142)) := by kernel_rfl
theorem tf142_1 : ((Tryd.prog.fieldsOf 142)[1]?).map (fun f => (f.offset, f.type)) = some (1, 3) := by kernel_rfl
theorem tf142_0 : ((Tryd.prog.fieldsOf 142)[0]?).map (fun f => (f.offset, f.type)) = some (0, 3) := by kernel_rfl
theorem ts142 : (Tryd.prog.info? 142).map (·.size) = some 3 := by kernel_rfl
theorem tz142 : (Tryd.prog.info? 142).bind (·.zero) = some (.agg #[.int .i64 0, .int .i64 0, .int .i64 0]) := by kernel_rfl
theorem tc112 (args : Array Value) (w : World) : (callFunc 112 args).run Tryd.prog w = .ok (.enter 112 args) w := by kernel_rfl
theorem tb25_  (w : World) : (Instr.build 25 [].toArray).run Tryd.prog w = .ok (.agg #[.slice Option.none 0 0]) w := by kernel_rfl
theorem tf142_2 : ((Tryd.prog.fieldsOf 142)[2]?).map (fun f => (f.offset, f.type)) = some (2, 3) := by kernel_rfl
theorem tc71 (args : Array Value) (w : World) : (callFunc 71 args).run Tryd.prog w = .ok (.enter 71 args) w := by kernel_rfl
theorem tc72 (args : Array Value) (w : World) : (callFunc 72 args).run Tryd.prog w = .ok (.enter 72 args) w := by kernel_rfl
theorem tc74 (args : Array Value) (w : World) : (callFunc 74 args).run Tryd.prog w = .ok (.enter 74 args) w := by kernel_rfl
theorem tc73 (args : Array Value) (w : World) : (callFunc 73 args).run Tryd.prog w = .ok (.enter 73 args) w := by kernel_rfl
theorem tc76 (args : Array Value) (w : World) : (callFunc 76 args).run Tryd.prog w = .ok (.enter 76 args) w := by kernel_rfl
theorem tc75 (args : Array Value) (w : World) : (callFunc 75 args).run Tryd.prog w = .ok (.enter 75 args) w := by kernel_rfl
theorem tb27_0_1_4 (x0 : Int) (x1 : ByteArray) (x4 : Value) (h4 : IsSl x4) (w : World) : (Instr.build 27 [(0, .int .i64 x0), (1, .string x1), (4, .agg #[x4])].toArray).run Tryd.prog w = .ok (.agg #[.int .i64 x0, .string x1, .string ByteArray.empty, .slice Option.none 0 0, x4]) w := by obtain ⟨a4, n4, c4, rfl⟩ := h4; kernel_rfl
theorem tc31 (args : Array Value) (w : World) : (callFunc 31 args).run Tryd.prog w = .ok (.enter 31 args) w := by kernel_rfl
theorem tc32 (args : Array Value) (w : World) : (callFunc 32 args).run Tryd.prog w = .ok (.enter 32 args) w := by kernel_rfl
theorem tc33 (args : Array Value) (w : World) : (callFunc 33 args).run Tryd.prog w = .ok (.enter 33 args) w := by kernel_rfl
theorem tc34 (args : Array Value) (w : World) : (callFunc 34 args).run Tryd.prog w = .ok (.enter 34 args) w := by kernel_rfl
theorem tb41_0 (x0 : Value) (h0 : IsSl x0) (w : World) : (Instr.build 41 [(0, x0)].toArray).run Tryd.prog w = .ok (.agg #[x0]) w := by obtain ⟨a0, n0, c0, rfl⟩ := h0; kernel_rfl
theorem tc30 (args : Array Value) (w : World) : (callFunc 30 args).run Tryd.prog w = .ok (.enter 30 args) w := by kernel_rfl
theorem tc53 (args : Array Value) (w : World) : (callFunc 53 args).run Tryd.prog w = .ok (.enter 53 args) w := by kernel_rfl
theorem tc55 (args : Array Value) (w : World) : (callFunc 55 args).run Tryd.prog w = .ok (.enter 55 args) w := by kernel_rfl
theorem tc36 (args : Array Value) (w : World) : (callFunc 36 args).run Tryd.prog w = .ok (.enter 36 args) w := by kernel_rfl
theorem tc97 (args : Array Value) (w : World) : (callFunc 97 args).run Tryd.prog w = .ok (.enter 97 args) w := by kernel_rfl
theorem tc56 (args : Array Value) (w : World) : (callFunc 56 args).run Tryd.prog w = .ok (.enter 56 args) w := by kernel_rfl
theorem tc80 (args : Array Value) (w : World) : (callFunc 80 args).run Tryd.prog w = .ok (.enter 80 args) w := by kernel_rfl
theorem tc21 (args : Array Value) (w : World) : (callFunc 21 args).run Tryd.prog w = .ok (.enter 21 args) w := by kernel_rfl
theorem tc77 (args : Array Value) (w : World) : (callFunc 77 args).run Tryd.prog w = .ok (.enter 77 args) w := by kernel_rfl
theorem tc81 (args : Array Value) (w : World) : (callFunc 81 args).run Tryd.prog w = .ok (.enter 81 args) w := by kernel_rfl
theorem tc78 (args : Array Value) (w : World) : (callFunc 78 args).run Tryd.prog w = .ok (.enter 78 args) w := by kernel_rfl
theorem tc82 (args : Array Value) (w : World) : (callFunc 82 args).run Tryd.prog w = .ok (.enter 82 args) w := by kernel_rfl
theorem tc79 (args : Array Value) (w : World) : (callFunc 79 args).run Tryd.prog w = .ok (.enter 79 args) w := by kernel_rfl
theorem tb27_  (w : World) : (Instr.build 27 [].toArray).run Tryd.prog w = .ok (.agg #[.int .i64 0, .string ByteArray.empty, .string ByteArray.empty, .slice Option.none 0 0, .slice Option.none 0 0]) w := by kernel_rfl
theorem tc35 (args : Array Value) (w : World) : (callFunc 35 args).run Tryd.prog w = .ok (.enter 35 args) w := by kernel_rfl
theorem tc37 (args : Array Value) (w : World) : (callFunc 37 args).run Tryd.prog w = .ok (.enter 37 args) w := by kernel_rfl
theorem tc38 (args : Array Value) (w : World) : (callFunc 38 args).run Tryd.prog w = .ok (.enter 38 args) w := by kernel_rfl
theorem tc39 (args : Array Value) (w : World) : (callFunc 39 args).run Tryd.prog w = .ok (.enter 39 args) w := by kernel_rfl
theorem tc40 (args : Array Value) (w : World) : (callFunc 40 args).run Tryd.prog w = .ok (.enter 40 args) w := by kernel_rfl
theorem tb69_0_2 (x0 : Int) (x2 : Value) (h2 : IsSl x2) (w : World) : (Instr.build 69 [(0, .int .i64 x0), (2, x2)].toArray).run Tryd.prog w = .ok (.agg #[.int .i64 x0, .slice Option.none 0 0, x2]) w := by obtain ⟨a2, n2, c2, rfl⟩ := h2; kernel_rfl
theorem tb25_0 (x0 : Value) (h0 : IsSl x0) (w : World) : (Instr.build 25 [(0, x0)].toArray).run Tryd.prog w = .ok (.agg #[x0]) w := by obtain ⟨a0, n0, c0, rfl⟩ := h0; kernel_rfl
theorem tb27_0_1_2 (x0 : Int) (x1 : ByteArray) (x2 : ByteArray) (w : World) : (Instr.build 27 [(0, .int .i64 x0), (1, .string x1), (2, .string x2)].toArray).run Tryd.prog w = .ok (.agg #[.int .i64 x0, .string x1, .string x2, .slice Option.none 0 0, .slice Option.none 0 0]) w := by kernel_rfl
theorem tc12 (args : Array Value) (w : World) : (callFunc 12 args).run Tryd.prog w = .ok (.enter 12 args) w := by kernel_rfl
theorem tc14 (args : Array Value) (w : World) : (callFunc 14 args).run Tryd.prog w = .ok (.enter 14 args) w := by kernel_rfl
theorem tc13 (args : Array Value) (w : World) : (callFunc 13 args).run Tryd.prog w = .ok (.enter 13 args) w := by kernel_rfl
theorem tc15 (args : Array Value) (w : World) : (callFunc 15 args).run Tryd.prog w = .ok (.enter 15 args) w := by kernel_rfl
theorem tc86 (args : Array Value) (w : World) : (callFunc 86 args).run Tryd.prog w = .ok (.enter 86 args) w := by kernel_rfl
theorem tc42 (args : Array Value) (w : World) : (callFunc 42 args).run Tryd.prog w = .ok (.enter 42 args) w := by kernel_rfl
theorem tc44 (args : Array Value) (w : World) : (callFunc 44 args).run Tryd.prog w = .ok (.enter 44 args) w := by kernel_rfl
theorem tc43 (args : Array Value) (w : World) : (callFunc 43 args).run Tryd.prog w = .ok (.enter 43 args) w := by kernel_rfl
theorem tu75 : Tryd.prog.underlying 75 = some (.slice 3) := by kernel_rfl
theorem tz3 : (Tryd.prog.info? 3).bind (·.zero) = some (.int .i64 0) := by kernel_rfl
theorem te3 : ElemT Tryd.prog 3 1 8 (.int .i64 0) := ⟨by kernel_rfl, by kernel_rfl, by kernel_rfl, rfl⟩
theorem tz75 : (Tryd.prog.info? 75).bind (·.zero) = some (.slice Option.none 0 0) := by kernel_rfl
theorem ts75 : (Tryd.prog.info? 75).map (·.size) = some 1 := by kernel_rfl
theorem tc87 (args : Array Value) (w : World) : (callFunc 87 args).run Tryd.prog w = .ok (.enter 87 args) w := by kernel_rfl
theorem tc45 (args : Array Value) (w : World) : (callFunc 45 args).run Tryd.prog w = .ok (.enter 45 args) w := by kernel_rfl
theorem tc46 (args : Array Value) (w : World) : (callFunc 46 args).run Tryd.prog w = .ok (.enter 46 args) w := by kernel_rfl
theorem tc16 (args : Array Value) (w : World) : (callFunc 16 args).run Tryd.prog w = .ok (.enter 16 args) w := by kernel_rfl
theorem tc17 (args : Array Value) (w : World) : (callFunc 17 args).run Tryd.prog w = .ok (.enter 17 args) w := by kernel_rfl
theorem tu42 : Tryd.prog.underlying 42 = some (.slice 88) := by kernel_rfl
theorem ts88 : (Tryd.prog.info? 88).map (·.size) = some 2 := by kernel_rfl
theorem tu88 : Tryd.prog.underlying 88 = some (.struct (Tryd.prog.fieldsOf 88)) := by kernel_rfl
theorem tz88 : (Tryd.prog.info? 88).bind (·.zero) = some (.agg #[.string ByteArray.empty, .slice Option.none 0 0]) := by kernel_rfl
theorem tf88_0 : ((Tryd.prog.fieldsOf 88)[0]?).map (fun f => (f.offset, f.type)) = some (0, 9) := by kernel_rfl
theorem tu44 : Tryd.prog.underlying 44 = some (.struct (Tryd.prog.fieldsOf 44)) := by kernel_rfl
theorem tf44_0 : ((Tryd.prog.fieldsOf 44)[0]?).map (fun f => (f.offset, f.type)) = some (0, 42) := by kernel_rfl
theorem ts42 : (Tryd.prog.info? 42).map (·.size) = some 1 := by kernel_rfl
theorem tc54 (args : Array Value) (w : World) : (callFunc 54 args).run Tryd.prog w = .ok (.enter 54 args) w := by kernel_rfl
theorem tf88_1 : ((Tryd.prog.fieldsOf 88)[1]?).map (fun f => (f.offset, f.type)) = some (1, 22) := by kernel_rfl
theorem ts44 : (Tryd.prog.info? 44).map (·.size) = some 1 := by kernel_rfl
theorem tc22 (args : Array Value) (w : World) : (callFunc 22 args).run Tryd.prog w = .ok (.enter 22 args) w := by kernel_rfl
theorem tz44 : (Tryd.prog.info? 44).bind (·.zero) = some (.agg #[.slice Option.none 0 0]) := by kernel_rfl
theorem tb88_0_1 (x0 : ByteArray) (x1 : Value) (h1 : IsSl x1) (w : World) : (Instr.build 88 [(0, .string x0), (1, x1)].toArray).run Tryd.prog w = .ok (.agg #[.string x0, x1]) w := by obtain ⟨a1, n1, c1, rfl⟩ := h1; kernel_rfl
theorem te88 : ElemT Tryd.prog 88 2 40 (.agg #[.string ByteArray.empty, .slice Option.none 0 0]) := ⟨by kernel_rfl, by kernel_rfl, by kernel_rfl, rfl⟩
theorem tx129 (p q : ByteArray) (w : World) : (callFunc 129 #[.string p, .string q]).run Tryd.prog w = .ok (.value (.int .i64 (cmpB p q))) w := run_cmpB (fn := Tryd.f129) Tryd.func129 (by kernel_rfl) (by kernel_rfl) (by kernel_rfl) (by kernel_rfl) p q w
theorem tc121 (args : Array Value) (w : World) : (callFunc 121 args).run Tryd.prog w = .ok (.enter 121 args) w := by kernel_rfl
theorem tc103 (args : Array Value) (w : World) : (callFunc 103 args).run Tryd.prog w = .ok (.enter 103 args) w := by kernel_rfl
theorem tc101 (args : Array Value) (w : World) : (callFunc 101 args).run Tryd.prog w = .ok (.enter 101 args) w := by kernel_rfl
theorem tc102 (args : Array Value) (w : World) : (callFunc 102 args).run Tryd.prog w = .ok (.enter 102 args) w := by kernel_rfl
theorem tu151 : Tryd.prog.underlying 151 = some (.int .u64) := by kernel_rfl
theorem zr88 (g : Gh) : Rep.rep g (({ Path := ByteArray.empty, Lines := [] } : File) : File) [.string ByteArray.empty, .slice Option.none 0 0] := rep_File_mk (.nil _)
theorem tc62 (args : Array Value) (w : World) : (callFunc 62 args).run Tryd.prog w = .ok (.enter 62 args) w := by kernel_rfl
theorem tb88_0 (x0 : ByteArray) (w : World) : (Instr.build 88 [(0, .string x0)].toArray).run Tryd.prog w = .ok (.agg #[.string x0, .slice Option.none 0 0]) w := by kernel_rfl
theorem tc114 (args : Array Value) (w : World) : (callFunc 114 args).run Tryd.prog w = .ok (.enter 114 args) w := by kernel_rfl
theorem tc88 (args : Array Value) (w : World) : (callFunc 88 args).run Tryd.prog w = .ok (.enter 88 args) w := by kernel_rfl
theorem tc89 (args : Array Value) (w : World) : (callFunc 89 args).run Tryd.prog w = .ok (.enter 89 args) w := by kernel_rfl
theorem tb44_  (w : World) : (Instr.build 44 [].toArray).run Tryd.prog w = .ok (.agg #[.slice Option.none 0 0]) w := by kernel_rfl
theorem tc47 (args : Array Value) (w : World) : (callFunc 47 args).run Tryd.prog w = .ok (.enter 47 args) w := by kernel_rfl
theorem tc48 (args : Array Value) (w : World) : (callFunc 48 args).run Tryd.prog w = .ok (.enter 48 args) w := by kernel_rfl
theorem tc49 (args : Array Value) (w : World) : (callFunc 49 args).run Tryd.prog w = .ok (.enter 49 args) w := by kernel_rfl
theorem tc115 (args : Array Value) (w : World) : (callFunc 115 args).run Tryd.prog w = .ok (.enter 115 args) w := by kernel_rfl
theorem tc92 (args : Array Value) (w : World) : (callFunc 92 args).run Tryd.prog w = .ok (.enter 92 args) w := by kernel_rfl
theorem tc116 (args : Array Value) (w : World) : (callFunc 116 args).run Tryd.prog w = .ok (.enter 116 args) w := by kernel_rfl
theorem tc90 (args : Array Value) (w : World) : (callFunc 90 args).run Tryd.prog w = .ok (.enter 90 args) w := by kernel_rfl
theorem tc91 (args : Array Value) (w : World) : (callFunc 91 args).run Tryd.prog w = .ok (.enter 91 args) w := by kernel_rfl
theorem tc93 (args : Array Value) (w : World) : (callFunc 93 args).run Tryd.prog w = .ok (.enter 93 args) w := by kernel_rfl
theorem tc94 (args : Array Value) (w : World) : (callFunc 94 args).run Tryd.prog w = .ok (.enter 94 args) w := by kernel_rfl
theorem tc25 (args : Array Value) (w : World) : (callFunc 25 args).run Tryd.prog w = .ok (.enter 25 args) w := by kernel_rfl
theorem tc23 (args : Array Value) (w : World) : (callFunc 23 args).run Tryd.prog w = .ok (.enter 23 args) w := by kernel_rfl
theorem tc50 (args : Array Value) (w : World) : (callFunc 50 args).run Tryd.prog w = .ok (.enter 50 args) w := by kernel_rfl
theorem tz41 : (Tryd.prog.info? 41).bind (·.zero) = some (.agg #[.slice Option.none 0 0]) := by kernel_rfl
theorem tb44_0 (x0 : Value) (h0 : IsSl x0) (w : World) : (Instr.build 44 [(0, x0)].toArray).run Tryd.prog w = .ok (.agg #[x0]) w := by obtain ⟨a0, n0, c0, rfl⟩ := h0; kernel_rfl
theorem tc58 (args : Array Value) (w : World) : (callFunc 58 args).run Tryd.prog w = .ok (.enter 58 args) w := by kernel_rfl
theorem tc59 (args : Array Value) (w : World) : (callFunc 59 args).run Tryd.prog w = .ok (.enter 59 args) w := by kernel_rfl
theorem tc18 (args : Array Value) (w : World) : (callFunc 18 args).run Tryd.prog w = .ok (.enter 18 args) w := by kernel_rfl
theorem tc26 (args : Array Value) (w : World) : (callFunc 26 args).run Tryd.prog w = .ok (.enter 26 args) w := by kernel_rfl
theorem tc19 (args : Array Value) (w : World) : (callFunc 19 args).run Tryd.prog w = .ok (.enter 19 args) w := by kernel_rfl
theorem tc27 (args : Array Value) (w : World) : (callFunc 27 args).run Tryd.prog w = .ok (.enter 27 args) w := by kernel_rfl
theorem tc99 (args : Array Value) (w : World) : (callFunc 99 args).run Tryd.prog w = .ok (.enter 99 args) w := by kernel_rfl
theorem tb41_  (w : World) : (Instr.build 41 [].toArray).run Tryd.prog w = .ok (.agg #[.slice Option.none 0 0]) w := by kernel_rfl
theorem tc60 (args : Array Value) (w : World) : (callFunc 60 args).run Tryd.prog w = .ok (.enter 60 args) w := by kernel_rfl
theorem tc98 (args : Array Value) (w : World) : (callFunc 98 args).run Tryd.prog w = .ok (.enter 98 args) w := by kernel_rfl
theorem tc61 (args : Array Value) (w : World) : (callFunc 61 args).run Tryd.prog w = .ok (.enter 61 args) w := by kernel_rfl
theorem tc28 (args : Array Value) (w : World) : (callFunc 28 args).run Tryd.prog w = .ok (.enter 28 args) w := by kernel_rfl
theorem tu133 : Tryd.prog.underlying 133 = some (.struct (Tryd.prog.fieldsOf 133)) := by kernel_rfl
theorem tf133_1 : ((Tryd.prog.fieldsOf 133)[1]?).map (fun f => (f.offset, f.type)) = some (1, 3) := by kernel_rfl
theorem tf133_2 : ((Tryd.prog.fieldsOf 133)[2]?).map (fun f => (f.offset, f.type)) = some (2, 4) := by kernel_rfl
theorem tc122 (args : Array Value) (w : World) : (callFunc 122 args).run Tryd.prog w = .ok (.enter 122 args) w := by kernel_rfl
theorem tf133_0 : ((Tryd.prog.fieldsOf 133)[0]?).map (fun f => (f.offset, f.type)) = some (0, 23) := by kernel_rfl
theorem tb69_0 (x0 : Int) (w : World) : (Instr.build 69 [(0, .int .i64 x0)].toArray).run Tryd.prog w = .ok (.agg #[.int .i64 x0, .slice Option.none 0 0, .slice Option.none 0 0]) w := by kernel_rfl
theorem tz133 : (Tryd.prog.info? 133).bind (·.zero) = some (.agg #[.slice Option.none 0 0, .int .i64 0, .bool false]) := by kernel_rfl
theorem tc107 (args : Array Value) (w : World) : (callFunc 107 args).run Tryd.prog w = .ok (.enter 107 args) w := by kernel_rfl
theorem tc104 (args : Array Value) (w : World) : (callFunc 104 args).run Tryd.prog w = .ok (.enter 104 args) w := by kernel_rfl
theorem tc105 (args : Array Value) (w : World) : (callFunc 105 args).run Tryd.prog w = .ok (.enter 105 args) w := by kernel_rfl
theorem tc106 (args : Array Value) (w : World) : (callFunc 106 args).run Tryd.prog w = .ok (.enter 106 args) w := by kernel_rfl
theorem zr27 (g : Gh) : Rep.rep g (({ Kind := 0, Path := ByteArray.empty, To := ByteArray.empty, Lines := [], Patch := ({ Hunks := [] } : Patch) } : TreeChange) : TreeChange) [.int .i64 0, .string ByteArray.empty, .string ByteArray.empty, .slice Option.none 0 0, .slice Option.none 0 0] := rep_TreeChange_mk (.nil _) (.nil _)
theorem tc108 (args : Array Value) (w : World) : (callFunc 108 args).run Tryd.prog w = .ok (.enter 108 args) w := by kernel_rfl
theorem tu137 : Tryd.prog.underlying 137 = some (.slice 39) := by kernel_rfl
theorem te39 : ElemT Tryd.prog 39 1 24 (.slice Option.none 0 0) := ⟨by kernel_rfl, by kernel_rfl, by kernel_rfl, rfl⟩
theorem tc65 (args : Array Value) (w : World) : (callFunc 65 args).run Tryd.prog w = .ok (.enter 65 args) w := by kernel_rfl
theorem tb27_0_1_3 (x0 : Int) (x1 : ByteArray) (x3 : Value) (h3 : IsSl x3) (w : World) : (Instr.build 27 [(0, .int .i64 x0), (1, .string x1), (3, x3)].toArray).run Tryd.prog w = .ok (.agg #[.int .i64 x0, .string x1, .string ByteArray.empty, x3, .slice Option.none 0 0]) w := by obtain ⟨a3, n3, c3, rfl⟩ := h3; kernel_rfl
theorem tc64 (args : Array Value) (w : World) : (callFunc 64 args).run Tryd.prog w = .ok (.enter 64 args) w := by kernel_rfl
theorem tc29 (args : Array Value) (w : World) : (callFunc 29 args).run Tryd.prog w = .ok (.enter 29 args) w := by kernel_rfl
end Go.Dc
