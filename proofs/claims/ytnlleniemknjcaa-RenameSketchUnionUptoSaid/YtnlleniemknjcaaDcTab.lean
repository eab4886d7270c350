/- Closed facts of the translation. -/
import Derived.Test.YtnlleniemknjcaaDcTy
import Derived.Test.YtnlleniemknjcaaProg
import Derived.KernelRfl
namespace Go.Dc
open Go Go.Proofs
theorem mo : Try.prog.follows .mixedOrders = true := by kernel_rfl
theorem tx51 (s : ByteArray) (c : Int) (w : World) : (callFunc 51 #[.string s, .int .u8 c]).run Try.prog w = .ok (.value (.int .i64 (idxB s c))) w := run_idxB (fn := Try.f51) Try.func51 (by kernel_rfl) (by kernel_rfl) (by kernel_rfl) (by kernel_rfl) s c w
theorem tc49 (args : Array Value) (w : World) : (callFunc 49 args).run Try.prog w = .ok (.enter 49 args) w := by kernel_rfl
theorem tz25 : (Try.prog.info? 25).bind (·.zero) = some (.agg #[.int .i64 0, .int .i64 0]) := by kernel_rfl
theorem tu31 : Try.prog.underlying 31 = some (.slice 9) := by kernel_rfl
theorem tb25_0_1 (x0 : Int) (x1 : Int) (w : World) : (Instr.build 25 [(0, .int .i64 x0), (1, .int .i64 x1)].toArray).run Try.prog w = .ok (.agg #[.int .i64 x0, .int .i64 x1]) w := by kernel_rfl
theorem ts25 : (Try.prog.info? 25).map (·.size) = some 2 := by kernel_rfl
theorem tu25 : Try.prog.underlying 25 = some (.struct (Try.prog.fieldsOf 25)) := by kernel_rfl
theorem tb25_  (w : World) : (Instr.build 25 [].toArray).run Try.prog w = .ok (.agg #[.int .i64 0, .int .i64 0]) w := by kernel_rfl
theorem ts9 : (Try.prog.info? 9).map (·.size) = some 1 := by kernel_rfl
theorem tu9 : Try.prog.underlying 9 = some (.string) := by kernel_rfl
theorem tc42 (args : Array Value) (w : World) : (callFunc 42 args).run Try.prog w = .ok (.enter 42 args) w := by kernel_rfl
theorem tc33 (args : Array Value) (w : World) : (callFunc 33 args).run Try.prog w = .ok (.enter 33 args) w := by kernel_rfl
theorem tqa25 : Try.prog.stoodInHeld 25 = false := by kernel_rfl
theorem tqb25 : Try.prog.eqGuardType Try.prog.depth 25 = false := by kernel_rfl
theorem tqc25 : (Try.prog.fieldsOf 25).toList.map (fun f => (f.name, f.type, f.offset)) = [("Code", 3, 0), ("Index", 3, 1)] := by kernel_rfl
theorem tu3 : Try.prog.underlying 3 = some (.int .i64) := by kernel_rfl
theorem tf25_0 : ((Try.prog.fieldsOf 25)[0]?).map (fun f => (f.offset, f.type)) = some (0, 3) := by kernel_rfl
theorem ts3 : (Try.prog.info? 3).map (·.size) = some 1 := by kernel_rfl
theorem tu23 : Try.prog.underlying 23 = some (.slice 3) := by kernel_rfl
theorem tz3 : (Try.prog.info? 3).bind (·.zero) = some (.int .i64 0) := by kernel_rfl
theorem te3 : ElemT Try.prog 3 1 8 (.int .i64 0) := ⟨by kernel_rfl, by kernel_rfl, by kernel_rfl, rfl⟩
theorem tz23 : (Try.prog.info? 23).bind (·.zero) = some (.slice Option.none 0 0) := by kernel_rfl
theorem ts23 : (Try.prog.info? 23).map (·.size) = some 1 := by kernel_rfl
theorem tc39 (args : Array Value) (w : World) : (callFunc 39 args).run Try.prog w = .ok (.enter 39 args) w := by kernel_rfl
theorem tu22 : Try.prog.underlying 22 = some (.slice 31) := by kernel_rfl
theorem ts31 : (Try.prog.info? 31).map (·.size) = some 1 := by kernel_rfl
theorem tc24 (args : Array Value) (w : World) : (callFunc 24 args).run Try.prog w = .ok (.enter 24 args) w := by kernel_rfl
theorem tc23 (args : Array Value) (w : World) : (callFunc 23 args).run Try.prog w = .ok (.enter 23 args) w := by kernel_rfl
theorem te9 : ElemT Try.prog 9 1 16 (.string ByteArray.empty) := ⟨by kernel_rfl, by kernel_rfl, by kernel_rfl, rfl⟩
theorem te31 : ElemT Try.prog 31 1 24 (.slice Option.none 0 0) := ⟨by kernel_rfl, by kernel_rfl, by kernel_rfl, rfl⟩
theorem tc10 (args : Array Value) (w : World) : (callFunc 10 args).run Try.prog w = .ok (.enter 10 args) w := by kernel_rfl
theorem tc14 (args : Array Value) (w : World) : (callFunc 14 args).run Try.prog w = .ok (.enter 14 args) w := by kernel_rfl
theorem tc11 (args : Array Value) (w : World) : (callFunc 11 args).run Try.prog w = .ok (.enter 11 args) w := by kernel_rfl
theorem tc25 (args : Array Value) (w : World) : (callFunc 25 args).run Try.prog w = .ok (.enter 25 args) w := by kernel_rfl
theorem tu70 : Try.prog.underlying 70 = some (.slice 23) := by kernel_rfl
theorem te23 : ElemT Try.prog 23 1 24 (.slice Option.none 0 0) := ⟨by kernel_rfl, by kernel_rfl, by kernel_rfl, rfl⟩
theorem tc40 (args : Array Value) (w : World) : (callFunc 40 args).run Try.prog w = .ok (.enter 40 args) w := by kernel_rfl
theorem tb55_0_1 (x0 : Int) (x1 : ByteArray) (w : World) : (Instr.build 55 [(0, .int .i64 x0), (1, .string x1)].toArray).run Try.prog w = .ok (.agg #[.int .i64 x0, .string x1]) w := by kernel_rfl
theorem tu52 : Try.prog.underlying 52 = some (.slice 55) := by kernel_rfl
theorem te55 : ElemT Try.prog 55 2 24 (.agg #[.int .i64 0, .string ByteArray.empty]) := ⟨by kernel_rfl, by kernel_rfl, by kernel_rfl, rfl⟩
theorem tc26 (args : Array Value) (w : World) : (callFunc 26 args).run Try.prog w = .ok (.enter 26 args) w := by kernel_rfl
theorem ts55 : (Try.prog.info? 55).map (·.size) = some 2 := by kernel_rfl
theorem tu55 : Try.prog.underlying 55 = some (.struct (Try.prog.fieldsOf 55)) := by kernel_rfl
theorem tf55_0 : ((Try.prog.fieldsOf 55)[0]?).map (fun f => (f.offset, f.type)) = some (0, 3) := by kernel_rfl
theorem tc12 (args : Array Value) (w : World) : (callFunc 12 args).run Try.prog w = .ok (.enter 12 args) w := by kernel_rfl
theorem tc15 (args : Array Value) (w : World) : (callFunc 15 args).run Try.prog w = .ok (.enter 15 args) w := by kernel_rfl
theorem tc13 (args : Array Value) (w : World) : (callFunc 13 args).run Try.prog w = .ok (.enter 13 args) w := by kernel_rfl
theorem tc16 (args : Array Value) (w : World) : (callFunc 16 args).run Try.prog w = .ok (.enter 16 args) w := by kernel_rfl
theorem tc28 (args : Array Value) (w : World) : (callFunc 28 args).run Try.prog w = .ok (.enter 28 args) w := by kernel_rfl
theorem tc27 (args : Array Value) (w : World) : (callFunc 27 args).run Try.prog w = .ok (.enter 27 args) w := by kernel_rfl
theorem tc17 (args : Array Value) (w : World) : (callFunc 17 args).run Try.prog w = .ok (.enter 17 args) w := by kernel_rfl
theorem tc18 (args : Array Value) (w : World) : (callFunc 18 args).run Try.prog w = .ok (.enter 18 args) w := by kernel_rfl
theorem tc19 (args : Array Value) (w : World) : (callFunc 19 args).run Try.prog w = .ok (.enter 19 args) w := by kernel_rfl
theorem tu4 : Try.prog.underlying 4 = some (.bool) := by kernel_rfl
theorem tz40 : (Try.prog.info? 40).bind (·.zero) = some (.agg #[.slice Option.none 0 0]) := by kernel_rfl
theorem tb40_  (w : World) : (Instr.build 40 [].toArray).run Try.prog w = .ok (.agg #[.slice Option.none 0 0]) w := by kernel_rfl
theorem ts40 : (Try.prog.info? 40).map (·.size) = some 1 := by kernel_rfl
theorem tu40 : Try.prog.underlying 40 = some (.struct (Try.prog.fieldsOf 40)) := by kernel_rfl
theorem tz58 : (Try.prog.info? 58).bind (·.zero) = some (.agg #[.slice Option.none 0 0, .int .i64 0, .bool false]) := by kernel_rfl
theorem tc32 (args : Array Value) (w : World) : (callFunc 32 args).run Try.prog w = .ok (.enter 32 args) w := by kernel_rfl
theorem tu58 : Try.prog.underlying 58 = some (.struct (Try.prog.fieldsOf 58)) := by kernel_rfl
theorem tf58_0 : ((Try.prog.fieldsOf 58)[0]?).map (fun f => (f.offset, f.type)) = some (0, 38) := by kernel_rfl
theorem ts38 : (Try.prog.info? 38).map (·.size) = some 1 := by kernel_rfl
theorem tu38 : Try.prog.underlying 38 = some (.slice 44) := by kernel_rfl
theorem tb40_0 (x0 : Value) (h0 : IsSl x0) (w : World) : (Instr.build 40 [(0, x0)].toArray).run Try.prog w = .ok (.agg #[x0]) w := by obtain ⟨a0, n0, c0, rfl⟩ := h0; kernel_rfl
theorem tc29 (args : Array Value) (w : World) : (callFunc 29 args).run Try.prog w = .ok (.enter 29 args) w := by kernel_rfl
theorem tf58_1 : ((Try.prog.fieldsOf 58)[1]?).map (fun f => (f.offset, f.type)) = some (1, 3) := by kernel_rfl
theorem tf58_2 : ((Try.prog.fieldsOf 58)[2]?).map (fun f => (f.offset, f.type)) = some (2, 4) := by kernel_rfl
theorem ts4 : (Try.prog.info? 4).map (·.size) = some 1 := by kernel_rfl
theorem tc30 (args : Array Value) (w : World) : (callFunc 30 args).run Try.prog w = .ok (.enter 30 args) w := by kernel_rfl
theorem tc41 (args : Array Value) (w : World) : (callFunc 41 args).run Try.prog w = .ok (.enter 41 args) w := by kernel_rfl
theorem ts44 : (Try.prog.info? 44).map (·.size) = some 3 := by kernel_rfl
theorem tu44 : Try.prog.underlying 44 = some (.struct (Try.prog.fieldsOf 44)) := by kernel_rfl
theorem tf44_1 : ((Try.prog.fieldsOf 44)[1]?).map (fun f => (f.offset, f.type)) = some (1, 31) := by kernel_rfl
theorem tb44_0 (x0 : Int) (w : World) : (Instr.build 44 [(0, .int .i64 x0)].toArray).run Try.prog w = .ok (.agg #[.int .i64 x0, .slice Option.none 0 0, .slice Option.none 0 0]) w := by kernel_rfl
theorem te44 : ElemT Try.prog 44 3 56 (.agg #[.int .i64 0, .slice Option.none 0 0, .slice Option.none 0 0]) := ⟨by kernel_rfl, by kernel_rfl, by kernel_rfl, rfl⟩
theorem tc31 (args : Array Value) (w : World) : (callFunc 31 args).run Try.prog w = .ok (.enter 31 args) w := by kernel_rfl
theorem tf44_2 : ((Try.prog.fieldsOf 44)[2]?).map (fun f => (f.offset, f.type)) = some (2, 31) := by kernel_rfl
theorem tc20 (args : Array Value) (w : World) : (callFunc 20 args).run Try.prog w = .ok (.enter 20 args) w := by kernel_rfl
theorem tf40_0 : ((Try.prog.fieldsOf 40)[0]?).map (fun f => (f.offset, f.type)) = some (0, 38) := by kernel_rfl
theorem tu78 : Try.prog.underlying 78 = some (.array 2 3) := by kernel_rfl
theorem tc50 (args : Array Value) (w : World) : (callFunc 50 args).run Try.prog w = .ok (.enter 50 args) w := by kernel_rfl
theorem tu64 : Try.prog.underlying 64 = some (.slice 5) := by kernel_rfl
theorem tb25_0 (x0 : Int) (w : World) : (Instr.build 25 [(0, .int .i64 x0)].toArray).run Try.prog w = .ok (.agg #[.int .i64 x0, .int .i64 0]) w := by kernel_rfl
theorem ts5 : (Try.prog.info? 5).map (·.size) = some 1 := by kernel_rfl
theorem tu5 : Try.prog.underlying 5 = some (.int .u8) := by kernel_rfl
theorem tb78_0_1 (x0 : Int) (x1 : Int) (w : World) : (Instr.build 78 [(0, .int .i64 x0), (1, .int .i64 x1)].toArray).run Try.prog w = .ok (.agg #[.int .i64 x0, .int .i64 x1]) w := by kernel_rfl
theorem tc43 (args : Array Value) (w : World) : (callFunc 43 args).run Try.prog w = .ok (.enter 43 args) w := by kernel_rfl
theorem tc45 (args : Array Value) (w : World) : (callFunc 45 args).run Try.prog w = .ok (.enter 45 args) w := by kernel_rfl
theorem tb77_0_1 (x0 : Int) (x1 : Int) (w : World) : (Instr.build 77 [(0, .int .i64 x0), (1, .int .i64 x1)].toArray).run Try.prog w = .ok (.agg #[.int .i64 x0, .int .i64 x1]) w := by kernel_rfl
theorem tu77 : Try.prog.underlying 77 = some (.array 2 3) := by kernel_rfl
theorem tc44 (args : Array Value) (w : World) : (callFunc 44 args).run Try.prog w = .ok (.enter 44 args) w := by kernel_rfl
theorem tz62 : (Try.prog.info? 62).bind (·.zero) = some (.agg #[.int .i64 0, .int .i64 0, .int .i64 0, .int .i64 0, .int .i64 0, .int .i64 0, .int .i64 0, .int .i64 0]) := by kernel_rfl
theorem tu62 : Try.prog.underlying 62 = some (.array 8 3) := by kernel_rfl
theorem tc34 (args : Array Value) (w : World) : (callFunc 34 args).run Try.prog w = .ok (.enter 34 args) w := by kernel_rfl
theorem tc35 (args : Array Value) (w : World) : (callFunc 35 args).run Try.prog w = .ok (.enter 35 args) w := by kernel_rfl
theorem tc21 (args : Array Value) (w : World) : (callFunc 21 args).run Try.prog w = .ok (.enter 21 args) w := by kernel_rfl
theorem tf44_0 : ((Try.prog.fieldsOf 44)[0]?).map (fun f => (f.offset, f.type)) = some (0, 3) := by kernel_rfl
theorem tc47 (args : Array Value) (w : World) : (callFunc 47 args).run Try.prog w = .ok (.enter 47 args) w := by kernel_rfl
theorem tb82_0_1 (x0 : Value) (h0 : IsSl x0) (x1 : Value) (h1 : IsSl x1) (w : World) : (Instr.build 82 [(0, x0), (1, x1)].toArray).run Try.prog w = .ok (.agg #[x0, x1]) w := by obtain ⟨a0, n0, c0, rfl⟩ := h0; obtain ⟨a1, n1, c1, rfl⟩ := h1; kernel_rfl
theorem tu82 : Try.prog.underlying 82 = some (.array 2 31) := by kernel_rfl
theorem tz44 : (Try.prog.info? 44).bind (·.zero) = some (.agg #[.int .i64 0, .slice Option.none 0 0, .slice Option.none 0 0]) := by kernel_rfl
theorem tc46 (args : Array Value) (w : World) : (callFunc 46 args).run Try.prog w = .ok (.enter 46 args) w := by kernel_rfl
theorem tc48 (args : Array Value) (w : World) : (callFunc 48 args).run Try.prog w = .ok (.enter 48 args) w := by kernel_rfl
theorem tc36 (args : Array Value) (w : World) : (callFunc 36 args).run Try.prog w = .ok (.enter 36 args) w := by kernel_rfl
theorem tc38 (args : Array Value) (w : World) : (callFunc 38 args).run Try.prog w = .ok (.enter 38 args) w := by kernel_rfl
theorem tc37 (args : Array Value) (w : World) : (callFunc 37 args).run Try.prog w = .ok (.enter 37 args) w := by kernel_rfl
theorem tc22 (args : Array Value) (w : World) : (callFunc 22 args).run Try.prog w = .ok (.enter 22 args) w := by kernel_rfl
end Go.Dc
