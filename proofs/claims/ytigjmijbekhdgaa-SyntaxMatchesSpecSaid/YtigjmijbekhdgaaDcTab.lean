/- Closed facts of the translation. -/
import Derived.Test.YtigjmijbekhdgaaDcTy
import Derived.Test.YtigjmijbekhdgaaProg
import Derived.KernelRfl
namespace Go.Dc
open Go Go.Proofs
theorem mo : Try.prog.follows .mixedOrders = true := by kernel_rfl
theorem tx42 (s : ByteArray) (c : Int) (w : World) : (callFunc 42 #[.string s, .int .u8 c]).run Try.prog w = .ok (.value (.int .i64 (idxB s c))) w := run_idxB (fn := Try.f42) Try.func42 (by kernel_rfl) (by kernel_rfl) (by kernel_rfl) (by kernel_rfl) s c w
theorem tc40 (args : Array Value) (w : World) : (callFunc 40 args).run Try.prog w = .ok (.enter 40 args) w := by kernel_rfl
theorem tu44 : Try.prog.underlying 44 = some (.struct (Try.prog.fieldsOf 44)) := by kernel_rfl
theorem tf44_1 : ((Try.prog.fieldsOf 44)[1]?).map (fun f => (f.offset, f.type)) = some (1, 3) := by kernel_rfl
theorem ts3 : (Try.prog.info? 3).map (·.size) = some 1 := by kernel_rfl
theorem tu3 : Try.prog.underlying 3 = some (.int .i64) := by kernel_rfl
theorem tf44_0 : ((Try.prog.fieldsOf 44)[0]?).map (fun f => (f.offset, f.type)) = some (0, 9) := by kernel_rfl
theorem ts9 : (Try.prog.info? 9).map (·.size) = some 1 := by kernel_rfl
theorem tu9 : Try.prog.underlying 9 = some (.string) := by kernel_rfl
theorem tc35 (args : Array Value) (w : World) : (callFunc 35 args).run Try.prog w = .ok (.enter 35 args) w := by kernel_rfl
theorem tc22 (args : Array Value) (w : World) : (callFunc 22 args).run Try.prog w = .ok (.enter 22 args) w := by kernel_rfl
theorem tc32 (args : Array Value) (w : World) : (callFunc 32 args).run Try.prog w = .ok (.enter 32 args) w := by kernel_rfl
theorem tc33 (args : Array Value) (w : World) : (callFunc 33 args).run Try.prog w = .ok (.enter 33 args) w := by kernel_rfl
theorem tc34 (args : Array Value) (w : World) : (callFunc 34 args).run Try.prog w = .ok (.enter 34 args) w := by kernel_rfl
theorem tf44_2 : ((Try.prog.fieldsOf 44)[2]?).map (fun f => (f.offset, f.type)) = some (2, 22) := by kernel_rfl
theorem ts22 : (Try.prog.info? 22).map (·.size) = some 1 := by kernel_rfl
theorem tu22 : Try.prog.underlying 22 = some (.slice 50) := by kernel_rfl
theorem tb50_0 (x0 : ByteArray) (w : World) : (Instr.build 50 [(0, .string x0)].toArray).run Try.prog w = .ok (.agg #[.string x0, .slice Option.none 0 0]) w := by kernel_rfl
theorem te50 : ElemT Try.prog 50 2 40 (.agg #[.string ByteArray.empty, .slice Option.none 0 0]) := ⟨by kernel_rfl, by kernel_rfl, by kernel_rfl, rfl⟩
theorem tz50 : (Try.prog.info? 50).bind (·.zero) = some (.agg #[.string ByteArray.empty, .slice Option.none 0 0]) := by kernel_rfl
theorem ts50 : (Try.prog.info? 50).map (·.size) = some 2 := by kernel_rfl
theorem tu50 : Try.prog.underlying 50 = some (.struct (Try.prog.fieldsOf 50)) := by kernel_rfl
theorem tc21 (args : Array Value) (w : World) : (callFunc 21 args).run Try.prog w = .ok (.enter 21 args) w := by kernel_rfl
theorem tf50_1 : ((Try.prog.fieldsOf 50)[1]?).map (fun f => (f.offset, f.type)) = some (1, 38) := by kernel_rfl
theorem ts38 : (Try.prog.info? 38).map (·.size) = some 1 := by kernel_rfl
theorem tu38 : Try.prog.underlying 38 = some (.slice 3) := by kernel_rfl
theorem te3 : ElemT Try.prog 3 1 8 (.int .i64 0) := ⟨by kernel_rfl, by kernel_rfl, by kernel_rfl, rfl⟩
theorem tz24 : (Try.prog.info? 24).bind (·.zero) = some (.agg #[.slice Option.none 0 0]) := by kernel_rfl
theorem tz26 : (Try.prog.info? 26).bind (·.zero) = some (.agg #[.int .i64 0, .int .i64 0]) := by kernel_rfl
theorem tb24_  (w : World) : (Instr.build 24 [].toArray).run Try.prog w = .ok (.agg #[.slice Option.none 0 0]) w := by kernel_rfl
theorem tb26_0_1 (x0 : Int) (x1 : Int) (w : World) : (Instr.build 26 [(0, .int .i64 x0), (1, .int .i64 x1)].toArray).run Try.prog w = .ok (.agg #[.int .i64 x0, .int .i64 x1]) w := by kernel_rfl
theorem ts24 : (Try.prog.info? 24).map (·.size) = some 1 := by kernel_rfl
theorem ts26 : (Try.prog.info? 26).map (·.size) = some 2 := by kernel_rfl
theorem tu26 : Try.prog.underlying 26 = some (.struct (Try.prog.fieldsOf 26)) := by kernel_rfl
theorem tu24 : Try.prog.underlying 24 = some (.struct (Try.prog.fieldsOf 24)) := by kernel_rfl
theorem tb44_0 (x0 : ByteArray) (w : World) : (Instr.build 44 [(0, .string x0)].toArray).run Try.prog w = .ok (.agg #[.string x0, .int .i64 0, .slice Option.none 0 0]) w := by kernel_rfl
theorem tz44 : (Try.prog.info? 44).bind (·.zero) = some (.agg #[.string ByteArray.empty, .int .i64 0, .slice Option.none 0 0]) := by kernel_rfl
theorem ts44 : (Try.prog.info? 44).map (·.size) = some 3 := by kernel_rfl
theorem tb24_0 (x0 : Value) (h0 : IsSl x0) (w : World) : (Instr.build 24 [(0, x0)].toArray).run Try.prog w = .ok (.agg #[x0]) w := by obtain ⟨a0, n0, c0, rfl⟩ := h0; kernel_rfl
theorem tb26_  (w : World) : (Instr.build 26 [].toArray).run Try.prog w = .ok (.agg #[.int .i64 0, .int .i64 0]) w := by kernel_rfl
theorem tc23 (args : Array Value) (w : World) : (callFunc 23 args).run Try.prog w = .ok (.enter 23 args) w := by kernel_rfl
theorem tf24_0 : ((Try.prog.fieldsOf 24)[0]?).map (fun f => (f.offset, f.type)) = some (0, 22) := by kernel_rfl
theorem tu47 : Try.prog.underlying 47 = some (.slice 9) := by kernel_rfl
theorem tu48 : Try.prog.underlying 48 = some (.slice 38) := by kernel_rfl
theorem tb50_0_1 (x0 : ByteArray) (x1 : Value) (h1 : IsSl x1) (w : World) : (Instr.build 50 [(0, .string x0), (1, x1)].toArray).run Try.prog w = .ok (.agg #[.string x0, x1]) w := by obtain ⟨a1, n1, c1, rfl⟩ := h1; kernel_rfl
theorem te9 : ElemT Try.prog 9 1 16 (.string ByteArray.empty) := ⟨by kernel_rfl, by kernel_rfl, by kernel_rfl, rfl⟩
theorem te38 : ElemT Try.prog 38 1 24 (.slice Option.none 0 0) := ⟨by kernel_rfl, by kernel_rfl, by kernel_rfl, rfl⟩
theorem tz4 : (Try.prog.info? 4).bind (·.zero) = some (.bool false) := by kernel_rfl
theorem tu68 : Try.prog.underlying 68 = some (.pointer 53) := by kernel_rfl
theorem tu53 : Try.prog.underlying 53 = some (.struct (Try.prog.fieldsOf 53)) := by kernel_rfl
theorem tf53_0 : ((Try.prog.fieldsOf 53)[0]?).map (fun f => (f.offset, f.type)) = some (0, 38) := by kernel_rfl
theorem tz3 : (Try.prog.info? 3).bind (·.zero) = some (.int .i64 0) := by kernel_rfl
theorem tc36 (args : Array Value) (w : World) : (callFunc 36 args).run Try.prog w = .ok (.enter 36 args) w := by kernel_rfl
theorem tc41 (args : Array Value) (w : World) : (callFunc 41 args).run Try.prog w = .ok (.enter 41 args) w := by kernel_rfl
theorem tf53_1 : ((Try.prog.fieldsOf 53)[1]?).map (fun f => (f.offset, f.type)) = some (1, 38) := by kernel_rfl
theorem ts4 : (Try.prog.info? 4).map (·.size) = some 1 := by kernel_rfl
theorem tu4 : Try.prog.underlying 4 = some (.bool) := by kernel_rfl
theorem tz53 : (Try.prog.info? 53).bind (·.zero) = some (.agg #[.slice Option.none 0 0, .slice Option.none 0 0]) := by kernel_rfl
theorem tf50_0 : ((Try.prog.fieldsOf 50)[0]?).map (fun f => (f.offset, f.type)) = some (0, 9) := by kernel_rfl
theorem tc27 (args : Array Value) (w : World) : (callFunc 27 args).run Try.prog w = .ok (.enter 27 args) w := by kernel_rfl
theorem tc28 (args : Array Value) (w : World) : (callFunc 28 args).run Try.prog w = .ok (.enter 28 args) w := by kernel_rfl
theorem tc14 (args : Array Value) (w : World) : (callFunc 14 args).run Try.prog w = .ok (.enter 14 args) w := by kernel_rfl
theorem tqa26 : Try.prog.stoodInHeld 26 = false := by kernel_rfl
theorem tqb26 : Try.prog.eqGuardType Try.prog.depth 26 = false := by kernel_rfl
theorem tqc26 : (Try.prog.fieldsOf 26).toList.map (fun f => (f.name, f.type, f.offset)) = [("Code", 3, 0), ("Index", 3, 1)] := by kernel_rfl
theorem tc25 (args : Array Value) (w : World) : (callFunc 25 args).run Try.prog w = .ok (.enter 25 args) w := by kernel_rfl
theorem tc26 (args : Array Value) (w : World) : (callFunc 26 args).run Try.prog w = .ok (.enter 26 args) w := by kernel_rfl
theorem tc24 (args : Array Value) (w : World) : (callFunc 24 args).run Try.prog w = .ok (.enter 24 args) w := by kernel_rfl
theorem tc20 (args : Array Value) (w : World) : (callFunc 20 args).run Try.prog w = .ok (.enter 20 args) w := by kernel_rfl
theorem tc10 (args : Array Value) (w : World) : (callFunc 10 args).run Try.prog w = .ok (.enter 10 args) w := by kernel_rfl
theorem tc12 (args : Array Value) (w : World) : (callFunc 12 args).run Try.prog w = .ok (.enter 12 args) w := by kernel_rfl
theorem tf26_0 : ((Try.prog.fieldsOf 26)[0]?).map (fun f => (f.offset, f.type)) = some (0, 3) := by kernel_rfl
theorem tc29 (args : Array Value) (w : World) : (callFunc 29 args).run Try.prog w = .ok (.enter 29 args) w := by kernel_rfl
theorem tc15 (args : Array Value) (w : World) : (callFunc 15 args).run Try.prog w = .ok (.enter 15 args) w := by kernel_rfl
theorem tc17 (args : Array Value) (w : World) : (callFunc 17 args).run Try.prog w = .ok (.enter 17 args) w := by kernel_rfl
theorem tc11 (args : Array Value) (w : World) : (callFunc 11 args).run Try.prog w = .ok (.enter 11 args) w := by kernel_rfl
theorem tc13 (args : Array Value) (w : World) : (callFunc 13 args).run Try.prog w = .ok (.enter 13 args) w := by kernel_rfl
theorem tc16 (args : Array Value) (w : World) : (callFunc 16 args).run Try.prog w = .ok (.enter 16 args) w := by kernel_rfl
theorem tc37 (args : Array Value) (w : World) : (callFunc 37 args).run Try.prog w = .ok (.enter 37 args) w := by kernel_rfl
theorem tu58 : Try.prog.underlying 58 = some (.struct (Try.prog.fieldsOf 58)) := by kernel_rfl
theorem tf58_3 : ((Try.prog.fieldsOf 58)[3]?).map (fun f => (f.offset, f.type)) = some (3, 22) := by kernel_rfl
theorem tc38 (args : Array Value) (w : World) : (callFunc 38 args).run Try.prog w = .ok (.enter 38 args) w := by kernel_rfl
theorem tf58_0 : ((Try.prog.fieldsOf 58)[0]?).map (fun f => (f.offset, f.type)) = some (0, 24) := by kernel_rfl
theorem tf58_1 : ((Try.prog.fieldsOf 58)[1]?).map (fun f => (f.offset, f.type)) = some (1, 24) := by kernel_rfl
theorem tf58_2 : ((Try.prog.fieldsOf 58)[2]?).map (fun f => (f.offset, f.type)) = some (2, 24) := by kernel_rfl
theorem tc30 (args : Array Value) (w : World) : (callFunc 30 args).run Try.prog w = .ok (.enter 30 args) w := by kernel_rfl
theorem tf58_4 : ((Try.prog.fieldsOf 58)[4]?).map (fun f => (f.offset, f.type)) = some (4, 38) := by kernel_rfl
theorem tb58_0_1_2 (x0 : Value) (h0 : IsSl x0) (x1 : Value) (h1 : IsSl x1) (x2 : Value) (h2 : IsSl x2) (w : World) : (Instr.build 58 [(0, .agg #[x0]), (1, .agg #[x1]), (2, .agg #[x2])].toArray).run Try.prog w = .ok (.agg #[x0, x1, x2, .slice Option.none 0 0, .slice Option.none 0 0]) w := by obtain ⟨a0, n0, c0, rfl⟩ := h0; obtain ⟨a1, n1, c1, rfl⟩ := h1; obtain ⟨a2, n2, c2, rfl⟩ := h2; kernel_rfl
theorem tz58 : (Try.prog.info? 58).bind (·.zero) = some (.agg #[.slice Option.none 0 0, .slice Option.none 0 0, .slice Option.none 0 0, .slice Option.none 0 0, .slice Option.none 0 0]) := by kernel_rfl
theorem ts58 : (Try.prog.info? 58).map (·.size) = some 5 := by kernel_rfl
theorem tu56 : Try.prog.underlying 56 = some (.slice 24) := by kernel_rfl
theorem te24 : ElemT Try.prog 24 1 24 (.agg #[.slice Option.none 0 0]) := ⟨by kernel_rfl, by kernel_rfl, by kernel_rfl, rfl⟩
theorem tf26_1 : ((Try.prog.fieldsOf 26)[1]?).map (fun f => (f.offset, f.type)) = some (1, 3) := by kernel_rfl
theorem tz61 : (Try.prog.info? 61).bind (·.zero) = some (.agg #[.slice Option.none 0 0, .slice Option.none 0 0]) := by kernel_rfl
theorem tu61 : Try.prog.underlying 61 = some (.struct (Try.prog.fieldsOf 61)) := by kernel_rfl
theorem tf61_0 : ((Try.prog.fieldsOf 61)[0]?).map (fun f => (f.offset, f.type)) = some (0, 22) := by kernel_rfl
theorem ts61 : (Try.prog.info? 61).map (·.size) = some 2 := by kernel_rfl
theorem tc39 (args : Array Value) (w : World) : (callFunc 39 args).run Try.prog w = .ok (.enter 39 args) w := by kernel_rfl
theorem tf61_1 : ((Try.prog.fieldsOf 61)[1]?).map (fun f => (f.offset, f.type)) = some (1, 38) := by kernel_rfl
theorem tc31 (args : Array Value) (w : World) : (callFunc 31 args).run Try.prog w = .ok (.enter 31 args) w := by kernel_rfl
theorem tb61_  (w : World) : (Instr.build 61 [].toArray).run Try.prog w = .ok (.agg #[.slice Option.none 0 0, .slice Option.none 0 0]) w := by kernel_rfl
theorem tc18 (args : Array Value) (w : World) : (callFunc 18 args).run Try.prog w = .ok (.enter 18 args) w := by kernel_rfl
theorem tc19 (args : Array Value) (w : World) : (callFunc 19 args).run Try.prog w = .ok (.enter 19 args) w := by kernel_rfl
end Go.Dc
