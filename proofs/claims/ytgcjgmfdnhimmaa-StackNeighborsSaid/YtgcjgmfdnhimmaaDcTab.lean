/- Closed facts of the translation. -/
import Derived.Test.YtgcjgmfdnhimmaaDcTy
import Derived.Test.YtgcjgmfdnhimmaaProg
import Derived.KernelRfl
namespace Go.Dc
open Go Go.Proofs
theorem mo : Try.prog.follows .mixedOrders = true := by kernel_rfl
theorem tu60 : Try.prog.underlying 60 = some (.struct (Try.prog.fieldsOf 60)) := by kernel_rfl
theorem tf60_0 : ((Try.prog.fieldsOf 60)[0]?).map (fun f => (f.offset, f.type)) = some (0, 3) := by kernel_rfl
theorem ts3 : (Try.prog.info? 3).map (·.size) = some 1 := by kernel_rfl
theorem tu3 : Try.prog.underlying 3 = some (.int .i64) := by kernel_rfl
theorem tf60_1 : ((Try.prog.fieldsOf 60)[1]?).map (fun f => (f.offset, f.type)) = some (1, 31) := by kernel_rfl
theorem ts31 : (Try.prog.info? 31).map (·.size) = some 1 := by kernel_rfl
theorem tu31 : Try.prog.underlying 31 = some (.slice 9) := by kernel_rfl
theorem tx76 (s : ByteArray) (c : Int) (w : World) : (callFunc 76 #[.string s, .int .u8 c]).run Try.prog w = .ok (.value (.int .i64 (idxB s c))) w := run_idxB (fn := Try.f76) Try.func76 (by kernel_rfl) (by kernel_rfl) (by kernel_rfl) (by kernel_rfl) s c w
theorem tc74 (args : Array Value) (w : World) : (callFunc 74 args).run Try.prog w = .ok (.enter 74 args) w := by kernel_rfl
theorem tz24 : (Try.prog.info? 24).bind (·.zero) = some (.agg #[.int .i64 0, .int .i64 0]) := by kernel_rfl
theorem tb24_0_1 (x0 : Int) (x1 : Int) (w : World) : (Instr.build 24 [(0, .int .i64 x0), (1, .int .i64 x1)].toArray).run Try.prog w = .ok (.agg #[.int .i64 x0, .int .i64 x1]) w := by kernel_rfl
theorem ts24 : (Try.prog.info? 24).map (·.size) = some 2 := by kernel_rfl
theorem tu24 : Try.prog.underlying 24 = some (.struct (Try.prog.fieldsOf 24)) := by kernel_rfl
theorem tb24_  (w : World) : (Instr.build 24 [].toArray).run Try.prog w = .ok (.agg #[.int .i64 0, .int .i64 0]) w := by kernel_rfl
theorem ts9 : (Try.prog.info? 9).map (·.size) = some 1 := by kernel_rfl
theorem tu9 : Try.prog.underlying 9 = some (.string) := by kernel_rfl
theorem tc65 (args : Array Value) (w : World) : (callFunc 65 args).run Try.prog w = .ok (.enter 65 args) w := by kernel_rfl
theorem tf60_2 : ((Try.prog.fieldsOf 60)[2]?).map (fun f => (f.offset, f.type)) = some (2, 31) := by kernel_rfl
theorem ts60 : (Try.prog.info? 60).map (·.size) = some 3 := by kernel_rfl
theorem tc51 (args : Array Value) (w : World) : (callFunc 51 args).run Try.prog w = .ok (.enter 51 args) w := by kernel_rfl
theorem tb88_0_1 (x0 : Value) (h0 : IsSl x0) (x1 : Value) (h1 : IsSl x1) (w : World) : (Instr.build 88 [(0, x0), (1, x1)].toArray).run Try.prog w = .ok (.agg #[x0, x1]) w := by obtain ⟨a0, n0, c0, rfl⟩ := h0; obtain ⟨a1, n1, c1, rfl⟩ := h1; kernel_rfl
theorem tu88 : Try.prog.underlying 88 = some (.array 2 31) := by kernel_rfl
theorem tc48 (args : Array Value) (w : World) : (callFunc 48 args).run Try.prog w = .ok (.enter 48 args) w := by kernel_rfl
theorem tqa24 : Try.prog.stoodInHeld 24 = false := by kernel_rfl
theorem tqb24 : Try.prog.eqGuardType Try.prog.depth 24 = false := by kernel_rfl
theorem tqc24 : (Try.prog.fieldsOf 24).toList.map (fun f => (f.name, f.type, f.offset)) = [("Code", 3, 0), ("Index", 3, 1)] := by kernel_rfl
theorem tf24_0 : ((Try.prog.fieldsOf 24)[0]?).map (fun f => (f.offset, f.type)) = some (0, 3) := by kernel_rfl
theorem tu38 : Try.prog.underlying 38 = some (.struct (Try.prog.fieldsOf 38)) := by kernel_rfl
theorem tf38_0 : ((Try.prog.fieldsOf 38)[0]?).map (fun f => (f.offset, f.type)) = some (0, 36) := by kernel_rfl
theorem ts36 : (Try.prog.info? 36).map (·.size) = some 1 := by kernel_rfl
theorem tu36 : Try.prog.underlying 36 = some (.slice 60) := by kernel_rfl
theorem tz60 : (Try.prog.info? 60).bind (·.zero) = some (.agg #[.int .i64 0, .slice Option.none 0 0, .slice Option.none 0 0]) := by kernel_rfl
theorem tc53 (args : Array Value) (w : World) : (callFunc 53 args).run Try.prog w = .ok (.enter 53 args) w := by kernel_rfl
theorem ts38 : (Try.prog.info? 38).map (·.size) = some 1 := by kernel_rfl
theorem tc37 (args : Array Value) (w : World) : (callFunc 37 args).run Try.prog w = .ok (.enter 37 args) w := by kernel_rfl
theorem tu22 : Try.prog.underlying 22 = some (.slice 38) := by kernel_rfl
theorem tz38 : (Try.prog.info? 38).bind (·.zero) = some (.agg #[.slice Option.none 0 0]) := by kernel_rfl
theorem tc45 (args : Array Value) (w : World) : (callFunc 45 args).run Try.prog w = .ok (.enter 45 args) w := by kernel_rfl
theorem tc49 (args : Array Value) (w : World) : (callFunc 49 args).run Try.prog w = .ok (.enter 49 args) w := by kernel_rfl
theorem tb70_0_1_2 (x0 : Int) (x1 : Int) (x2 : Int) (w : World) : (Instr.build 70 [(0, .int .i64 x0), (1, .int .i64 x1), (2, .int .i64 x2)].toArray).run Try.prog w = .ok (.agg #[.int .i64 x0, .int .i64 x1, .int .i64 x2]) w := by kernel_rfl
theorem tu52 : Try.prog.underlying 52 = some (.slice 70) := by kernel_rfl
theorem te70 : ElemT Try.prog 70 3 24 (.agg #[.int .i64 0, .int .i64 0, .int .i64 0]) := ⟨by kernel_rfl, by kernel_rfl, by kernel_rfl, rfl⟩
theorem tu70 : Try.prog.underlying 70 = some (.struct (Try.prog.fieldsOf 70)) := by kernel_rfl
theorem tf70_1 : ((Try.prog.fieldsOf 70)[1]?).map (fun f => (f.offset, f.type)) = some (1, 3) := by kernel_rfl
theorem tf70_0 : ((Try.prog.fieldsOf 70)[0]?).map (fun f => (f.offset, f.type)) = some (0, 3) := by kernel_rfl
theorem ts70 : (Try.prog.info? 70).map (·.size) = some 3 := by kernel_rfl
theorem tz70 : (Try.prog.info? 70).bind (·.zero) = some (.agg #[.int .i64 0, .int .i64 0, .int .i64 0]) := by kernel_rfl
theorem tc50 (args : Array Value) (w : World) : (callFunc 50 args).run Try.prog w = .ok (.enter 50 args) w := by kernel_rfl
theorem tb38_  (w : World) : (Instr.build 38 [].toArray).run Try.prog w = .ok (.agg #[.slice Option.none 0 0]) w := by kernel_rfl
theorem te9 : ElemT Try.prog 9 1 16 (.string ByteArray.empty) := ⟨by kernel_rfl, by kernel_rfl, by kernel_rfl, rfl⟩
theorem tc66 (args : Array Value) (w : World) : (callFunc 66 args).run Try.prog w = .ok (.enter 66 args) w := by kernel_rfl
theorem tb60_0_1_2 (x0 : Int) (x1 : Value) (h1 : IsSl x1) (x2 : Value) (h2 : IsSl x2) (w : World) : (Instr.build 60 [(0, .int .i64 x0), (1, x1), (2, x2)].toArray).run Try.prog w = .ok (.agg #[.int .i64 x0, x1, x2]) w := by obtain ⟨a1, n1, c1, rfl⟩ := h1; obtain ⟨a2, n2, c2, rfl⟩ := h2; kernel_rfl
theorem te60 : ElemT Try.prog 60 3 56 (.agg #[.int .i64 0, .slice Option.none 0 0, .slice Option.none 0 0]) := ⟨by kernel_rfl, by kernel_rfl, by kernel_rfl, rfl⟩
theorem tc52 (args : Array Value) (w : World) : (callFunc 52 args).run Try.prog w = .ok (.enter 52 args) w := by kernel_rfl
theorem tf70_2 : ((Try.prog.fieldsOf 70)[2]?).map (fun f => (f.offset, f.type)) = some (2, 3) := by kernel_rfl
theorem tc31 (args : Array Value) (w : World) : (callFunc 31 args).run Try.prog w = .ok (.enter 31 args) w := by kernel_rfl
theorem tc32 (args : Array Value) (w : World) : (callFunc 32 args).run Try.prog w = .ok (.enter 32 args) w := by kernel_rfl
theorem tc34 (args : Array Value) (w : World) : (callFunc 34 args).run Try.prog w = .ok (.enter 34 args) w := by kernel_rfl
theorem tc33 (args : Array Value) (w : World) : (callFunc 33 args).run Try.prog w = .ok (.enter 33 args) w := by kernel_rfl
theorem tc36 (args : Array Value) (w : World) : (callFunc 36 args).run Try.prog w = .ok (.enter 36 args) w := by kernel_rfl
theorem tc35 (args : Array Value) (w : World) : (callFunc 35 args).run Try.prog w = .ok (.enter 35 args) w := by kernel_rfl
theorem te38 : ElemT Try.prog 38 1 24 (.agg #[.slice Option.none 0 0]) := ⟨by kernel_rfl, by kernel_rfl, by kernel_rfl, rfl⟩
theorem tc43 (args : Array Value) (w : World) : (callFunc 43 args).run Try.prog w = .ok (.enter 43 args) w := by kernel_rfl
theorem tc18 (args : Array Value) (w : World) : (callFunc 18 args).run Try.prog w = .ok (.enter 18 args) w := by kernel_rfl
theorem tc23 (args : Array Value) (w : World) : (callFunc 23 args).run Try.prog w = .ok (.enter 23 args) w := by kernel_rfl
theorem tc24 (args : Array Value) (w : World) : (callFunc 24 args).run Try.prog w = .ok (.enter 24 args) w := by kernel_rfl
theorem tc26 (args : Array Value) (w : World) : (callFunc 26 args).run Try.prog w = .ok (.enter 26 args) w := by kernel_rfl
theorem tc55 (args : Array Value) (w : World) : (callFunc 55 args).run Try.prog w = .ok (.enter 55 args) w := by kernel_rfl
theorem tc40 (args : Array Value) (w : World) : (callFunc 40 args).run Try.prog w = .ok (.enter 40 args) w := by kernel_rfl
theorem tc57 (args : Array Value) (w : World) : (callFunc 57 args).run Try.prog w = .ok (.enter 57 args) w := by kernel_rfl
theorem tc46 (args : Array Value) (w : World) : (callFunc 46 args).run Try.prog w = .ok (.enter 46 args) w := by kernel_rfl
theorem tc63 (args : Array Value) (w : World) : (callFunc 63 args).run Try.prog w = .ok (.enter 63 args) w := by kernel_rfl
theorem tc60 (args : Array Value) (w : World) : (callFunc 60 args).run Try.prog w = .ok (.enter 60 args) w := by kernel_rfl
theorem tc64 (args : Array Value) (w : World) : (callFunc 64 args).run Try.prog w = .ok (.enter 64 args) w := by kernel_rfl
theorem tc62 (args : Array Value) (w : World) : (callFunc 62 args).run Try.prog w = .ok (.enter 62 args) w := by kernel_rfl
theorem tc47 (args : Array Value) (w : World) : (callFunc 47 args).run Try.prog w = .ok (.enter 47 args) w := by kernel_rfl
theorem tc27 (args : Array Value) (w : World) : (callFunc 27 args).run Try.prog w = .ok (.enter 27 args) w := by kernel_rfl
theorem tc25 (args : Array Value) (w : World) : (callFunc 25 args).run Try.prog w = .ok (.enter 25 args) w := by kernel_rfl
theorem tc17 (args : Array Value) (w : World) : (callFunc 17 args).run Try.prog w = .ok (.enter 17 args) w := by kernel_rfl
theorem tc28 (args : Array Value) (w : World) : (callFunc 28 args).run Try.prog w = .ok (.enter 28 args) w := by kernel_rfl
theorem tc54 (args : Array Value) (w : World) : (callFunc 54 args).run Try.prog w = .ok (.enter 54 args) w := by kernel_rfl
theorem tc30 (args : Array Value) (w : World) : (callFunc 30 args).run Try.prog w = .ok (.enter 30 args) w := by kernel_rfl
theorem tc39 (args : Array Value) (w : World) : (callFunc 39 args).run Try.prog w = .ok (.enter 39 args) w := by kernel_rfl
theorem tc38 (args : Array Value) (w : World) : (callFunc 38 args).run Try.prog w = .ok (.enter 38 args) w := by kernel_rfl
theorem tc19 (args : Array Value) (w : World) : (callFunc 19 args).run Try.prog w = .ok (.enter 19 args) w := by kernel_rfl
theorem tb38_0 (x0 : Value) (h0 : IsSl x0) (w : World) : (Instr.build 38 [(0, x0)].toArray).run Try.prog w = .ok (.agg #[x0]) w := by obtain ⟨a0, n0, c0, rfl⟩ := h0; kernel_rfl
theorem tc29 (args : Array Value) (w : World) : (callFunc 29 args).run Try.prog w = .ok (.enter 29 args) w := by kernel_rfl
theorem tc12 (args : Array Value) (w : World) : (callFunc 12 args).run Try.prog w = .ok (.enter 12 args) w := by kernel_rfl
theorem tc16 (args : Array Value) (w : World) : (callFunc 16 args).run Try.prog w = .ok (.enter 16 args) w := by kernel_rfl
theorem tc14 (args : Array Value) (w : World) : (callFunc 14 args).run Try.prog w = .ok (.enter 14 args) w := by kernel_rfl
theorem tc10 (args : Array Value) (w : World) : (callFunc 10 args).run Try.prog w = .ok (.enter 10 args) w := by kernel_rfl
theorem tc11 (args : Array Value) (w : World) : (callFunc 11 args).run Try.prog w = .ok (.enter 11 args) w := by kernel_rfl
theorem tc13 (args : Array Value) (w : World) : (callFunc 13 args).run Try.prog w = .ok (.enter 13 args) w := by kernel_rfl
theorem tu4 : Try.prog.underlying 4 = some (.bool) := by kernel_rfl
theorem tc15 (args : Array Value) (w : World) : (callFunc 15 args).run Try.prog w = .ok (.enter 15 args) w := by kernel_rfl
theorem tc67 (args : Array Value) (w : World) : (callFunc 67 args).run Try.prog w = .ok (.enter 67 args) w := by kernel_rfl
theorem tc56 (args : Array Value) (w : World) : (callFunc 56 args).run Try.prog w = .ok (.enter 56 args) w := by kernel_rfl
theorem tc41 (args : Array Value) (w : World) : (callFunc 41 args).run Try.prog w = .ok (.enter 41 args) w := by kernel_rfl
theorem tz75 : (Try.prog.info? 75).bind (·.zero) = some (.slice Option.none 0 0) := by kernel_rfl
theorem tz31 : (Try.prog.info? 31).bind (·.zero) = some (.slice Option.none 0 0) := by kernel_rfl
theorem tu75 : Try.prog.underlying 75 = some (.slice 78) := by kernel_rfl
theorem tb78_  (w : World) : (Instr.build 78 [].toArray).run Try.prog w = .ok (.agg #[.bool false, .string ByteArray.empty, .slice Option.none 0 0]) w := by kernel_rfl
theorem tc68 (args : Array Value) (w : World) : (callFunc 68 args).run Try.prog w = .ok (.enter 68 args) w := by kernel_rfl
theorem tu78 : Try.prog.underlying 78 = some (.struct (Try.prog.fieldsOf 78)) := by kernel_rfl
theorem tf78_2 : ((Try.prog.fieldsOf 78)[2]?).map (fun f => (f.offset, f.type)) = some (2, 31) := by kernel_rfl
theorem ts78 : (Try.prog.info? 78).map (·.size) = some 3 := by kernel_rfl
theorem te78 : ElemT Try.prog 78 3 48 (.agg #[.bool false, .string ByteArray.empty, .slice Option.none 0 0]) := ⟨by kernel_rfl, by kernel_rfl, by kernel_rfl, rfl⟩
theorem ts75 : (Try.prog.info? 75).map (·.size) = some 1 := by kernel_rfl
theorem tb78_0_1 (x0 : Bool) (x1 : ByteArray) (w : World) : (Instr.build 78 [(0, .bool x0), (1, .string x1)].toArray).run Try.prog w = .ok (.agg #[.bool x0, .string x1, .slice Option.none 0 0]) w := by kernel_rfl
theorem tc75 (args : Array Value) (w : World) : (callFunc 75 args).run Try.prog w = .ok (.enter 75 args) w := by kernel_rfl
theorem tu91 : Try.prog.underlying 91 = some (.struct (Try.prog.fieldsOf 91)) := by kernel_rfl
theorem tf91_0 : ((Try.prog.fieldsOf 91)[0]?).map (fun f => (f.offset, f.type)) = some (0, 36) := by kernel_rfl
theorem tf91_1 : ((Try.prog.fieldsOf 91)[1]?).map (fun f => (f.offset, f.type)) = some (1, 3) := by kernel_rfl
theorem tf91_2 : ((Try.prog.fieldsOf 91)[2]?).map (fun f => (f.offset, f.type)) = some (2, 4) := by kernel_rfl
theorem ts4 : (Try.prog.info? 4).map (·.size) = some 1 := by kernel_rfl
theorem tb60_0 (x0 : Int) (w : World) : (Instr.build 60 [(0, .int .i64 x0)].toArray).run Try.prog w = .ok (.agg #[.int .i64 x0, .slice Option.none 0 0, .slice Option.none 0 0]) w := by kernel_rfl
theorem tz91 : (Try.prog.info? 91).bind (·.zero) = some (.agg #[.slice Option.none 0 0, .int .i64 0, .bool false]) := by kernel_rfl
theorem tc73 (args : Array Value) (w : World) : (callFunc 73 args).run Try.prog w = .ok (.enter 73 args) w := by kernel_rfl
theorem tc69 (args : Array Value) (w : World) : (callFunc 69 args).run Try.prog w = .ok (.enter 69 args) w := by kernel_rfl
theorem tf78_0 : ((Try.prog.fieldsOf 78)[0]?).map (fun f => (f.offset, f.type)) = some (0, 4) := by kernel_rfl
theorem tf78_1 : ((Try.prog.fieldsOf 78)[1]?).map (fun f => (f.offset, f.type)) = some (1, 9) := by kernel_rfl
theorem tc71 (args : Array Value) (w : World) : (callFunc 71 args).run Try.prog w = .ok (.enter 71 args) w := by kernel_rfl
theorem tc72 (args : Array Value) (w : World) : (callFunc 72 args).run Try.prog w = .ok (.enter 72 args) w := by kernel_rfl
theorem tc70 (args : Array Value) (w : World) : (callFunc 70 args).run Try.prog w = .ok (.enter 70 args) w := by kernel_rfl
theorem tc58 (args : Array Value) (w : World) : (callFunc 58 args).run Try.prog w = .ok (.enter 58 args) w := by kernel_rfl
theorem tc59 (args : Array Value) (w : World) : (callFunc 59 args).run Try.prog w = .ok (.enter 59 args) w := by kernel_rfl
theorem tz78 : (Try.prog.info? 78).bind (·.zero) = some (.agg #[.bool false, .string ByteArray.empty, .slice Option.none 0 0]) := by kernel_rfl
theorem tc42 (args : Array Value) (w : World) : (callFunc 42 args).run Try.prog w = .ok (.enter 42 args) w := by kernel_rfl
theorem tu80 : Try.prog.underlying 80 = some (.slice 82) := by kernel_rfl
theorem ts82 : (Try.prog.info? 82).map (·.size) = some 2 := by kernel_rfl
theorem te82 : ElemT Try.prog 82 2 24 (.agg #[.int .i64 0, .string ByteArray.empty]) := ⟨by kernel_rfl, by kernel_rfl, by kernel_rfl, rfl⟩
theorem tc61 (args : Array Value) (w : World) : (callFunc 61 args).run Try.prog w = .ok (.enter 61 args) w := by kernel_rfl
theorem tu82 : Try.prog.underlying 82 = some (.struct (Try.prog.fieldsOf 82)) := by kernel_rfl
theorem tf82_0 : ((Try.prog.fieldsOf 82)[0]?).map (fun f => (f.offset, f.type)) = some (0, 3) := by kernel_rfl
theorem tf82_1 : ((Try.prog.fieldsOf 82)[1]?).map (fun f => (f.offset, f.type)) = some (1, 9) := by kernel_rfl
theorem tb82_0_1 (x0 : Int) (x1 : ByteArray) (w : World) : (Instr.build 82 [(0, .int .i64 x0), (1, .string x1)].toArray).run Try.prog w = .ok (.agg #[.int .i64 x0, .string x1]) w := by kernel_rfl
theorem tz82 : (Try.prog.info? 82).bind (·.zero) = some (.agg #[.int .i64 0, .string ByteArray.empty]) := by kernel_rfl
theorem tc44 (args : Array Value) (w : World) : (callFunc 44 args).run Try.prog w = .ok (.enter 44 args) w := by kernel_rfl
theorem tc20 (args : Array Value) (w : World) : (callFunc 20 args).run Try.prog w = .ok (.enter 20 args) w := by kernel_rfl
theorem tc21 (args : Array Value) (w : World) : (callFunc 21 args).run Try.prog w = .ok (.enter 21 args) w := by kernel_rfl
theorem tc22 (args : Array Value) (w : World) : (callFunc 22 args).run Try.prog w = .ok (.enter 22 args) w := by kernel_rfl
end Go.Dc
