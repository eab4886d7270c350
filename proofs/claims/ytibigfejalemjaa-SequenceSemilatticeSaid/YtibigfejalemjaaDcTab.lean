/- Closed facts of the translation. -/
import Derived.Test.YtibigfejalemjaaDcTy
import Derived.Test.YtibigfejalemjaaDcR
import Derived.Test.YtibigfejalemjaaDcSh
import Derived.Test.YtibigfejalemjaaProg
import Derived.KernelRfl
namespace Go.Dc
open Go Go.Proofs
theorem mo : Try.prog.follows .mixedOrders = true := by kernel_rfl
theorem tz48 : (Try.prog.info? 48).bind (·.zero) = some (.agg #[.int .i64 0, .int .i64 0]) := by kernel_rfl
theorem tu33 : Try.prog.underlying 33 = some (.struct (Try.prog.fieldsOf 33)) := by kernel_rfl
theorem tf33_2 : ((Try.prog.fieldsOf 33)[2]?).map (fun f => (f.offset, f.type)) = some (2, 3) := by kernel_rfl
theorem ts3 : (Try.prog.info? 3).map (·.size) = some 1 := by kernel_rfl
theorem tu3 : Try.prog.underlying 3 = some (.int .i64) := by kernel_rfl
theorem tf33_1 : ((Try.prog.fieldsOf 33)[1]?).map (fun f => (f.offset, f.type)) = some (1, 3) := by kernel_rfl
theorem tb48_0_1 (x0 : Int) (x1 : Int) (w : World) : (Instr.build 48 [(0, .int .i64 x0), (1, .int .i64 x1)].toArray).run Try.prog w = .ok (.agg #[.int .i64 x0, .int .i64 x1]) w := by kernel_rfl
theorem ts48 : (Try.prog.info? 48).map (·.size) = some 2 := by kernel_rfl
theorem tu48 : Try.prog.underlying 48 = some (.struct (Try.prog.fieldsOf 48)) := by kernel_rfl
theorem tf33_4 : ((Try.prog.fieldsOf 33)[4]?).map (fun f => (f.offset, f.type)) = some (4, 3) := by kernel_rfl
theorem tf33_3 : ((Try.prog.fieldsOf 33)[3]?).map (fun f => (f.offset, f.type)) = some (3, 3) := by kernel_rfl
theorem tx59 (s : ByteArray) (c : Int) (w : World) : (callFunc 59 #[.string s, .int .u8 c]).run Try.prog w = .ok (.value (.int .i64 (idxB s c))) w := run_idxB (fn := Try.f59) Try.func59 (by kernel_rfl) (by kernel_rfl) (by kernel_rfl) (by kernel_rfl) s c w
theorem tc43 (args : Array Value) (w : World) : (callFunc 43 args).run Try.prog w = .ok (.enter 43 args) w := by kernel_rfl
theorem tz25 : (Try.prog.info? 25).bind (·.zero) = some (.agg #[.int .i64 0, .int .i64 0]) := by kernel_rfl
theorem tu23 : Try.prog.underlying 23 = some (.slice 9) := by kernel_rfl
theorem tb25_0_1 (x0 : Int) (x1 : Int) (w : World) : (Instr.build 25 [(0, .int .i64 x0), (1, .int .i64 x1)].toArray).run Try.prog w = .ok (.agg #[.int .i64 x0, .int .i64 x1]) w := by kernel_rfl
theorem ts25 : (Try.prog.info? 25).map (·.size) = some 2 := by kernel_rfl
theorem tu25 : Try.prog.underlying 25 = some (.struct (Try.prog.fieldsOf 25)) := by kernel_rfl
theorem tb25_  (w : World) : (Instr.build 25 [].toArray).run Try.prog w = .ok (.agg #[.int .i64 0, .int .i64 0]) w := by kernel_rfl
theorem ts9 : (Try.prog.info? 9).map (·.size) = some 1 := by kernel_rfl
theorem tu9 : Try.prog.underlying 9 = some (.string) := by kernel_rfl
theorem tc29 (args : Array Value) (w : World) : (callFunc 29 args).run Try.prog w = .ok (.enter 29 args) w := by kernel_rfl
theorem tu82 : Try.prog.underlying 82 = some (.slice 3) := by kernel_rfl
theorem tc58 (args : Array Value) (w : World) : (callFunc 58 args).run Try.prog w = .ok (.enter 58 args) w := by kernel_rfl
theorem tf48_0 : ((Try.prog.fieldsOf 48)[0]?).map (fun f => (f.offset, f.type)) = some (0, 3) := by kernel_rfl
theorem tf48_1 : ((Try.prog.fieldsOf 48)[1]?).map (fun f => (f.offset, f.type)) = some (1, 3) := by kernel_rfl
theorem tc42 (args : Array Value) (w : World) : (callFunc 42 args).run Try.prog w = .ok (.enter 42 args) w := by kernel_rfl
theorem te3 : ElemT Try.prog 3 1 8 (.int .i64 0) := ⟨by kernel_rfl, by kernel_rfl, by kernel_rfl, rfl⟩
theorem tc41 (args : Array Value) (w : World) : (callFunc 41 args).run Try.prog w = .ok (.enter 41 args) w := by kernel_rfl
theorem ts33 : (Try.prog.info? 33).map (·.size) = some 6 := by kernel_rfl
theorem tc24 (args : Array Value) (w : World) : (callFunc 24 args).run Try.prog w = .ok (.enter 24 args) w := by kernel_rfl
theorem tb48_  (w : World) : (Instr.build 48 [].toArray).run Try.prog w = .ok (.agg #[.int .i64 0, .int .i64 0]) w := by kernel_rfl
theorem tqa48 : Try.prog.stoodInHeld 48 = false := by kernel_rfl
theorem tqb48 : Try.prog.eqGuardType Try.prog.depth 48 = false := by kernel_rfl
theorem tqc48 : (Try.prog.fieldsOf 48).toList.map (fun f => (f.name, f.type, f.offset)) = [("counter", 3, 0), ("replica", 3, 1)] := by kernel_rfl
theorem tc23 (args : Array Value) (w : World) : (callFunc 23 args).run Try.prog w = .ok (.enter 23 args) w := by kernel_rfl
theorem tc47 (args : Array Value) (w : World) : (callFunc 47 args).run Try.prog w = .ok (.enter 47 args) w := by kernel_rfl
theorem tf33_0 : ((Try.prog.fieldsOf 33)[0]?).map (fun f => (f.offset, f.type)) = some (0, 4) := by kernel_rfl
theorem ts4 : (Try.prog.info? 4).map (·.size) = some 1 := by kernel_rfl
theorem tu4 : Try.prog.underlying 4 = some (.bool) := by kernel_rfl
theorem tf33_5 : ((Try.prog.fieldsOf 33)[5]?).map (fun f => (f.offset, f.type)) = some (5, 9) := by kernel_rfl
theorem tc28 (args : Array Value) (w : World) : (callFunc 28 args).run Try.prog w = .ok (.enter 28 args) w := by kernel_rfl
theorem te9 : ElemT Try.prog 9 1 16 (.string ByteArray.empty) := ⟨by kernel_rfl, by kernel_rfl, by kernel_rfl, rfl⟩
theorem tc16 (args : Array Value) (w : World) : (callFunc 16 args).run Try.prog w = .ok (.enter 16 args) w := by kernel_rfl
theorem tf25_0 : ((Try.prog.fieldsOf 25)[0]?).map (fun f => (f.offset, f.type)) = some (0, 3) := by kernel_rfl
theorem tu22 : Try.prog.underlying 22 = some (.slice 33) := by kernel_rfl
theorem tz33 : (Try.prog.info? 33).bind (·.zero) = some (.agg #[.bool false, .int .i64 0, .int .i64 0, .int .i64 0, .int .i64 0, .string ByteArray.empty]) := by kernel_rfl
theorem tk48 : Key2 Try.prog 48 3 "counter" "replica" := ⟨tu48, tqa48, tqc48, by decide, by decide, tu3⟩
theorem tu45 : Try.prog.underlying 45 = some (.map 48 4) := by kernel_rfl
theorem tz4 : (Try.prog.info? 4).bind (·.zero) = some (.bool false) := by kernel_rfl
theorem tc38 (args : Array Value) (w : World) : (callFunc 38 args).run Try.prog w = .ok (.enter 38 args) w := by kernel_rfl
theorem tu79 : Try.prog.underlying 79 = some (.int .u32) := by kernel_rfl
theorem tu5 : Try.prog.underlying 5 = some (.int .u8) := by kernel_rfl
theorem tu81 : Try.prog.underlying 81 = some (.int .u64) := by kernel_rfl
theorem tc57 (args : Array Value) (w : World) : (callFunc 57 args).run Try.prog w = .ok (.enter 57 args) w := by kernel_rfl
theorem tu63 : Try.prog.underlying 63 = some (.int .u64) := by kernel_rfl
theorem tc40 (args : Array Value) (w : World) : (callFunc 40 args).run Try.prog w = .ok (.enter 40 args) w := by kernel_rfl
theorem tu46 : Try.prog.underlying 46 = some (.map 48 22) := by kernel_rfl
theorem tz22 : (Try.prog.info? 22).bind (·.zero) = some (.slice Option.none 0 0) := by kernel_rfl
theorem sA33 (w : World) : (isAgg 33).run Try.prog w = .ok true w := by kernel_rfl
theorem sZ33 (w : World) : (Go.sizeOf 33).run Try.prog w = .ok 6 w := by kernel_rfl
theorem tc27 (args : Array Value) (w : World) : (callFunc 27 args).run Try.prog w = .ok (.enter 27 args) w := by kernel_rfl
theorem tc26 (args : Array Value) (w : World) : (callFunc 26 args).run Try.prog w = .ok (.enter 26 args) w := by kernel_rfl
theorem tu50 : Try.prog.underlying 50 = some (.func #[48] #[] false) := by kernel_rfl
theorem tc25 (args : Array Value) (w : World) : (callFunc 25 args).run Try.prog w = .ok (.enter 25 args) w := by kernel_rfl
theorem ts23 : (Try.prog.info? 23).map (·.size) = some 1 := by kernel_rfl
theorem tc20 (args : Array Value) (w : World) : (callFunc 20 args).run Try.prog w = .ok (.enter 20 args) w := by kernel_rfl
theorem tqa25 : Try.prog.stoodInHeld 25 = false := by kernel_rfl
theorem tqb25 : Try.prog.eqGuardType Try.prog.depth 25 = false := by kernel_rfl
theorem tqc25 : (Try.prog.fieldsOf 25).toList.map (fun f => (f.name, f.type, f.offset)) = [("Code", 3, 0), ("Index", 3, 1)] := by kernel_rfl
theorem tz45 : (Try.prog.info? 45).bind (·.zero) = some (.map Option.none) := by kernel_rfl
theorem ts45 : (Try.prog.info? 45).map (·.size) = some 1 := by kernel_rfl
theorem tz46 : (Try.prog.info? 46).bind (·.zero) = some (.map Option.none) := by kernel_rfl
theorem ts46 : (Try.prog.info? 46).map (·.size) = some 1 := by kernel_rfl
theorem tz23 : (Try.prog.info? 23).bind (·.zero) = some (.slice Option.none 0 0) := by kernel_rfl
theorem tz50 : (Try.prog.info? 50).bind (·.zero) = some (.nilFunc) := by kernel_rfl
theorem ts50 : (Try.prog.info? 50).map (·.size) = some 1 := by kernel_rfl
theorem te33 : ElemT Try.prog 33 6 56 (.agg #[.bool false, .int .i64 0, .int .i64 0, .int .i64 0, .int .i64 0, .string ByteArray.empty]) := ⟨by kernel_rfl, by kernel_rfl, by kernel_rfl, rfl⟩
theorem tb33_2_1_4_3_5 (x2 : Int) (x1 : Int) (x4 : Int) (x3 : Int) (x5 : ByteArray) (w : World) : (Instr.build 33 [(2, .int .i64 x2), (1, .int .i64 x1), (4, .int .i64 x4), (3, .int .i64 x3), (5, .string x5)].toArray).run Try.prog w = .ok (.agg #[.bool false, .int .i64 x1, .int .i64 x2, .int .i64 x3, .int .i64 x4, .string x5]) w := by kernel_rfl
theorem tc15 (args : Array Value) (w : World) : (callFunc 15 args).run Try.prog w = .ok (.enter 15 args) w := by kernel_rfl
theorem tc9 (args : Array Value) (w : World) : (callFunc 9 args).run Try.prog w = .ok (.enter 9 args) w := by kernel_rfl
theorem tc12 (args : Array Value) (w : World) : (callFunc 12 args).run Try.prog w = .ok (.enter 12 args) w := by kernel_rfl
theorem tc10 (args : Array Value) (w : World) : (callFunc 10 args).run Try.prog w = .ok (.enter 10 args) w := by kernel_rfl
theorem tc11 (args : Array Value) (w : World) : (callFunc 11 args).run Try.prog w = .ok (.enter 11 args) w := by kernel_rfl
theorem tc14 (args : Array Value) (w : World) : (callFunc 14 args).run Try.prog w = .ok (.enter 14 args) w := by kernel_rfl
theorem tc13 (args : Array Value) (w : World) : (callFunc 13 args).run Try.prog w = .ok (.enter 13 args) w := by kernel_rfl
theorem tc30 (args : Array Value) (w : World) : (callFunc 30 args).run Try.prog w = .ok (.enter 30 args) w := by kernel_rfl
theorem tc33 (args : Array Value) (w : World) : (callFunc 33 args).run Try.prog w = .ok (.enter 33 args) w := by kernel_rfl
theorem tc31 (args : Array Value) (w : World) : (callFunc 31 args).run Try.prog w = .ok (.enter 31 args) w := by kernel_rfl
theorem tqa33 : Try.prog.stoodInHeld 33 = false := by kernel_rfl
theorem tqb33 : Try.prog.eqGuardType Try.prog.depth 33 = false := by kernel_rfl
theorem tqc33 : (Try.prog.fieldsOf 33).toList.map (fun f => (f.name, f.type, f.offset)) = [("Delete", 4, 0), ("Replica", 3, 1), ("Counter", 3, 2), ("AfterReplica", 3, 3), ("AfterCounter", 3, 4), ("Line", 9, 5)] := by kernel_rfl
theorem tc32 (args : Array Value) (w : World) : (callFunc 32 args).run Try.prog w = .ok (.enter 32 args) w := by kernel_rfl
theorem tc34 (args : Array Value) (w : World) : (callFunc 34 args).run Try.prog w = .ok (.enter 34 args) w := by kernel_rfl
theorem tc66 (args : Array Value) (w : World) : (callFunc 66 args).run Try.prog w = .ok (.enter 66 args) w := by kernel_rfl
theorem tc60 (args : Array Value) (w : World) : (callFunc 60 args).run Try.prog w = .ok (.enter 60 args) w := by kernel_rfl
theorem tc45 (args : Array Value) (w : World) : (callFunc 45 args).run Try.prog w = .ok (.enter 45 args) w := by kernel_rfl
theorem tc44 (args : Array Value) (w : World) : (callFunc 44 args).run Try.prog w = .ok (.enter 44 args) w := by kernel_rfl
theorem tc46 (args : Array Value) (w : World) : (callFunc 46 args).run Try.prog w = .ok (.enter 46 args) w := by kernel_rfl
theorem tc37 (args : Array Value) (w : World) : (callFunc 37 args).run Try.prog w = .ok (.enter 37 args) w := by kernel_rfl
theorem tc36 (args : Array Value) (w : World) : (callFunc 36 args).run Try.prog w = .ok (.enter 36 args) w := by kernel_rfl
theorem tb33_  (w : World) : (Instr.build 33 [].toArray).run Try.prog w = .ok (.agg #[.bool false, .int .i64 0, .int .i64 0, .int .i64 0, .int .i64 0, .string ByteArray.empty]) w := by kernel_rfl
theorem tc19 (args : Array Value) (w : World) : (callFunc 19 args).run Try.prog w = .ok (.enter 19 args) w := by kernel_rfl
theorem tc35 (args : Array Value) (w : World) : (callFunc 35 args).run Try.prog w = .ok (.enter 35 args) w := by kernel_rfl
theorem tc17 (args : Array Value) (w : World) : (callFunc 17 args).run Try.prog w = .ok (.enter 17 args) w := by kernel_rfl
theorem tc18 (args : Array Value) (w : World) : (callFunc 18 args).run Try.prog w = .ok (.enter 18 args) w := by kernel_rfl
theorem tc21 (args : Array Value) (w : World) : (callFunc 21 args).run Try.prog w = .ok (.enter 21 args) w := by kernel_rfl
theorem tc22 (args : Array Value) (w : World) : (callFunc 22 args).run Try.prog w = .ok (.enter 22 args) w := by kernel_rfl
end Go.Dc
