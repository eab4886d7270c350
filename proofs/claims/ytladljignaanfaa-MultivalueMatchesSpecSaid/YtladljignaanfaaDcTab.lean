/- Closed facts of the translation. -/
import Derived.Test.YtladljignaanfaaDcTy
import Derived.Test.YtladljignaanfaaDcR
import Derived.Test.YtladljignaanfaaDcSh
import Derived.Test.YtladljignaanfaaProg
import Derived.KernelRfl
namespace Go.Dc
open Go Go.Proofs
theorem mo : Try.prog.follows .mixedOrders = true := by kernel_rfl
theorem tc52 (args : Array Value) (w : World) : (callFunc 52 args).run Try.prog w = .ok (.enter 52 args) w := by kernel_rfl
theorem tu33 : Try.prog.underlying 33 = some (.slice 3) := by kernel_rfl
theorem ts3 : (Try.prog.info? 3).map (·.size) = some 1 := by kernel_rfl
theorem tu3 : Try.prog.underlying 3 = some (.int .i64) := by kernel_rfl
theorem tc36 (args : Array Value) (w : World) : (callFunc 36 args).run Try.prog w = .ok (.enter 36 args) w := by kernel_rfl
theorem tc18 (args : Array Value) (w : World) : (callFunc 18 args).run Try.prog w = .ok (.enter 18 args) w := by kernel_rfl
theorem tu35 : Try.prog.underlying 35 = some (.struct (Try.prog.fieldsOf 35)) := by kernel_rfl
theorem tf35_0 : ((Try.prog.fieldsOf 35)[0]?).map (fun f => (f.offset, f.type)) = some (0, 3) := by kernel_rfl
theorem tf35_1 : ((Try.prog.fieldsOf 35)[1]?).map (fun f => (f.offset, f.type)) = some (1, 33) := by kernel_rfl
theorem ts33 : (Try.prog.info? 33).map (·.size) = some 1 := by kernel_rfl
theorem tc37 (args : Array Value) (w : World) : (callFunc 37 args).run Try.prog w = .ok (.enter 37 args) w := by kernel_rfl
theorem tc53 (args : Array Value) (w : World) : (callFunc 53 args).run Try.prog w = .ok (.enter 53 args) w := by kernel_rfl
theorem tu22 : Try.prog.underlying 22 = some (.slice 35) := by kernel_rfl
theorem tc39 (args : Array Value) (w : World) : (callFunc 39 args).run Try.prog w = .ok (.enter 39 args) w := by kernel_rfl
theorem ts35 : (Try.prog.info? 35).map (·.size) = some 2 := by kernel_rfl
theorem tc24 (args : Array Value) (w : World) : (callFunc 24 args).run Try.prog w = .ok (.enter 24 args) w := by kernel_rfl
theorem tc30 (args : Array Value) (w : World) : (callFunc 30 args).run Try.prog w = .ok (.enter 30 args) w := by kernel_rfl
theorem tc41 (args : Array Value) (w : World) : (callFunc 41 args).run Try.prog w = .ok (.enter 41 args) w := by kernel_rfl
theorem tc40 (args : Array Value) (w : World) : (callFunc 40 args).run Try.prog w = .ok (.enter 40 args) w := by kernel_rfl
theorem tc32 (args : Array Value) (w : World) : (callFunc 32 args).run Try.prog w = .ok (.enter 32 args) w := by kernel_rfl
theorem tc38 (args : Array Value) (w : World) : (callFunc 38 args).run Try.prog w = .ok (.enter 38 args) w := by kernel_rfl
theorem tz24 : (Try.prog.info? 24).bind (·.zero) = some (.agg #[.int .i64 0, .int .i64 0]) := by kernel_rfl
theorem tb24_0_1 (x0 : Int) (x1 : Int) (w : World) : (Instr.build 24 [(0, .int .i64 x0), (1, .int .i64 x1)].toArray).run Try.prog w = .ok (.agg #[.int .i64 x0, .int .i64 x1]) w := by kernel_rfl
theorem ts24 : (Try.prog.info? 24).map (·.size) = some 2 := by kernel_rfl
theorem tu24 : Try.prog.underlying 24 = some (.struct (Try.prog.fieldsOf 24)) := by kernel_rfl
theorem tb24_  (w : World) : (Instr.build 24 [].toArray).run Try.prog w = .ok (.agg #[.int .i64 0, .int .i64 0]) w := by kernel_rfl
theorem tz35 : (Try.prog.info? 35).bind (·.zero) = some (.agg #[.int .i64 0, .slice Option.none 0 0]) := by kernel_rfl
theorem tc28 (args : Array Value) (w : World) : (callFunc 28 args).run Try.prog w = .ok (.enter 28 args) w := by kernel_rfl
theorem tc13 (args : Array Value) (w : World) : (callFunc 13 args).run Try.prog w = .ok (.enter 13 args) w := by kernel_rfl
theorem tqa24 : Try.prog.stoodInHeld 24 = false := by kernel_rfl
theorem tqb24 : Try.prog.eqGuardType Try.prog.depth 24 = false := by kernel_rfl
theorem tqc24 : (Try.prog.fieldsOf 24).toList.map (fun f => (f.name, f.type, f.offset)) = [("Code", 3, 0), ("Index", 3, 1)] := by kernel_rfl
theorem te3 : ElemT Try.prog 3 1 8 (.int .i64 0) := ⟨by kernel_rfl, by kernel_rfl, by kernel_rfl, rfl⟩
theorem tb35_0_1 (x0 : Int) (x1 : Value) (h1 : IsSl x1) (w : World) : (Instr.build 35 [(0, .int .i64 x0), (1, x1)].toArray).run Try.prog w = .ok (.agg #[.int .i64 x0, x1]) w := by obtain ⟨a1, n1, c1, rfl⟩ := h1; kernel_rfl
theorem te35 : ElemT Try.prog 35 2 32 (.agg #[.int .i64 0, .slice Option.none 0 0]) := ⟨by kernel_rfl, by kernel_rfl, by kernel_rfl, rfl⟩
theorem tc19 (args : Array Value) (w : World) : (callFunc 19 args).run Try.prog w = .ok (.enter 19 args) w := by kernel_rfl
theorem tc27 (args : Array Value) (w : World) : (callFunc 27 args).run Try.prog w = .ok (.enter 27 args) w := by kernel_rfl
theorem tc17 (args : Array Value) (w : World) : (callFunc 17 args).run Try.prog w = .ok (.enter 17 args) w := by kernel_rfl
theorem tc14 (args : Array Value) (w : World) : (callFunc 14 args).run Try.prog w = .ok (.enter 14 args) w := by kernel_rfl
theorem tf24_0 : ((Try.prog.fieldsOf 24)[0]?).map (fun f => (f.offset, f.type)) = some (0, 3) := by kernel_rfl
theorem tc33 (args : Array Value) (w : World) : (callFunc 33 args).run Try.prog w = .ok (.enter 33 args) w := by kernel_rfl
theorem tc31 (args : Array Value) (w : World) : (callFunc 31 args).run Try.prog w = .ok (.enter 31 args) w := by kernel_rfl
theorem tc20 (args : Array Value) (w : World) : (callFunc 20 args).run Try.prog w = .ok (.enter 20 args) w := by kernel_rfl
theorem tu70 : Try.prog.underlying 70 = some (.int .u32) := by kernel_rfl
theorem tu5 : Try.prog.underlying 5 = some (.int .u8) := by kernel_rfl
theorem tu9 : Try.prog.underlying 9 = some (.string) := by kernel_rfl
theorem tu72 : Try.prog.underlying 72 = some (.int .u64) := by kernel_rfl
theorem tc51 (args : Array Value) (w : World) : (callFunc 51 args).run Try.prog w = .ok (.enter 51 args) w := by kernel_rfl
theorem tu56 : Try.prog.underlying 56 = some (.int .u64) := by kernel_rfl
theorem tc35 (args : Array Value) (w : World) : (callFunc 35 args).run Try.prog w = .ok (.enter 35 args) w := by kernel_rfl
theorem tc21 (args : Array Value) (w : World) : (callFunc 21 args).run Try.prog w = .ok (.enter 21 args) w := by kernel_rfl
theorem sA35 (w : World) : (isAgg 35).run Try.prog w = .ok true w := by kernel_rfl
theorem sZ35 (w : World) : (Go.sizeOf 35).run Try.prog w = .ok 2 w := by kernel_rfl
theorem tc23 (args : Array Value) (w : World) : (callFunc 23 args).run Try.prog w = .ok (.enter 23 args) w := by kernel_rfl
theorem tc22 (args : Array Value) (w : World) : (callFunc 22 args).run Try.prog w = .ok (.enter 22 args) w := by kernel_rfl
theorem tc25 (args : Array Value) (w : World) : (callFunc 25 args).run Try.prog w = .ok (.enter 25 args) w := by kernel_rfl
theorem tc26 (args : Array Value) (w : World) : (callFunc 26 args).run Try.prog w = .ok (.enter 26 args) w := by kernel_rfl
theorem tc29 (args : Array Value) (w : World) : (callFunc 29 args).run Try.prog w = .ok (.enter 29 args) w := by kernel_rfl
theorem tc9 (args : Array Value) (w : World) : (callFunc 9 args).run Try.prog w = .ok (.enter 9 args) w := by kernel_rfl
theorem tc15 (args : Array Value) (w : World) : (callFunc 15 args).run Try.prog w = .ok (.enter 15 args) w := by kernel_rfl
theorem tc10 (args : Array Value) (w : World) : (callFunc 10 args).run Try.prog w = .ok (.enter 10 args) w := by kernel_rfl
theorem tc11 (args : Array Value) (w : World) : (callFunc 11 args).run Try.prog w = .ok (.enter 11 args) w := by kernel_rfl
theorem tc12 (args : Array Value) (w : World) : (callFunc 12 args).run Try.prog w = .ok (.enter 12 args) w := by kernel_rfl
theorem tc16 (args : Array Value) (w : World) : (callFunc 16 args).run Try.prog w = .ok (.enter 16 args) w := by kernel_rfl
theorem tu4 : Try.prog.underlying 4 = some (.bool) := by kernel_rfl
end Go.Dc
