/- Closed facts of the translation. -/
import Derived.Test.YthknfnjdnclphaaDcTy
import Derived.Test.YthknfnjdnclphaaDcRS
import Derived.Test.YthknfnjdnclphaaDcSh
import Derived.Test.YthknfnjdnclphaaProg
import Derived.KernelRfl
namespace Go.Dc
open Go Go.Proofs
theorem mo : Try.prog.follows .mixedOrders = true := by kernel_rfl
theorem tx91 (s : ByteArray) (c : Int) (w : World) : (callFunc 91 #[.string s, .int .u8 c]).run Try.prog w = .ok (.value (.int .i64 (idxB s c))) w := run_idxB (fn := Try.f91) Try.func91 (by kernel_rfl) (by kernel_rfl) (by kernel_rfl) (by kernel_rfl) s c w
theorem tc88 (args : Array Value) (w : World) : (callFunc 88 args).run Try.prog w = .ok (.enter 88 args) w := by kernel_rfl
theorem tz28 : (Try.prog.info? 28).bind (·.zero) = some (.agg #[.int .i64 0, .int .i64 0]) := by kernel_rfl
theorem tu22 : Try.prog.underlying 22 = some (.slice 9) := by kernel_rfl
theorem tb28_0_1 (x0 : Int) (x1 : Int) (w : World) : (Instr.build 28 [(0, .int .i64 x0), (1, .int .i64 x1)].toArray).run Try.prog w = .ok (.agg #[.int .i64 x0, .int .i64 x1]) w := by kernel_rfl
theorem ts28 : (Try.prog.info? 28).map (·.size) = some 2 := by kernel_rfl
theorem tu28 : Try.prog.underlying 28 = some (.struct (Try.prog.fieldsOf 28)) := by kernel_rfl
theorem tb28_  (w : World) : (Instr.build 28 [].toArray).run Try.prog w = .ok (.agg #[.int .i64 0, .int .i64 0]) w := by kernel_rfl
theorem ts9 : (Try.prog.info? 9).map (·.size) = some 1 := by kernel_rfl
theorem tu9 : Try.prog.underlying 9 = some (.string) := by kernel_rfl
theorem tc79 (args : Array Value) (w : World) : (callFunc 79 args).run Try.prog w = .ok (.enter 79 args) w := by kernel_rfl
theorem tc62 (args : Array Value) (w : World) : (callFunc 62 args).run Try.prog w = .ok (.enter 62 args) w := by kernel_rfl
theorem tf28_0 : ((Try.prog.fieldsOf 28)[0]?).map (fun f => (f.offset, f.type)) = some (0, 3) := by kernel_rfl
theorem tu3 : Try.prog.underlying 3 = some (.int .i64) := by kernel_rfl
theorem tc63 (args : Array Value) (w : World) : (callFunc 63 args).run Try.prog w = .ok (.enter 63 args) w := by kernel_rfl
theorem te9 : ElemT Try.prog 9 1 16 (.string ByteArray.empty) := ⟨by kernel_rfl, by kernel_rfl, by kernel_rfl, rfl⟩
theorem tc49 (args : Array Value) (w : World) : (callFunc 49 args).run Try.prog w = .ok (.enter 49 args) w := by kernel_rfl
theorem tc50 (args : Array Value) (w : World) : (callFunc 50 args).run Try.prog w = .ok (.enter 50 args) w := by kernel_rfl
theorem tu25 : Try.prog.underlying 25 = some (.struct (Try.prog.fieldsOf 25)) := by kernel_rfl
theorem tf25_1 : ((Try.prog.fieldsOf 25)[1]?).map (fun f => (f.offset, f.type)) = some (1, 23) := by kernel_rfl
theorem ts23 : (Try.prog.info? 23).map (·.size) = some 1 := by kernel_rfl
theorem tu23 : Try.prog.underlying 23 = some (.slice 54) := by kernel_rfl
theorem ts54 : (Try.prog.info? 54).map (·.size) = some 2 := by kernel_rfl
theorem tu54 : Try.prog.underlying 54 = some (.struct (Try.prog.fieldsOf 54)) := by kernel_rfl
theorem tz54 : (Try.prog.info? 54).bind (·.zero) = some (.agg #[.string ByteArray.empty, .slice Option.none 0 0]) := by kernel_rfl
theorem tf54_0 : ((Try.prog.fieldsOf 54)[0]?).map (fun f => (f.offset, f.type)) = some (0, 9) := by kernel_rfl
theorem tf54_1 : ((Try.prog.fieldsOf 54)[1]?).map (fun f => (f.offset, f.type)) = some (1, 22) := by kernel_rfl
theorem ts22 : (Try.prog.info? 22).map (·.size) = some 1 := by kernel_rfl
theorem tf25_0 : ((Try.prog.fieldsOf 25)[0]?).map (fun f => (f.offset, f.type)) = some (0, 22) := by kernel_rfl
theorem ts25 : (Try.prog.info? 25).map (·.size) = some 2 := by kernel_rfl
theorem tc37 (args : Array Value) (w : World) : (callFunc 37 args).run Try.prog w = .ok (.enter 37 args) w := by kernel_rfl
theorem tc36 (args : Array Value) (w : World) : (callFunc 36 args).run Try.prog w = .ok (.enter 36 args) w := by kernel_rfl
theorem tc16 (args : Array Value) (w : World) : (callFunc 16 args).run Try.prog w = .ok (.enter 16 args) w := by kernel_rfl
theorem tqa28 : Try.prog.stoodInHeld 28 = false := by kernel_rfl
theorem tqb28 : Try.prog.eqGuardType Try.prog.depth 28 = false := by kernel_rfl
theorem tqc28 : (Try.prog.fieldsOf 28).toList.map (fun f => (f.name, f.type, f.offset)) = [("Code", 3, 0), ("Index", 3, 1)] := by kernel_rfl
theorem ts3 : (Try.prog.info? 3).map (·.size) = some 1 := by kernel_rfl
theorem tc27 (args : Array Value) (w : World) : (callFunc 27 args).run Try.prog w = .ok (.enter 27 args) w := by kernel_rfl
theorem tc86 (args : Array Value) (w : World) : (callFunc 86 args).run Try.prog w = .ok (.enter 86 args) w := by kernel_rfl
theorem tu101 : Try.prog.underlying 101 = some (.int .u32) := by kernel_rfl
theorem tu5 : Try.prog.underlying 5 = some (.int .u8) := by kernel_rfl
theorem tu103 : Try.prog.underlying 103 = some (.int .u64) := by kernel_rfl
theorem tc77 (args : Array Value) (w : World) : (callFunc 77 args).run Try.prog w = .ok (.enter 77 args) w := by kernel_rfl
theorem tu83 : Try.prog.underlying 83 = some (.int .u64) := by kernel_rfl
theorem tc58 (args : Array Value) (w : World) : (callFunc 58 args).run Try.prog w = .ok (.enter 58 args) w := by kernel_rfl
theorem tc45 (args : Array Value) (w : World) : (callFunc 45 args).run Try.prog w = .ok (.enter 45 args) w := by kernel_rfl
theorem tc46 (args : Array Value) (w : World) : (callFunc 46 args).run Try.prog w = .ok (.enter 46 args) w := by kernel_rfl
theorem tu69 : Try.prog.underlying 69 = some (.slice 25) := by kernel_rfl
theorem tz25 : (Try.prog.info? 25).bind (·.zero) = some (.agg #[.slice Option.none 0 0, .slice Option.none 0 0]) := by kernel_rfl
theorem tx87 (p q : ByteArray) (w : World) : (callFunc 87 #[.string p, .string q]).run Try.prog w = .ok (.value (.int .i64 (cmpB p q))) w := run_cmpB (fn := Try.f87) Try.func87 (by kernel_rfl) (by kernel_rfl) (by kernel_rfl) (by kernel_rfl) p q w
theorem tc78 (args : Array Value) (w : World) : (callFunc 78 args).run Try.prog w = .ok (.enter 78 args) w := by kernel_rfl
theorem tc61 (args : Array Value) (w : World) : (callFunc 61 args).run Try.prog w = .ok (.enter 61 args) w := by kernel_rfl
theorem tc59 (args : Array Value) (w : World) : (callFunc 59 args).run Try.prog w = .ok (.enter 59 args) w := by kernel_rfl
theorem tc60 (args : Array Value) (w : World) : (callFunc 60 args).run Try.prog w = .ok (.enter 60 args) w := by kernel_rfl
theorem tc47 (args : Array Value) (w : World) : (callFunc 47 args).run Try.prog w = .ok (.enter 47 args) w := by kernel_rfl
theorem tz36 : (Try.prog.info? 36).bind (·.zero) = some (.agg #[.string ByteArray.empty, .int .i64 0, .slice Option.none 0 0, .slice Option.none 0 0]) := by kernel_rfl
theorem tc24 (args : Array Value) (w : World) : (callFunc 24 args).run Try.prog w = .ok (.enter 24 args) w := by kernel_rfl
theorem tb36_0_1_2_3 (x0 : ByteArray) (x1 : Int) (x2 : Value) (h2 : IsSl x2) (x3 : Value) (h3 : IsSl x3) (w : World) : (Instr.build 36 [(0, .string x0), (1, .int .i64 x1), (2, x2), (3, x3)].toArray).run Try.prog w = .ok (.agg #[.string x0, .int .i64 x1, x2, x3]) w := by obtain ⟨a2, n2, c2, rfl⟩ := h2; obtain ⟨a3, n3, c3, rfl⟩ := h3; kernel_rfl
theorem ts36 : (Try.prog.info? 36).map (·.size) = some 4 := by kernel_rfl
theorem tu36 : Try.prog.underlying 36 = some (.struct (Try.prog.fieldsOf 36)) := by kernel_rfl
theorem tc28 (args : Array Value) (w : World) : (callFunc 28 args).run Try.prog w = .ok (.enter 28 args) w := by kernel_rfl
theorem tu26 : Try.prog.underlying 26 = some (.slice 36) := by kernel_rfl
theorem te36 : ElemT Try.prog 36 4 72 (.agg #[.string ByteArray.empty, .int .i64 0, .slice Option.none 0 0, .slice Option.none 0 0]) := ⟨by kernel_rfl, by kernel_rfl, by kernel_rfl, rfl⟩
theorem tc23 (args : Array Value) (w : World) : (callFunc 23 args).run Try.prog w = .ok (.enter 23 args) w := by kernel_rfl
theorem tb25_  (w : World) : (Instr.build 25 [].toArray).run Try.prog w = .ok (.agg #[.slice Option.none 0 0, .slice Option.none 0 0]) w := by kernel_rfl
theorem tb25_0 (x0 : Value) (h0 : IsSl x0) (w : World) : (Instr.build 25 [(0, x0)].toArray).run Try.prog w = .ok (.agg #[x0, .slice Option.none 0 0]) w := by obtain ⟨a0, n0, c0, rfl⟩ := h0; kernel_rfl
theorem te25 : ElemT Try.prog 25 2 48 (.agg #[.slice Option.none 0 0, .slice Option.none 0 0]) := ⟨by kernel_rfl, by kernel_rfl, by kernel_rfl, rfl⟩
theorem tc25 (args : Array Value) (w : World) : (callFunc 25 args).run Try.prog w = .ok (.enter 25 args) w := by kernel_rfl
theorem tc26 (args : Array Value) (w : World) : (callFunc 26 args).run Try.prog w = .ok (.enter 26 args) w := by kernel_rfl
theorem tb54_0_1 (x0 : ByteArray) (x1 : Value) (h1 : IsSl x1) (w : World) : (Instr.build 54 [(0, .string x0), (1, x1)].toArray).run Try.prog w = .ok (.agg #[.string x0, x1]) w := by obtain ⟨a1, n1, c1, rfl⟩ := h1; kernel_rfl
theorem te54 : ElemT Try.prog 54 2 40 (.agg #[.string ByteArray.empty, .slice Option.none 0 0]) := ⟨by kernel_rfl, by kernel_rfl, by kernel_rfl, rfl⟩
theorem tc29 (args : Array Value) (w : World) : (callFunc 29 args).run Try.prog w = .ok (.enter 29 args) w := by kernel_rfl
theorem tc34 (args : Array Value) (w : World) : (callFunc 34 args).run Try.prog w = .ok (.enter 34 args) w := by kernel_rfl
theorem tc56 (args : Array Value) (w : World) : (callFunc 56 args).run Try.prog w = .ok (.enter 56 args) w := by kernel_rfl
theorem tc44 (args : Array Value) (w : World) : (callFunc 44 args).run Try.prog w = .ok (.enter 44 args) w := by kernel_rfl
theorem tc55 (args : Array Value) (w : World) : (callFunc 55 args).run Try.prog w = .ok (.enter 55 args) w := by kernel_rfl
theorem tc43 (args : Array Value) (w : World) : (callFunc 43 args).run Try.prog w = .ok (.enter 43 args) w := by kernel_rfl
theorem tc22 (args : Array Value) (w : World) : (callFunc 22 args).run Try.prog w = .ok (.enter 22 args) w := by kernel_rfl
theorem tc33 (args : Array Value) (w : World) : (callFunc 33 args).run Try.prog w = .ok (.enter 33 args) w := by kernel_rfl
theorem tc48 (args : Array Value) (w : World) : (callFunc 48 args).run Try.prog w = .ok (.enter 48 args) w := by kernel_rfl
theorem tc30 (args : Array Value) (w : World) : (callFunc 30 args).run Try.prog w = .ok (.enter 30 args) w := by kernel_rfl
theorem tc31 (args : Array Value) (w : World) : (callFunc 31 args).run Try.prog w = .ok (.enter 31 args) w := by kernel_rfl
theorem tc32 (args : Array Value) (w : World) : (callFunc 32 args).run Try.prog w = .ok (.enter 32 args) w := by kernel_rfl
theorem tc15 (args : Array Value) (w : World) : (callFunc 15 args).run Try.prog w = .ok (.enter 15 args) w := by kernel_rfl
theorem tf36_0 : ((Try.prog.fieldsOf 36)[0]?).map (fun f => (f.offset, f.type)) = some (0, 9) := by kernel_rfl
theorem tf36_1 : ((Try.prog.fieldsOf 36)[1]?).map (fun f => (f.offset, f.type)) = some (1, 3) := by kernel_rfl
theorem tf36_2 : ((Try.prog.fieldsOf 36)[2]?).map (fun f => (f.offset, f.type)) = some (2, 22) := by kernel_rfl
theorem tf36_3 : ((Try.prog.fieldsOf 36)[3]?).map (fun f => (f.offset, f.type)) = some (3, 22) := by kernel_rfl
theorem tb25_0_1 (x0 : Value) (h0 : IsSl x0) (x1 : Value) (h1 : IsSl x1) (w : World) : (Instr.build 25 [(0, x0), (1, x1)].toArray).run Try.prog w = .ok (.agg #[x0, x1]) w := by obtain ⟨a0, n0, c0, rfl⟩ := h0; obtain ⟨a1, n1, c1, rfl⟩ := h1; kernel_rfl
theorem tc35 (args : Array Value) (w : World) : (callFunc 35 args).run Try.prog w = .ok (.enter 35 args) w := by kernel_rfl
theorem tc10 (args : Array Value) (w : World) : (callFunc 10 args).run Try.prog w = .ok (.enter 10 args) w := by kernel_rfl
theorem tc12 (args : Array Value) (w : World) : (callFunc 12 args).run Try.prog w = .ok (.enter 12 args) w := by kernel_rfl
theorem tc11 (args : Array Value) (w : World) : (callFunc 11 args).run Try.prog w = .ok (.enter 11 args) w := by kernel_rfl
theorem tc13 (args : Array Value) (w : World) : (callFunc 13 args).run Try.prog w = .ok (.enter 13 args) w := by kernel_rfl
theorem tc14 (args : Array Value) (w : World) : (callFunc 14 args).run Try.prog w = .ok (.enter 14 args) w := by kernel_rfl
theorem zr9 (g : Gh) : Rep.rep g (ByteArray.empty : ByteArray) [.string ByteArray.empty] := rfl
theorem tc64 (args : Array Value) (w : World) : (callFunc 64 args).run Try.prog w = .ok (.enter 64 args) w := by kernel_rfl
theorem tu88 : Try.prog.underlying 88 = some (.slice 22) := by kernel_rfl
theorem tu4 : Try.prog.underlying 4 = some (.bool) := by kernel_rfl
theorem te22 : ElemT Try.prog 22 1 24 (.slice Option.none 0 0) := ⟨by kernel_rfl, by kernel_rfl, by kernel_rfl, rfl⟩
theorem tc51 (args : Array Value) (w : World) : (callFunc 51 args).run Try.prog w = .ok (.enter 51 args) w := by kernel_rfl
theorem zr54 (g : Gh) : Rep.rep g (({ Key := ByteArray.empty, Cells := [] } : Row) : Row) [.string ByteArray.empty, .slice Option.none 0 0] := rep_Row_mk (.nil _)
def zraw54 : Raw 2 := ⟨[.string ByteArray.empty, .slice Option.none 0 0], rfl, one_cons rfl (one_cons rfl (one_nil))⟩
theorem zrr54 (g : Gh) : Rep.rep g zraw54 [.string ByteArray.empty, .slice Option.none 0 0] := rfl
theorem tc39 (args : Array Value) (w : World) : (callFunc 39 args).run Try.prog w = .ok (.enter 39 args) w := by kernel_rfl
theorem tc40 (args : Array Value) (w : World) : (callFunc 40 args).run Try.prog w = .ok (.enter 40 args) w := by kernel_rfl
theorem tc52 (args : Array Value) (w : World) : (callFunc 52 args).run Try.prog w = .ok (.enter 52 args) w := by kernel_rfl
theorem tc53 (args : Array Value) (w : World) : (callFunc 53 args).run Try.prog w = .ok (.enter 53 args) w := by kernel_rfl
theorem tc38 (args : Array Value) (w : World) : (callFunc 38 args).run Try.prog w = .ok (.enter 38 args) w := by kernel_rfl
theorem tc17 (args : Array Value) (w : World) : (callFunc 17 args).run Try.prog w = .ok (.enter 17 args) w := by kernel_rfl
theorem tc18 (args : Array Value) (w : World) : (callFunc 18 args).run Try.prog w = .ok (.enter 18 args) w := by kernel_rfl
theorem tb25_1 (x1 : Value) (h1 : IsSl x1) (w : World) : (Instr.build 25 [(1, x1)].toArray).run Try.prog w = .ok (.agg #[.slice Option.none 0 0, x1]) w := by obtain ⟨a1, n1, c1, rfl⟩ := h1; kernel_rfl
theorem tc54 (args : Array Value) (w : World) : (callFunc 54 args).run Try.prog w = .ok (.enter 54 args) w := by kernel_rfl
theorem tc42 (args : Array Value) (w : World) : (callFunc 42 args).run Try.prog w = .ok (.enter 42 args) w := by kernel_rfl
theorem tc41 (args : Array Value) (w : World) : (callFunc 41 args).run Try.prog w = .ok (.enter 41 args) w := by kernel_rfl
theorem tc19 (args : Array Value) (w : World) : (callFunc 19 args).run Try.prog w = .ok (.enter 19 args) w := by kernel_rfl
theorem tc20 (args : Array Value) (w : World) : (callFunc 20 args).run Try.prog w = .ok (.enter 20 args) w := by kernel_rfl
theorem tc21 (args : Array Value) (w : World) : (callFunc 21 args).run Try.prog w = .ok (.enter 21 args) w := by kernel_rfl
end Go.Dc
