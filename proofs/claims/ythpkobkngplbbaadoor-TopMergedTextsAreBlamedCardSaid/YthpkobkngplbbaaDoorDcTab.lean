/- Closed facts of the translation. -/
import Derived.Test.YthpkobkngplbbaaDoorDcTy
import Derived.Test.YthpkobkngplbbaaDoorDcR
import Derived.Test.YthpkobkngplbbaaDoorDcSh
import Derived.Test.YthpkobkngplbbaaDoorProg
import Derived.KernelRfl
namespace Go.Dc
open Go Go.Proofs
theorem mo : Tryd.prog.follows .mixedOrders = true := by kernel_rfl
theorem tx125 (s : ByteArray) (c : Int) (w : World) : (callFunc 125 #[.string s, .int .u8 c]).run Tryd.prog w = .ok (.value (.int .i64 (idxB s c))) w := run_idxB (fn := Tryd.f125) Tryd.func125 (by kernel_rfl) (by kernel_rfl) (by kernel_rfl) (by kernel_rfl) s c w
theorem tc104 (args : Array Value) (w : World) : (callFunc 104 args).run Tryd.prog w = .ok (.enter 104 args) w := by kernel_rfl
theorem tz25 : (Tryd.prog.info? 25).bind (·.zero) = some (.agg #[.int .i64 0, .int .i64 0]) := by kernel_rfl
theorem tu22 : Tryd.prog.underlying 22 = some (.slice 9) := by kernel_rfl
theorem tb25_0_1 (x0 : Int) (x1 : Int) (w : World) : (Instr.build 25 [(0, .int .i64 x0), (1, .int .i64 x1)].toArray).run Tryd.prog w = .ok (.agg #[.int .i64 x0, .int .i64 x1]) w := by kernel_rfl
theorem ts25 : (Tryd.prog.info? 25).map (·.size) = some 2 := by kernel_rfl
theorem tu25 : Tryd.prog.underlying 25 = some (.struct (Tryd.prog.fieldsOf 25)) := by kernel_rfl
theorem tb25_  (w : World) : (Instr.build 25 [].toArray).run Tryd.prog w = .ok (.agg #[.int .i64 0, .int .i64 0]) w := by kernel_rfl
theorem ts9 : (Tryd.prog.info? 9).map (·.size) = some 1 := by kernel_rfl
theorem tu9 : Tryd.prog.underlying 9 = some (.string) := by kernel_rfl
theorem tc71 (args : Array Value) (w : World) : (callFunc 71 args).run Tryd.prog w = .ok (.enter 71 args) w := by kernel_rfl
theorem tc44 (args : Array Value) (w : World) : (callFunc 44 args).run Tryd.prog w = .ok (.enter 44 args) w := by kernel_rfl
theorem tqa25 : Tryd.prog.stoodInHeld 25 = false := by kernel_rfl
theorem tqb25 : Tryd.prog.eqGuardType Tryd.prog.depth 25 = false := by kernel_rfl
theorem tqc25 : (Tryd.prog.fieldsOf 25).toList.map (fun f => (f.name, f.type, f.offset)) = [("Code", 3, 0), ("Index", 3, 1)] := by kernel_rfl
theorem tu3 : Tryd.prog.underlying 3 = some (.int .i64) := by kernel_rfl
theorem tf25_0 : ((Tryd.prog.fieldsOf 25)[0]?).map (fun f => (f.offset, f.type)) = some (0, 3) := by kernel_rfl
theorem ts3 : (Tryd.prog.info? 3).map (·.size) = some 1 := by kernel_rfl
theorem tc17 (args : Array Value) (w : World) : (callFunc 17 args).run Tryd.prog w = .ok (.enter 17 args) w := by kernel_rfl
theorem tu31 : Tryd.prog.underlying 31 = some (.slice 3) := by kernel_rfl
theorem tz3 : (Tryd.prog.info? 3).bind (·.zero) = some (.int .i64 0) := by kernel_rfl
theorem te3 : ElemT Tryd.prog 3 1 8 (.int .i64 0) := ⟨by kernel_rfl, by kernel_rfl, by kernel_rfl, rfl⟩
theorem tz31 : (Tryd.prog.info? 31).bind (·.zero) = some (.slice Option.none 0 0) := by kernel_rfl
theorem ts31 : (Tryd.prog.info? 31).map (·.size) = some 1 := by kernel_rfl
theorem tc59 (args : Array Value) (w : World) : (callFunc 59 args).run Tryd.prog w = .ok (.enter 59 args) w := by kernel_rfl
theorem tu101 : Tryd.prog.underlying 101 = some (.struct (Tryd.prog.fieldsOf 101)) := by kernel_rfl
theorem tf101_1 : ((Tryd.prog.fieldsOf 101)[1]?).map (fun f => (f.offset, f.type)) = some (1, 3) := by kernel_rfl
theorem tf101_2 : ((Tryd.prog.fieldsOf 101)[2]?).map (fun f => (f.offset, f.type)) = some (2, 4) := by kernel_rfl
theorem ts4 : (Tryd.prog.info? 4).map (·.size) = some 1 := by kernel_rfl
theorem tc72 (args : Array Value) (w : World) : (callFunc 72 args).run Tryd.prog w = .ok (.enter 72 args) w := by kernel_rfl
theorem tf101_0 : ((Tryd.prog.fieldsOf 101)[0]?).map (fun f => (f.offset, f.type)) = some (0, 53) := by kernel_rfl
theorem ts53 : (Tryd.prog.info? 53).map (·.size) = some 1 := by kernel_rfl
theorem tu53 : Tryd.prog.underlying 53 = some (.slice 75) := by kernel_rfl
theorem ts75 : (Tryd.prog.info? 75).map (·.size) = some 3 := by kernel_rfl
theorem tu75 : Tryd.prog.underlying 75 = some (.struct (Tryd.prog.fieldsOf 75)) := by kernel_rfl
theorem tf75_1 : ((Tryd.prog.fieldsOf 75)[1]?).map (fun f => (f.offset, f.type)) = some (1, 22) := by kernel_rfl
theorem ts22 : (Tryd.prog.info? 22).map (·.size) = some 1 := by kernel_rfl
theorem te9 : ElemT Tryd.prog 9 1 16 (.string ByteArray.empty) := ⟨by kernel_rfl, by kernel_rfl, by kernel_rfl, rfl⟩
theorem tu4 : Tryd.prog.underlying 4 = some (.bool) := by kernel_rfl
theorem tb75_0 (x0 : Int) (w : World) : (Instr.build 75 [(0, .int .i64 x0)].toArray).run Tryd.prog w = .ok (.agg #[.int .i64 x0, .slice Option.none 0 0, .slice Option.none 0 0]) w := by kernel_rfl
theorem te75 : ElemT Tryd.prog 75 3 56 (.agg #[.int .i64 0, .slice Option.none 0 0, .slice Option.none 0 0]) := ⟨by kernel_rfl, by kernel_rfl, by kernel_rfl, rfl⟩
theorem tf75_2 : ((Tryd.prog.fieldsOf 75)[2]?).map (fun f => (f.offset, f.type)) = some (2, 22) := by kernel_rfl
theorem tz55 : (Tryd.prog.info? 55).bind (·.zero) = some (.agg #[.slice Option.none 0 0]) := by kernel_rfl
theorem tc16 (args : Array Value) (w : World) : (callFunc 16 args).run Tryd.prog w = .ok (.enter 16 args) w := by kernel_rfl
theorem tb55_  (w : World) : (Instr.build 55 [].toArray).run Tryd.prog w = .ok (.agg #[.slice Option.none 0 0]) w := by kernel_rfl
theorem ts55 : (Tryd.prog.info? 55).map (·.size) = some 1 := by kernel_rfl
theorem tu55 : Tryd.prog.underlying 55 = some (.struct (Tryd.prog.fieldsOf 55)) := by kernel_rfl
theorem tz101 : (Tryd.prog.info? 101).bind (·.zero) = some (.agg #[.slice Option.none 0 0, .int .i64 0, .bool false]) := by kernel_rfl
theorem tc48 (args : Array Value) (w : World) : (callFunc 48 args).run Tryd.prog w = .ok (.enter 48 args) w := by kernel_rfl
theorem tb55_0 (x0 : Value) (h0 : IsSl x0) (w : World) : (Instr.build 55 [(0, x0)].toArray).run Tryd.prog w = .ok (.agg #[x0]) w := by obtain ⟨a0, n0, c0, rfl⟩ := h0; kernel_rfl
theorem tc32 (args : Array Value) (w : World) : (callFunc 32 args).run Tryd.prog w = .ok (.enter 32 args) w := by kernel_rfl
theorem tc45 (args : Array Value) (w : World) : (callFunc 45 args).run Tryd.prog w = .ok (.enter 45 args) w := by kernel_rfl
theorem tc46 (args : Array Value) (w : World) : (callFunc 46 args).run Tryd.prog w = .ok (.enter 46 args) w := by kernel_rfl
theorem tc47 (args : Array Value) (w : World) : (callFunc 47 args).run Tryd.prog w = .ok (.enter 47 args) w := by kernel_rfl
theorem tf75_0 : ((Tryd.prog.fieldsOf 75)[0]?).map (fun f => (f.offset, f.type)) = some (0, 3) := by kernel_rfl
theorem tf55_0 : ((Tryd.prog.fieldsOf 55)[0]?).map (fun f => (f.offset, f.type)) = some (0, 53) := by kernel_rfl
theorem tz75 : (Tryd.prog.info? 75).bind (·.zero) = some (.agg #[.int .i64 0, .slice Option.none 0 0, .slice Option.none 0 0]) := by kernel_rfl
theorem tc53 (args : Array Value) (w : World) : (callFunc 53 args).run Tryd.prog w = .ok (.enter 53 args) w := by kernel_rfl
theorem tc73 (args : Array Value) (w : World) : (callFunc 73 args).run Tryd.prog w = .ok (.enter 73 args) w := by kernel_rfl
theorem tb63_0_1_2 (x0 : Int) (x1 : Int) (x2 : Int) (w : World) : (Instr.build 63 [(0, .int .i64 x0), (1, .int .i64 x1), (2, .int .i64 x2)].toArray).run Tryd.prog w = .ok (.agg #[.int .i64 x0, .int .i64 x1, .int .i64 x2]) w := by kernel_rfl
theorem tu60 : Tryd.prog.underlying 60 = some (.slice 63) := by kernel_rfl
theorem te63 : ElemT Tryd.prog 63 3 24 (.agg #[.int .i64 0, .int .i64 0, .int .i64 0]) := ⟨by kernel_rfl, by kernel_rfl, by kernel_rfl, rfl⟩
theorem tu131 : Tryd.prog.underlying 131 = some (.int .u64) := by kernel_rfl
theorem tu63 : Tryd.prog.underlying 63 = some (.struct (Tryd.prog.fieldsOf 63)) := by kernel_rfl
theorem tf63_0 : ((Tryd.prog.fieldsOf 63)[0]?).map (fun f => (f.offset, f.type)) = some (0, 3) := by kernel_rfl
theorem tf63_1 : ((Tryd.prog.fieldsOf 63)[1]?).map (fun f => (f.offset, f.type)) = some (1, 3) := by kernel_rfl
theorem tc49 (args : Array Value) (w : World) : (callFunc 49 args).run Tryd.prog w = .ok (.enter 49 args) w := by kernel_rfl
theorem sA63 (w : World) : (isAgg 63).run Tryd.prog w = .ok true w := by kernel_rfl
theorem sZ63 (w : World) : (Go.sizeOf 63).run Tryd.prog w = .ok 3 w := by kernel_rfl
theorem tc51 (args : Array Value) (w : World) : (callFunc 51 args).run Tryd.prog w = .ok (.enter 51 args) w := by kernel_rfl
theorem tc50 (args : Array Value) (w : World) : (callFunc 50 args).run Tryd.prog w = .ok (.enter 50 args) w := by kernel_rfl
theorem ts63 : (Tryd.prog.info? 63).map (·.size) = some 3 := by kernel_rfl
theorem tz63 : (Tryd.prog.info? 63).bind (·.zero) = some (.agg #[.int .i64 0, .int .i64 0, .int .i64 0]) := by kernel_rfl
theorem tc52 (args : Array Value) (w : World) : (callFunc 52 args).run Tryd.prog w = .ok (.enter 52 args) w := by kernel_rfl
theorem tu59 : Tryd.prog.underlying 59 = some (.struct (Tryd.prog.fieldsOf 59)) := by kernel_rfl
theorem tf59_0 : ((Tryd.prog.fieldsOf 59)[0]?).map (fun f => (f.offset, f.type)) = some (0, 23) := by kernel_rfl
theorem ts23 : (Tryd.prog.info? 23).map (·.size) = some 1 := by kernel_rfl
theorem tu23 : Tryd.prog.underlying 23 = some (.slice 70) := by kernel_rfl
theorem ts70 : (Tryd.prog.info? 70).map (·.size) = some 5 := by kernel_rfl
theorem tu70 : Tryd.prog.underlying 70 = some (.struct (Tryd.prog.fieldsOf 70)) := by kernel_rfl
theorem tf70_1 : ((Tryd.prog.fieldsOf 70)[1]?).map (fun f => (f.offset, f.type)) = some (1, 22) := by kernel_rfl
theorem tf70_0 : ((Tryd.prog.fieldsOf 70)[0]?).map (fun f => (f.offset, f.type)) = some (0, 4) := by kernel_rfl
theorem tb70_  (w : World) : (Instr.build 70 [].toArray).run Tryd.prog w = .ok (.agg #[.bool false, .slice Option.none 0 0, .slice Option.none 0 0, .slice Option.none 0 0, .slice Option.none 0 0]) w := by kernel_rfl
theorem te70 : ElemT Tryd.prog 70 5 104 (.agg #[.bool false, .slice Option.none 0 0, .slice Option.none 0 0, .slice Option.none 0 0, .slice Option.none 0 0]) := ⟨by kernel_rfl, by kernel_rfl, by kernel_rfl, rfl⟩
theorem tc18 (args : Array Value) (w : World) : (callFunc 18 args).run Tryd.prog w = .ok (.enter 18 args) w := by kernel_rfl
theorem tz59 : (Tryd.prog.info? 59).bind (·.zero) = some (.agg #[.slice Option.none 0 0]) := by kernel_rfl
theorem tc20 (args : Array Value) (w : World) : (callFunc 20 args).run Tryd.prog w = .ok (.enter 20 args) w := by kernel_rfl
theorem tc19 (args : Array Value) (w : World) : (callFunc 19 args).run Tryd.prog w = .ok (.enter 19 args) w := by kernel_rfl
theorem tc21 (args : Array Value) (w : World) : (callFunc 21 args).run Tryd.prog w = .ok (.enter 21 args) w := by kernel_rfl
theorem tc22 (args : Array Value) (w : World) : (callFunc 22 args).run Tryd.prog w = .ok (.enter 22 args) w := by kernel_rfl
theorem tc23 (args : Array Value) (w : World) : (callFunc 23 args).run Tryd.prog w = .ok (.enter 23 args) w := by kernel_rfl
theorem tc24 (args : Array Value) (w : World) : (callFunc 24 args).run Tryd.prog w = .ok (.enter 24 args) w := by kernel_rfl
theorem tb70_0_2_3_4 (x0 : Bool) (x2 : Value) (h2 : IsSl x2) (x3 : Value) (h3 : IsSl x3) (x4 : Value) (h4 : IsSl x4) (w : World) : (Instr.build 70 [(0, .bool x0), (2, x2), (3, x3), (4, x4)].toArray).run Tryd.prog w = .ok (.agg #[.bool x0, .slice Option.none 0 0, x2, x3, x4]) w := by obtain ⟨a2, n2, c2, rfl⟩ := h2; obtain ⟨a3, n3, c3, rfl⟩ := h3; obtain ⟨a4, n4, c4, rfl⟩ := h4; kernel_rfl
theorem tz70 : (Tryd.prog.info? 70).bind (·.zero) = some (.agg #[.bool false, .slice Option.none 0 0, .slice Option.none 0 0, .slice Option.none 0 0, .slice Option.none 0 0]) := by kernel_rfl
theorem tf70_2 : ((Tryd.prog.fieldsOf 70)[2]?).map (fun f => (f.offset, f.type)) = some (2, 22) := by kernel_rfl
theorem tf70_3 : ((Tryd.prog.fieldsOf 70)[3]?).map (fun f => (f.offset, f.type)) = some (3, 22) := by kernel_rfl
theorem tf70_4 : ((Tryd.prog.fieldsOf 70)[4]?).map (fun f => (f.offset, f.type)) = some (4, 22) := by kernel_rfl
theorem tb112_0_1_2_3 (x0 : Value) (h0 : IsSl x0) (x1 : Value) (h1 : IsSl x1) (x2 : Value) (h2 : IsSl x2) (x3 : Value) (h3 : IsSl x3) (w : World) : (Instr.build 112 [(0, x0), (1, x1), (2, x2), (3, x3)].toArray).run Tryd.prog w = .ok (.agg #[x0, x1, x2, x3]) w := by obtain ⟨a0, n0, c0, rfl⟩ := h0; obtain ⟨a1, n1, c1, rfl⟩ := h1; obtain ⟨a2, n2, c2, rfl⟩ := h2; obtain ⟨a3, n3, c3, rfl⟩ := h3; kernel_rfl
theorem tu112 : Tryd.prog.underlying 112 = some (.array 4 22) := by kernel_rfl
theorem tc25 (args : Array Value) (w : World) : (callFunc 25 args).run Tryd.prog w = .ok (.enter 25 args) w := by kernel_rfl
theorem tc26 (args : Array Value) (w : World) : (callFunc 26 args).run Tryd.prog w = .ok (.enter 26 args) w := by kernel_rfl
theorem tb172_0_1 (x0 : Value) (h0 : IsSl x0) (x1 : Value) (h1 : IsSl x1) (w : World) : (Instr.build 172 [(0, x0), (1, x1)].toArray).run Tryd.prog w = .ok (.agg #[x0, x1]) w := by obtain ⟨a0, n0, c0, rfl⟩ := h0; obtain ⟨a1, n1, c1, rfl⟩ := h1; kernel_rfl
theorem tu172 : Tryd.prog.underlying 172 = some (.array 2 22) := by kernel_rfl
theorem tc75 (args : Array Value) (w : World) : (callFunc 75 args).run Tryd.prog w = .ok (.enter 75 args) w := by kernel_rfl
theorem tc54 (args : Array Value) (w : World) : (callFunc 54 args).run Tryd.prog w = .ok (.enter 54 args) w := by kernel_rfl
theorem tc55 (args : Array Value) (w : World) : (callFunc 55 args).run Tryd.prog w = .ok (.enter 55 args) w := by kernel_rfl
theorem tc141 (args : Array Value) (w : World) : (callFunc 141 args).run Tryd.prog w = .ok (.enter 141 args) w := by kernel_rfl
theorem tz4 : (Tryd.prog.info? 4).bind (·.zero) = some (.bool false) := by kernel_rfl
theorem tc79 (args : Array Value) (w : World) : (callFunc 79 args).run Tryd.prog w = .ok (.enter 79 args) w := by kernel_rfl
theorem tc114 (args : Array Value) (w : World) : (callFunc 114 args).run Tryd.prog w = .ok (.enter 114 args) w := by kernel_rfl
theorem tc131 (args : Array Value) (w : World) : (callFunc 131 args).run Tryd.prog w = .ok (.enter 131 args) w := by kernel_rfl
theorem tc80 (args : Array Value) (w : World) : (callFunc 80 args).run Tryd.prog w = .ok (.enter 80 args) w := by kernel_rfl
theorem tc133 (args : Array Value) (w : World) : (callFunc 133 args).run Tryd.prog w = .ok (.enter 133 args) w := by kernel_rfl
theorem tc134 (args : Array Value) (w : World) : (callFunc 134 args).run Tryd.prog w = .ok (.enter 134 args) w := by kernel_rfl
theorem tc115 (args : Array Value) (w : World) : (callFunc 115 args).run Tryd.prog w = .ok (.enter 115 args) w := by kernel_rfl
theorem tu39 : Tryd.prog.underlying 39 = some (.slice 48) := by kernel_rfl
theorem ts48 : (Tryd.prog.info? 48).map (·.size) = some 2 := by kernel_rfl
theorem tu48 : Tryd.prog.underlying 48 = some (.struct (Tryd.prog.fieldsOf 48)) := by kernel_rfl
theorem tz48 : (Tryd.prog.info? 48).bind (·.zero) = some (.agg #[.string ByteArray.empty, .slice Option.none 0 0]) := by kernel_rfl
theorem tf48_0 : ((Tryd.prog.fieldsOf 48)[0]?).map (fun f => (f.offset, f.type)) = some (0, 9) := by kernel_rfl
theorem tc81 (args : Array Value) (w : World) : (callFunc 81 args).run Tryd.prog w = .ok (.enter 81 args) w := by kernel_rfl
theorem tu41 : Tryd.prog.underlying 41 = some (.struct (Tryd.prog.fieldsOf 41)) := by kernel_rfl
theorem tf41_0 : ((Tryd.prog.fieldsOf 41)[0]?).map (fun f => (f.offset, f.type)) = some (0, 39) := by kernel_rfl
theorem ts39 : (Tryd.prog.info? 39).map (·.size) = some 1 := by kernel_rfl
theorem tc60 (args : Array Value) (w : World) : (callFunc 60 args).run Tryd.prog w = .ok (.enter 60 args) w := by kernel_rfl
theorem tc61 (args : Array Value) (w : World) : (callFunc 61 args).run Tryd.prog w = .ok (.enter 61 args) w := by kernel_rfl
theorem tf48_1 : ((Tryd.prog.fieldsOf 48)[1]?).map (fun f => (f.offset, f.type)) = some (1, 22) := by kernel_rfl
theorem ts41 : (Tryd.prog.info? 41).map (·.size) = some 1 := by kernel_rfl
theorem tc33 (args : Array Value) (w : World) : (callFunc 33 args).run Tryd.prog w = .ok (.enter 33 args) w := by kernel_rfl
theorem tu118 : Tryd.prog.underlying 118 = some (.struct (Tryd.prog.fieldsOf 118)) := by kernel_rfl
theorem tf118_0 : ((Tryd.prog.fieldsOf 118)[0]?).map (fun f => (f.offset, f.type)) = some (0, 3) := by kernel_rfl
theorem tf118_1 : ((Tryd.prog.fieldsOf 118)[1]?).map (fun f => (f.offset, f.type)) = some (1, 9) := by kernel_rfl
theorem tf118_2 : ((Tryd.prog.fieldsOf 118)[2]?).map (fun f => (f.offset, f.type)) = some (2, 9) := by kernel_rfl
theorem tf118_3 : ((Tryd.prog.fieldsOf 118)[3]?).map (fun f => (f.offset, f.type)) = some (3, 22) := by kernel_rfl
theorem tf118_4 : ((Tryd.prog.fieldsOf 118)[4]?).map (fun f => (f.offset, f.type)) = some (4, 55) := by kernel_rfl
theorem tu81 : Tryd.prog.underlying 81 = some (.struct (Tryd.prog.fieldsOf 81)) := by kernel_rfl
theorem tf81_0 : ((Tryd.prog.fieldsOf 81)[0]?).map (fun f => (f.offset, f.type)) = some (0, 79) := by kernel_rfl
theorem ts79 : (Tryd.prog.info? 79).map (·.size) = some 1 := by kernel_rfl
theorem tu79 : Tryd.prog.underlying 79 = some (.slice 118) := by kernel_rfl
theorem ts118 : (Tryd.prog.info? 118).map (·.size) = some 5 := by kernel_rfl
theorem tz118 : (Tryd.prog.info? 118).bind (·.zero) = some (.agg #[.int .i64 0, .string ByteArray.empty, .string ByteArray.empty, .slice Option.none 0 0, .slice Option.none 0 0]) := by kernel_rfl
theorem tc76 (args : Array Value) (w : World) : (callFunc 76 args).run Tryd.prog w = .ok (.enter 76 args) w := by kernel_rfl
theorem tz41 : (Tryd.prog.info? 41).bind (·.zero) = some (.agg #[.slice Option.none 0 0]) := by kernel_rfl
theorem tb48_0_1 (x0 : ByteArray) (x1 : Value) (h1 : IsSl x1) (w : World) : (Instr.build 48 [(0, .string x0), (1, x1)].toArray).run Tryd.prog w = .ok (.agg #[.string x0, x1]) w := by obtain ⟨a1, n1, c1, rfl⟩ := h1; kernel_rfl
theorem te48 : ElemT Tryd.prog 48 2 40 (.agg #[.string ByteArray.empty, .slice Option.none 0 0]) := ⟨by kernel_rfl, by kernel_rfl, by kernel_rfl, rfl⟩
theorem tx135 (p q : ByteArray) (w : World) : (callFunc 135 #[.string p, .string q]).run Tryd.prog w = .ok (.value (.int .i64 (cmpB p q))) w := run_cmpB (fn := Tryd.f135) Tryd.func135 (by kernel_rfl) (by kernel_rfl) (by kernel_rfl) (by kernel_rfl) p q w
theorem tc116 (args : Array Value) (w : World) : (callFunc 116 args).run Tryd.prog w = .ok (.enter 116 args) w := by kernel_rfl
theorem tc85 (args : Array Value) (w : World) : (callFunc 85 args).run Tryd.prog w = .ok (.enter 85 args) w := by kernel_rfl
theorem tc83 (args : Array Value) (w : World) : (callFunc 83 args).run Tryd.prog w = .ok (.enter 83 args) w := by kernel_rfl
theorem tc84 (args : Array Value) (w : World) : (callFunc 84 args).run Tryd.prog w = .ok (.enter 84 args) w := by kernel_rfl
theorem zr48 (g : Gh) : Rep.rep g (({ Path := ByteArray.empty, Lines := [] } : File) : File) [.string ByteArray.empty, .slice Option.none 0 0] := rep_File_mk (.nil _)
theorem tc65 (args : Array Value) (w : World) : (callFunc 65 args).run Tryd.prog w = .ok (.enter 65 args) w := by kernel_rfl
theorem tb48_0 (x0 : ByteArray) (w : World) : (Instr.build 48 [(0, .string x0)].toArray).run Tryd.prog w = .ok (.agg #[.string x0, .slice Option.none 0 0]) w := by kernel_rfl
theorem tc113 (args : Array Value) (w : World) : (callFunc 113 args).run Tryd.prog w = .ok (.enter 113 args) w := by kernel_rfl
theorem tc77 (args : Array Value) (w : World) : (callFunc 77 args).run Tryd.prog w = .ok (.enter 77 args) w := by kernel_rfl
theorem tc78 (args : Array Value) (w : World) : (callFunc 78 args).run Tryd.prog w = .ok (.enter 78 args) w := by kernel_rfl
theorem tc27 (args : Array Value) (w : World) : (callFunc 27 args).run Tryd.prog w = .ok (.enter 27 args) w := by kernel_rfl
theorem ts81 : (Tryd.prog.info? 81).map (·.size) = some 1 := by kernel_rfl
theorem tc56 (args : Array Value) (w : World) : (callFunc 56 args).run Tryd.prog w = .ok (.enter 56 args) w := by kernel_rfl
theorem tb41_  (w : World) : (Instr.build 41 [].toArray).run Tryd.prog w = .ok (.agg #[.slice Option.none 0 0]) w := by kernel_rfl
theorem tc34 (args : Array Value) (w : World) : (callFunc 34 args).run Tryd.prog w = .ok (.enter 34 args) w := by kernel_rfl
theorem tc57 (args : Array Value) (w : World) : (callFunc 57 args).run Tryd.prog w = .ok (.enter 57 args) w := by kernel_rfl
theorem tc58 (args : Array Value) (w : World) : (callFunc 58 args).run Tryd.prog w = .ok (.enter 58 args) w := by kernel_rfl
theorem tz81 : (Tryd.prog.info? 81).bind (·.zero) = some (.agg #[.slice Option.none 0 0]) := by kernel_rfl
theorem tb118_0_1_4 (x0 : Int) (x1 : ByteArray) (x4 : Value) (h4 : IsSl x4) (w : World) : (Instr.build 118 [(0, .int .i64 x0), (1, .string x1), (4, .agg #[x4])].toArray).run Tryd.prog w = .ok (.agg #[.int .i64 x0, .string x1, .string ByteArray.empty, .slice Option.none 0 0, x4]) w := by obtain ⟨a4, n4, c4, rfl⟩ := h4; kernel_rfl
theorem te118 : ElemT Tryd.prog 118 5 88 (.agg #[.int .i64 0, .string ByteArray.empty, .string ByteArray.empty, .slice Option.none 0 0, .slice Option.none 0 0]) := ⟨by kernel_rfl, by kernel_rfl, by kernel_rfl, rfl⟩
theorem tb81_0 (x0 : Value) (h0 : IsSl x0) (w : World) : (Instr.build 81 [(0, x0)].toArray).run Tryd.prog w = .ok (.agg #[x0]) w := by obtain ⟨a0, n0, c0, rfl⟩ := h0; kernel_rfl
theorem tc30 (args : Array Value) (w : World) : (callFunc 30 args).run Tryd.prog w = .ok (.enter 30 args) w := by kernel_rfl
theorem tb75_0_1_2 (x0 : Int) (x1 : Value) (h1 : IsSl x1) (x2 : Value) (h2 : IsSl x2) (w : World) : (Instr.build 75 [(0, .int .i64 x0), (1, x1), (2, x2)].toArray).run Tryd.prog w = .ok (.agg #[.int .i64 x0, x1, x2]) w := by obtain ⟨a1, n1, c1, rfl⟩ := h1; obtain ⟨a2, n2, c2, rfl⟩ := h2; kernel_rfl
theorem tc29 (args : Array Value) (w : World) : (callFunc 29 args).run Tryd.prog w = .ok (.enter 29 args) w := by kernel_rfl
theorem tb41_0 (x0 : Value) (h0 : IsSl x0) (w : World) : (Instr.build 41 [(0, x0)].toArray).run Tryd.prog w = .ok (.agg #[x0]) w := by obtain ⟨a0, n0, c0, rfl⟩ := h0; kernel_rfl
theorem tc28 (args : Array Value) (w : World) : (callFunc 28 args).run Tryd.prog w = .ok (.enter 28 args) w := by kernel_rfl
theorem tc31 (args : Array Value) (w : World) : (callFunc 31 args).run Tryd.prog w = .ok (.enter 31 args) w := by kernel_rfl
theorem tu34 : Tryd.prog.underlying 34 = some (.slice 22) := by kernel_rfl
theorem tc6 (args : Array Value) (w : World) : (callFunc 6 args).run Tryd.prog w = .ok (.enter 6 args) w := by kernel_rfl
theorem tc7 (args : Array Value) (w : World) : (callFunc 7 args).run Tryd.prog w = .ok (.enter 7 args) w := by kernel_rfl
theorem tc8 (args : Array Value) (w : World) : (callFunc 8 args).run Tryd.prog w = .ok (.enter 8 args) w := by kernel_rfl
theorem te22 : ElemT Tryd.prog 22 1 24 (.slice Option.none 0 0) := ⟨by kernel_rfl, by kernel_rfl, by kernel_rfl, rfl⟩
theorem tc9 (args : Array Value) (w : World) : (callFunc 9 args).run Tryd.prog w = .ok (.enter 9 args) w := by kernel_rfl
theorem tc10 (args : Array Value) (w : World) : (callFunc 10 args).run Tryd.prog w = .ok (.enter 10 args) w := by kernel_rfl
theorem tc11 (args : Array Value) (w : World) : (callFunc 11 args).run Tryd.prog w = .ok (.enter 11 args) w := by kernel_rfl
end Go.Dc
