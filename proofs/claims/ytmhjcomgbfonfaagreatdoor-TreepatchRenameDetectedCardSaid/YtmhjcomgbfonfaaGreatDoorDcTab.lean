/- Closed facts of the translation. -/
import Derived.Test.YtmhjcomgbfonfaaGreatDoorDcTy
import Derived.Test.YtmhjcomgbfonfaaGreatDoorDcR
import Derived.Test.YtmhjcomgbfonfaaGreatDoorDcRS
import Derived.Test.YtmhjcomgbfonfaaGreatDoorDcSh
import Derived.Test.YtmhjcomgbfonfaaGreatDoorProg
import Derived.KernelRfl
namespace Go.Dc
open Go Go.Proofs
theorem mo : Tryz.prog.follows .mixedOrders = true := by kernel_rfl
theorem tx236 (s : ByteArray) (c : Int) (w : World) : (callFunc 236 #[.string s, .int .u8 c]).run Tryz.prog w = .ok (.value (.int .i64 (idxB s c))) w := run_idxB (fn := Tryz.f236) Tryz.func236 (by kernel_rfl) (by kernel_rfl) (by kernel_rfl) (by kernel_rfl) s c w
theorem tu9 : Tryz.prog.underlying 9 = some (.string) := by kernel_rfl
theorem tc212 (args : Array Value) (w : World) : (callFunc 212 args).run Tryz.prog w = .ok (.enter 212 args) w := by kernel_rfl
theorem tc235 (args : Array Value) (w : World) : (callFunc 235 args).run Tryz.prog w = .ok (.enter 235 args) w := by kernel_rfl
theorem tz4 : (Tryz.prog.info? 4).bind (·.zero) = some (.bool false) := by kernel_rfl
theorem ts4 : (Tryz.prog.info? 4).map (·.size) = some 1 := by kernel_rfl
theorem tu4 : Tryz.prog.underlying 4 = some (.bool) := by kernel_rfl
theorem tc106 (args : Array Value) (w : World) : (callFunc 106 args).run Tryz.prog w = .ok (.enter 106 args) w := by kernel_rfl
theorem tc168 (args : Array Value) (w : World) : (callFunc 168 args).run Tryz.prog w = .ok (.enter 168 args) w := by kernel_rfl
theorem tc209 (args : Array Value) (w : World) : (callFunc 209 args).run Tryz.prog w = .ok (.enter 209 args) w := by kernel_rfl
theorem tc107 (args : Array Value) (w : World) : (callFunc 107 args).run Tryz.prog w = .ok (.enter 107 args) w := by kernel_rfl
theorem tc211 (args : Array Value) (w : World) : (callFunc 211 args).run Tryz.prog w = .ok (.enter 211 args) w := by kernel_rfl
theorem tu3 : Tryz.prog.underlying 3 = some (.int .i64) := by kernel_rfl
theorem ts9 : (Tryz.prog.info? 9).map (·.size) = some 1 := by kernel_rfl
theorem tz30 : (Tryz.prog.info? 30).bind (·.zero) = some (.agg #[.int .i64 0, .int .i64 0]) := by kernel_rfl
theorem tu42 : Tryz.prog.underlying 42 = some (.slice 9) := by kernel_rfl
theorem tb30_0_1 (x0 : Int) (x1 : Int) (w : World) : (Instr.build 30 [(0, .int .i64 x0), (1, .int .i64 x1)].toArray).run Tryz.prog w = .ok (.agg #[.int .i64 x0, .int .i64 x1]) w := by kernel_rfl
theorem ts30 : (Tryz.prog.info? 30).map (·.size) = some 2 := by kernel_rfl
theorem tu30 : Tryz.prog.underlying 30 = some (.struct (Tryz.prog.fieldsOf 30)) := by kernel_rfl
theorem tb30_  (w : World) : (Instr.build 30 [].toArray).run Tryz.prog w = .ok (.agg #[.int .i64 0, .int .i64 0]) w := by kernel_rfl
theorem tc169 (args : Array Value) (w : World) : (callFunc 169 args).run Tryz.prog w = .ok (.enter 169 args) w := by kernel_rfl
theorem tu91 : Tryz.prog.underlying 91 = some (.struct (Tryz.prog.fieldsOf 91)) := by kernel_rfl
theorem tf91_0 : ((Tryz.prog.fieldsOf 91)[0]?).map (fun f => (f.offset, f.type)) = some (0, 3) := by kernel_rfl
theorem ts3 : (Tryz.prog.info? 3).map (·.size) = some 1 := by kernel_rfl
theorem tf91_1 : ((Tryz.prog.fieldsOf 91)[1]?).map (fun f => (f.offset, f.type)) = some (1, 42) := by kernel_rfl
theorem ts42 : (Tryz.prog.info? 42).map (·.size) = some 1 := by kernel_rfl
theorem tf91_2 : ((Tryz.prog.fieldsOf 91)[2]?).map (fun f => (f.offset, f.type)) = some (2, 42) := by kernel_rfl
theorem ts91 : (Tryz.prog.info? 91).map (·.size) = some 3 := by kernel_rfl
theorem tc110 (args : Array Value) (w : World) : (callFunc 110 args).run Tryz.prog w = .ok (.enter 110 args) w := by kernel_rfl
theorem tb216_0_1 (x0 : Value) (h0 : IsSl x0) (x1 : Value) (h1 : IsSl x1) (w : World) : (Instr.build 216 [(0, x0), (1, x1)].toArray).run Tryz.prog w = .ok (.agg #[x0, x1]) w := by obtain ⟨a0, n0, c0, rfl⟩ := h0; obtain ⟨a1, n1, c1, rfl⟩ := h1; kernel_rfl
theorem tu216 : Tryz.prog.underlying 216 = some (.array 2 42) := by kernel_rfl
theorem tc108 (args : Array Value) (w : World) : (callFunc 108 args).run Tryz.prog w = .ok (.enter 108 args) w := by kernel_rfl
theorem tqa30 : Tryz.prog.stoodInHeld 30 = false := by kernel_rfl
theorem tqb30 : Tryz.prog.eqGuardType Tryz.prog.depth 30 = false := by kernel_rfl
theorem tqc30 : (Tryz.prog.fieldsOf 30).toList.map (fun f => (f.name, f.type, f.offset)) = [("Code", 3, 0), ("Index", 3, 1)] := by kernel_rfl
theorem tf30_0 : ((Tryz.prog.fieldsOf 30)[0]?).map (fun f => (f.offset, f.type)) = some (0, 3) := by kernel_rfl
theorem tu45 : Tryz.prog.underlying 45 = some (.struct (Tryz.prog.fieldsOf 45)) := by kernel_rfl
theorem tf45_0 : ((Tryz.prog.fieldsOf 45)[0]?).map (fun f => (f.offset, f.type)) = some (0, 43) := by kernel_rfl
theorem ts43 : (Tryz.prog.info? 43).map (·.size) = some 1 := by kernel_rfl
theorem tu43 : Tryz.prog.underlying 43 = some (.slice 91) := by kernel_rfl
theorem tz91 : (Tryz.prog.info? 91).bind (·.zero) = some (.agg #[.int .i64 0, .slice Option.none 0 0, .slice Option.none 0 0]) := by kernel_rfl
theorem tc109 (args : Array Value) (w : World) : (callFunc 109 args).run Tryz.prog w = .ok (.enter 109 args) w := by kernel_rfl
theorem tc206 (args : Array Value) (w : World) : (callFunc 206 args).run Tryz.prog w = .ok (.enter 206 args) w := by kernel_rfl
theorem tc150 (args : Array Value) (w : World) : (callFunc 150 args).run Tryz.prog w = .ok (.enter 150 args) w := by kernel_rfl
theorem tu51 : Tryz.prog.underlying 51 = some (.struct (Tryz.prog.fieldsOf 51)) := by kernel_rfl
theorem tf51_0 : ((Tryz.prog.fieldsOf 51)[0]?).map (fun f => (f.offset, f.type)) = some (0, 3) := by kernel_rfl
theorem tf51_1 : ((Tryz.prog.fieldsOf 51)[1]?).map (fun f => (f.offset, f.type)) = some (1, 9) := by kernel_rfl
theorem tc53 (args : Array Value) (w : World) : (callFunc 53 args).run Tryz.prog w = .ok (.enter 53 args) w := by kernel_rfl
theorem tf51_2 : ((Tryz.prog.fieldsOf 51)[2]?).map (fun f => (f.offset, f.type)) = some (2, 9) := by kernel_rfl
theorem tc92 (args : Array Value) (w : World) : (callFunc 92 args).run Tryz.prog w = .ok (.enter 92 args) w := by kernel_rfl
theorem tf51_3 : ((Tryz.prog.fieldsOf 51)[3]?).map (fun f => (f.offset, f.type)) = some (3, 42) := by kernel_rfl
theorem tf51_4 : ((Tryz.prog.fieldsOf 51)[4]?).map (fun f => (f.offset, f.type)) = some (4, 45) := by kernel_rfl
theorem ts45 : (Tryz.prog.info? 45).map (·.size) = some 1 := by kernel_rfl
theorem tc55 (args : Array Value) (w : World) : (callFunc 55 args).run Tryz.prog w = .ok (.enter 55 args) w := by kernel_rfl
theorem tu27 : Tryz.prog.underlying 27 = some (.struct (Tryz.prog.fieldsOf 27)) := by kernel_rfl
theorem tf27_0 : ((Tryz.prog.fieldsOf 27)[0]?).map (fun f => (f.offset, f.type)) = some (0, 25) := by kernel_rfl
theorem ts25 : (Tryz.prog.info? 25).map (·.size) = some 1 := by kernel_rfl
theorem tu25 : Tryz.prog.underlying 25 = some (.slice 51) := by kernel_rfl
theorem ts51 : (Tryz.prog.info? 51).map (·.size) = some 5 := by kernel_rfl
theorem tz51 : (Tryz.prog.info? 51).bind (·.zero) = some (.agg #[.int .i64 0, .string ByteArray.empty, .string ByteArray.empty, .slice Option.none 0 0, .slice Option.none 0 0]) := by kernel_rfl
theorem tc104 (args : Array Value) (w : World) : (callFunc 104 args).run Tryz.prog w = .ok (.enter 104 args) w := by kernel_rfl
theorem tu22 : Tryz.prog.underlying 22 = some (.slice 80) := by kernel_rfl
theorem ts80 : (Tryz.prog.info? 80).map (·.size) = some 2 := by kernel_rfl
theorem tu80 : Tryz.prog.underlying 80 = some (.struct (Tryz.prog.fieldsOf 80)) := by kernel_rfl
theorem tz80 : (Tryz.prog.info? 80).bind (·.zero) = some (.agg #[.string ByteArray.empty, .slice Option.none 0 0]) := by kernel_rfl
theorem tf80_0 : ((Tryz.prog.fieldsOf 80)[0]?).map (fun f => (f.offset, f.type)) = some (0, 9) := by kernel_rfl
theorem tu24 : Tryz.prog.underlying 24 = some (.struct (Tryz.prog.fieldsOf 24)) := by kernel_rfl
theorem tf24_0 : ((Tryz.prog.fieldsOf 24)[0]?).map (fun f => (f.offset, f.type)) = some (0, 22) := by kernel_rfl
theorem ts22 : (Tryz.prog.info? 22).map (·.size) = some 1 := by kernel_rfl
theorem tc36 (args : Array Value) (w : World) : (callFunc 36 args).run Tryz.prog w = .ok (.enter 36 args) w := by kernel_rfl
theorem tf80_1 : ((Tryz.prog.fieldsOf 80)[1]?).map (fun f => (f.offset, f.type)) = some (1, 42) := by kernel_rfl
theorem tc54 (args : Array Value) (w : World) : (callFunc 54 args).run Tryz.prog w = .ok (.enter 54 args) w := by kernel_rfl
theorem ts24 : (Tryz.prog.info? 24).map (·.size) = some 1 := by kernel_rfl
theorem tc16 (args : Array Value) (w : World) : (callFunc 16 args).run Tryz.prog w = .ok (.enter 16 args) w := by kernel_rfl
theorem te9 : ElemT Tryz.prog 9 1 16 (.string ByteArray.empty) := ⟨by kernel_rfl, by kernel_rfl, by kernel_rfl, rfl⟩
theorem tz24 : (Tryz.prog.info? 24).bind (·.zero) = some (.agg #[.slice Option.none 0 0]) := by kernel_rfl
theorem tc64 (args : Array Value) (w : World) : (callFunc 64 args).run Tryz.prog w = .ok (.enter 64 args) w := by kernel_rfl
theorem tb80_0_1 (x0 : ByteArray) (x1 : Value) (h1 : IsSl x1) (w : World) : (Instr.build 80 [(0, .string x0), (1, x1)].toArray).run Tryz.prog w = .ok (.agg #[.string x0, x1]) w := by obtain ⟨a1, n1, c1, rfl⟩ := h1; kernel_rfl
theorem te80 : ElemT Tryz.prog 80 2 40 (.agg #[.string ByteArray.empty, .slice Option.none 0 0]) := ⟨by kernel_rfl, by kernel_rfl, by kernel_rfl, rfl⟩
theorem tc63 (args : Array Value) (w : World) : (callFunc 63 args).run Tryz.prog w = .ok (.enter 63 args) w := by kernel_rfl
theorem tc57 (args : Array Value) (w : World) : (callFunc 57 args).run Tryz.prog w = .ok (.enter 57 args) w := by kernel_rfl
theorem tc56 (args : Array Value) (w : World) : (callFunc 56 args).run Tryz.prog w = .ok (.enter 56 args) w := by kernel_rfl
theorem tx221 (p q : ByteArray) (w : World) : (callFunc 221 #[.string p, .string q]).run Tryz.prog w = .ok (.value (.int .i64 (cmpB p q))) w := run_cmpB (fn := Tryz.f221) Tryz.func221 (by kernel_rfl) (by kernel_rfl) (by kernel_rfl) (by kernel_rfl) p q w
theorem tc174 (args : Array Value) (w : World) : (callFunc 174 args).run Tryz.prog w = .ok (.enter 174 args) w := by kernel_rfl
theorem tc131 (args : Array Value) (w : World) : (callFunc 131 args).run Tryz.prog w = .ok (.enter 131 args) w := by kernel_rfl
theorem tc129 (args : Array Value) (w : World) : (callFunc 129 args).run Tryz.prog w = .ok (.enter 129 args) w := by kernel_rfl
theorem tc130 (args : Array Value) (w : World) : (callFunc 130 args).run Tryz.prog w = .ok (.enter 130 args) w := by kernel_rfl
theorem tu196 : Tryz.prog.underlying 196 = some (.int .u64) := by kernel_rfl
theorem zr80 (g : Gh) : Rep.rep g (({ Path := ByteArray.empty, Lines := [] } : File) : File) [.string ByteArray.empty, .slice Option.none 0 0] := rep_File_mk (.nil _)
theorem tc72 (args : Array Value) (w : World) : (callFunc 72 args).run Tryz.prog w = .ok (.enter 72 args) w := by kernel_rfl
theorem tb80_0 (x0 : ByteArray) (w : World) : (Instr.build 80 [(0, .string x0)].toArray).run Tryz.prog w = .ok (.agg #[.string x0, .slice Option.none 0 0]) w := by kernel_rfl
theorem tc91 (args : Array Value) (w : World) : (callFunc 91 args).run Tryz.prog w = .ok (.enter 91 args) w := by kernel_rfl
theorem tc35 (args : Array Value) (w : World) : (callFunc 35 args).run Tryz.prog w = .ok (.enter 35 args) w := by kernel_rfl
theorem tc105 (args : Array Value) (w : World) : (callFunc 105 args).run Tryz.prog w = .ok (.enter 105 args) w := by kernel_rfl
theorem tc17 (args : Array Value) (w : World) : (callFunc 17 args).run Tryz.prog w = .ok (.enter 17 args) w := by kernel_rfl
theorem ts27 : (Tryz.prog.info? 27).map (·.size) = some 1 := by kernel_rfl
theorem tc49 (args : Array Value) (w : World) : (callFunc 49 args).run Tryz.prog w = .ok (.enter 49 args) w := by kernel_rfl
theorem tb24_  (w : World) : (Instr.build 24 [].toArray).run Tryz.prog w = .ok (.agg #[.slice Option.none 0 0]) w := by kernel_rfl
theorem tc50 (args : Array Value) (w : World) : (callFunc 50 args).run Tryz.prog w = .ok (.enter 50 args) w := by kernel_rfl
theorem tc51 (args : Array Value) (w : World) : (callFunc 51 args).run Tryz.prog w = .ok (.enter 51 args) w := by kernel_rfl
theorem tc52 (args : Array Value) (w : World) : (callFunc 52 args).run Tryz.prog w = .ok (.enter 52 args) w := by kernel_rfl
theorem tz3 : (Tryz.prog.info? 3).bind (·.zero) = some (.int .i64 0) := by kernel_rfl
theorem te51 : ElemT Tryz.prog 51 5 88 (.agg #[.int .i64 0, .string ByteArray.empty, .string ByteArray.empty, .slice Option.none 0 0, .slice Option.none 0 0]) := ⟨by kernel_rfl, by kernel_rfl, by kernel_rfl, rfl⟩
theorem tc141 (args : Array Value) (w : World) : (callFunc 141 args).run Tryz.prog w = .ok (.enter 141 args) w := by kernel_rfl
theorem tu168 : Tryz.prog.underlying 168 = some (.slice 3) := by kernel_rfl
theorem te3 : ElemT Tryz.prog 3 1 8 (.int .i64 0) := ⟨by kernel_rfl, by kernel_rfl, by kernel_rfl, rfl⟩
theorem tz168 : (Tryz.prog.info? 168).bind (·.zero) = some (.slice Option.none 0 0) := by kernel_rfl
theorem ts168 : (Tryz.prog.info? 168).map (·.size) = some 1 := by kernel_rfl
theorem tc170 (args : Array Value) (w : World) : (callFunc 170 args).run Tryz.prog w = .ok (.enter 170 args) w := by kernel_rfl
theorem tc58 (args : Array Value) (w : World) : (callFunc 58 args).run Tryz.prog w = .ok (.enter 58 args) w := by kernel_rfl
theorem tc111 (args : Array Value) (w : World) : (callFunc 111 args).run Tryz.prog w = .ok (.enter 111 args) w := by kernel_rfl
theorem tc15 (args : Array Value) (w : World) : (callFunc 15 args).run Tryz.prog w = .ok (.enter 15 args) w := by kernel_rfl
theorem tc46 (args : Array Value) (w : World) : (callFunc 46 args).run Tryz.prog w = .ok (.enter 46 args) w := by kernel_rfl
theorem tb27_0 (x0 : Value) (h0 : IsSl x0) (w : World) : (Instr.build 27 [(0, x0)].toArray).run Tryz.prog w = .ok (.agg #[x0]) w := by obtain ⟨a0, n0, c0, rfl⟩ := h0; kernel_rfl
theorem tb51_0_1_2 (x0 : Int) (x1 : ByteArray) (x2 : ByteArray) (w : World) : (Instr.build 51 [(0, .int .i64 x0), (1, .string x1), (2, .string x2)].toArray).run Tryz.prog w = .ok (.agg #[.int .i64 x0, .string x1, .string x2, .slice Option.none 0 0, .slice Option.none 0 0]) w := by kernel_rfl
theorem tc12 (args : Array Value) (w : World) : (callFunc 12 args).run Tryz.prog w = .ok (.enter 12 args) w := by kernel_rfl
theorem tb24_0 (x0 : Value) (h0 : IsSl x0) (w : World) : (Instr.build 24 [(0, x0)].toArray).run Tryz.prog w = .ok (.agg #[x0]) w := by obtain ⟨a0, n0, c0, rfl⟩ := h0; kernel_rfl
theorem tz27 : (Tryz.prog.info? 27).bind (·.zero) = some (.agg #[.slice Option.none 0 0]) := by kernel_rfl
theorem tc18 (args : Array Value) (w : World) : (callFunc 18 args).run Tryz.prog w = .ok (.enter 18 args) w := by kernel_rfl
theorem tc19 (args : Array Value) (w : World) : (callFunc 19 args).run Tryz.prog w = .ok (.enter 19 args) w := by kernel_rfl
theorem tc27 (args : Array Value) (w : World) : (callFunc 27 args).run Tryz.prog w = .ok (.enter 27 args) w := by kernel_rfl
theorem tc136 (args : Array Value) (w : World) : (callFunc 136 args).run Tryz.prog w = .ok (.enter 136 args) w := by kernel_rfl
theorem tc135 (args : Array Value) (w : World) : (callFunc 135 args).run Tryz.prog w = .ok (.enter 135 args) w := by kernel_rfl
theorem tc176 (args : Array Value) (w : World) : (callFunc 176 args).run Tryz.prog w = .ok (.enter 176 args) w := by kernel_rfl
theorem tc137 (args : Array Value) (w : World) : (callFunc 137 args).run Tryz.prog w = .ok (.enter 137 args) w := by kernel_rfl
theorem tc138 (args : Array Value) (w : World) : (callFunc 138 args).run Tryz.prog w = .ok (.enter 138 args) w := by kernel_rfl
theorem tu135 : Tryz.prog.underlying 135 = some (.struct (Tryz.prog.fieldsOf 135)) := by kernel_rfl
theorem tf135_2 : ((Tryz.prog.fieldsOf 135)[2]?).map (fun f => (f.offset, f.type)) = some (2, 3) := by kernel_rfl
theorem tf135_0 : ((Tryz.prog.fieldsOf 135)[0]?).map (fun f => (f.offset, f.type)) = some (0, 9) := by kernel_rfl
theorem tf135_1 : ((Tryz.prog.fieldsOf 135)[1]?).map (fun f => (f.offset, f.type)) = some (1, 9) := by kernel_rfl
theorem tc82 (args : Array Value) (w : World) : (callFunc 82 args).run Tryz.prog w = .ok (.enter 82 args) w := by kernel_rfl
theorem tc81 (args : Array Value) (w : World) : (callFunc 81 args).run Tryz.prog w = .ok (.enter 81 args) w := by kernel_rfl
theorem tu67 : Tryz.prog.underlying 67 = some (.array 2 9) := by kernel_rfl
theorem sA135 (w : World) : (isAgg 135).run Tryz.prog w = .ok true w := by kernel_rfl
theorem sZ135 (w : World) : (Go.sizeOf 135).run Tryz.prog w = .ok 3 w := by kernel_rfl
theorem tc80 (args : Array Value) (w : World) : (callFunc 80 args).run Tryz.prog w = .ok (.enter 80 args) w := by kernel_rfl
theorem tc79 (args : Array Value) (w : World) : (callFunc 79 args).run Tryz.prog w = .ok (.enter 79 args) w := by kernel_rfl
theorem sA67 (w : World) : (isAgg 67).run Tryz.prog w = .ok true w := by kernel_rfl
theorem sZ67 (w : World) : (Go.sizeOf 67).run Tryz.prog w = .ok 2 w := by kernel_rfl
theorem tc86 (args : Array Value) (w : World) : (callFunc 86 args).run Tryz.prog w = .ok (.enter 86 args) w := by kernel_rfl
theorem tc85 (args : Array Value) (w : World) : (callFunc 85 args).run Tryz.prog w = .ok (.enter 85 args) w := by kernel_rfl
theorem tu130 : Tryz.prog.underlying 130 = some (.slice 135) := by kernel_rfl
theorem ts135 : (Tryz.prog.info? 135).map (·.size) = some 3 := by kernel_rfl
theorem tz135 : (Tryz.prog.info? 135).bind (·.zero) = some (.agg #[.string ByteArray.empty, .string ByteArray.empty, .int .i64 0]) := by kernel_rfl
theorem tc84 (args : Array Value) (w : World) : (callFunc 84 args).run Tryz.prog w = .ok (.enter 84 args) w := by kernel_rfl
theorem tc142 (args : Array Value) (w : World) : (callFunc 142 args).run Tryz.prog w = .ok (.enter 142 args) w := by kernel_rfl
theorem tb67_0_1 (x0 : ByteArray) (x1 : ByteArray) (w : World) : (Instr.build 67 [(0, .string x0), (1, .string x1)].toArray).run Tryz.prog w = .ok (.agg #[.string x0, .string x1]) w := by kernel_rfl
theorem tu63 : Tryz.prog.underlying 63 = some (.slice 67) := by kernel_rfl
theorem te67 : ElemT Tryz.prog 67 2 32 (.agg #[.string ByteArray.empty, .string ByteArray.empty]) := ⟨by kernel_rfl, by kernel_rfl, by kernel_rfl, rfl⟩
theorem ts67 : (Tryz.prog.info? 67).map (·.size) = some 2 := by kernel_rfl
theorem tc83 (args : Array Value) (w : World) : (callFunc 83 args).run Tryz.prog w = .ok (.enter 83 args) w := by kernel_rfl
theorem tc77 (args : Array Value) (w : World) : (callFunc 77 args).run Tryz.prog w = .ok (.enter 77 args) w := by kernel_rfl
theorem tc78 (args : Array Value) (w : World) : (callFunc 78 args).run Tryz.prog w = .ok (.enter 78 args) w := by kernel_rfl
theorem tb135_0_1_2 (x0 : ByteArray) (x1 : ByteArray) (x2 : Int) (w : World) : (Instr.build 135 [(0, .string x0), (1, .string x1), (2, .int .i64 x2)].toArray).run Tryz.prog w = .ok (.agg #[.string x0, .string x1, .int .i64 x2]) w := by kernel_rfl
theorem te135 : ElemT Tryz.prog 135 3 40 (.agg #[.string ByteArray.empty, .string ByteArray.empty, .int .i64 0]) := ⟨by kernel_rfl, by kernel_rfl, by kernel_rfl, rfl⟩
theorem tqb67 : Tryz.prog.eqGuardType Tryz.prog.depth 67 = false := by kernel_rfl
theorem tc28 (args : Array Value) (w : World) : (callFunc 28 args).run Tryz.prog w = .ok (.enter 28 args) w := by kernel_rfl
theorem tc29 (args : Array Value) (w : World) : (callFunc 29 args).run Tryz.prog w = .ok (.enter 29 args) w := by kernel_rfl
end Go.Dc
