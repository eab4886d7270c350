/- Closed facts of the translation. -/
import Derived.Test.YtibigfejalemjaaDoorDcTy
import Derived.Test.YtibigfejalemjaaDoorDcR
import Derived.Test.YtibigfejalemjaaDoorDcSh
import Derived.Test.YtibigfejalemjaaDoorProg
import Derived.KernelRfl
namespace Go.Dc
open Go Go.Proofs
theorem mo : Tryd.prog.follows .mixedOrders = true := by kernel_rfl
theorem tx38 (s : ByteArray) (c : Int) (w : World) : (callFunc 38 #[.string s, .int .u8 c]).run Tryd.prog w = .ok (.value (.int .i64 (idxB s c))) w := run_idxB (fn := Tryd.f38) Tryd.func38 (by kernel_rfl) (by kernel_rfl) (by kernel_rfl) (by kernel_rfl) s c w
theorem tc23 (args : Array Value) (w : World) : (callFunc 23 args).run Tryd.prog w = .ok (.enter 23 args) w := by kernel_rfl
theorem tz25 : (Tryd.prog.info? 25).bind (·.zero) = some (.agg #[.int .i64 0, .int .i64 0]) := by kernel_rfl
theorem tu22 : Tryd.prog.underlying 22 = some (.slice 9) := by kernel_rfl
theorem tb25_0_1 (x0 : Int) (x1 : Int) (w : World) : (Instr.build 25 [(0, .int .i64 x0), (1, .int .i64 x1)].toArray).run Tryd.prog w = .ok (.agg #[.int .i64 x0, .int .i64 x1]) w := by kernel_rfl
theorem ts25 : (Tryd.prog.info? 25).map (·.size) = some 2 := by kernel_rfl
theorem tu25 : Tryd.prog.underlying 25 = some (.struct (Tryd.prog.fieldsOf 25)) := by kernel_rfl
theorem tb25_  (w : World) : (Instr.build 25 [].toArray).run Tryd.prog w = .ok (.agg #[.int .i64 0, .int .i64 0]) w := by kernel_rfl
theorem ts9 : (Tryd.prog.info? 9).map (·.size) = some 1 := by kernel_rfl
theorem tu9 : Tryd.prog.underlying 9 = some (.string) := by kernel_rfl
theorem tc9 (args : Array Value) (w : World) : (callFunc 9 args).run Tryd.prog w = .ok (.enter 9 args) w := by kernel_rfl
theorem tu39 : Tryd.prog.underlying 39 = some (.struct (Tryd.prog.fieldsOf 39)) := by kernel_rfl
theorem tf39_0 : ((Tryd.prog.fieldsOf 39)[0]?).map (fun f => (f.offset, f.type)) = some (0, 3) := by kernel_rfl
theorem ts3 : (Tryd.prog.info? 3).map (·.size) = some 1 := by kernel_rfl
theorem tu3 : Tryd.prog.underlying 3 = some (.int .i64) := by kernel_rfl
theorem tf39_1 : ((Tryd.prog.fieldsOf 39)[1]?).map (fun f => (f.offset, f.type)) = some (1, 22) := by kernel_rfl
theorem ts22 : (Tryd.prog.info? 22).map (·.size) = some 1 := by kernel_rfl
theorem tf39_2 : ((Tryd.prog.fieldsOf 39)[2]?).map (fun f => (f.offset, f.type)) = some (2, 22) := by kernel_rfl
theorem ts39 : (Tryd.prog.info? 39).map (·.size) = some 3 := by kernel_rfl
theorem tc40 (args : Array Value) (w : World) : (callFunc 40 args).run Tryd.prog w = .ok (.enter 40 args) w := by kernel_rfl
theorem tb112_0_1 (x0 : Value) (h0 : IsSl x0) (x1 : Value) (h1 : IsSl x1) (w : World) : (Instr.build 112 [(0, x0), (1, x1)].toArray).run Tryd.prog w = .ok (.agg #[x0, x1]) w := by obtain ⟨a0, n0, c0, rfl⟩ := h0; obtain ⟨a1, n1, c1, rfl⟩ := h1; kernel_rfl
theorem tu112 : Tryd.prog.underlying 112 = some (.array 2 22) := by kernel_rfl
theorem tc4 (args : Array Value) (w : World) : (callFunc 4 args).run Tryd.prog w = .ok (.enter 4 args) w := by kernel_rfl
theorem tqa25 : Tryd.prog.stoodInHeld 25 = false := by kernel_rfl
theorem tqb25 : Tryd.prog.eqGuardType Tryd.prog.depth 25 = false := by kernel_rfl
theorem tqc25 : (Tryd.prog.fieldsOf 25).toList.map (fun f => (f.name, f.type, f.offset)) = [("Code", 3, 0), ("Index", 3, 1)] := by kernel_rfl
theorem tf25_0 : ((Tryd.prog.fieldsOf 25)[0]?).map (fun f => (f.offset, f.type)) = some (0, 3) := by kernel_rfl
theorem tu42 : Tryd.prog.underlying 42 = some (.struct (Tryd.prog.fieldsOf 42)) := by kernel_rfl
theorem tf42_0 : ((Tryd.prog.fieldsOf 42)[0]?).map (fun f => (f.offset, f.type)) = some (0, 40) := by kernel_rfl
theorem ts40 : (Tryd.prog.info? 40).map (·.size) = some 1 := by kernel_rfl
theorem tu40 : Tryd.prog.underlying 40 = some (.slice 39) := by kernel_rfl
theorem tz39 : (Tryd.prog.info? 39).bind (·.zero) = some (.agg #[.int .i64 0, .slice Option.none 0 0, .slice Option.none 0 0]) := by kernel_rfl
theorem tc39 (args : Array Value) (w : World) : (callFunc 39 args).run Tryd.prog w = .ok (.enter 39 args) w := by kernel_rfl
theorem tc41 (args : Array Value) (w : World) : (callFunc 41 args).run Tryd.prog w = .ok (.enter 41 args) w := by kernel_rfl
theorem te9 : ElemT Tryd.prog 9 1 16 (.string ByteArray.empty) := ⟨by kernel_rfl, by kernel_rfl, by kernel_rfl, rfl⟩
theorem ts42 : (Tryd.prog.info? 42).map (·.size) = some 1 := by kernel_rfl
theorem tc24 (args : Array Value) (w : World) : (callFunc 24 args).run Tryd.prog w = .ok (.enter 24 args) w := by kernel_rfl
theorem tc25 (args : Array Value) (w : World) : (callFunc 25 args).run Tryd.prog w = .ok (.enter 25 args) w := by kernel_rfl
theorem tc27 (args : Array Value) (w : World) : (callFunc 27 args).run Tryd.prog w = .ok (.enter 27 args) w := by kernel_rfl
theorem tc26 (args : Array Value) (w : World) : (callFunc 26 args).run Tryd.prog w = .ok (.enter 26 args) w := by kernel_rfl
theorem tu5 : Tryd.prog.underlying 5 = some (.int .u8) := by kernel_rfl
theorem tu107 : Tryd.prog.underlying 107 = some (.int .u32) := by kernel_rfl
theorem tc93 (args : Array Value) (w : World) : (callFunc 93 args).run Tryd.prog w = .ok (.enter 93 args) w := by kernel_rfl
theorem tc89 (args : Array Value) (w : World) : (callFunc 89 args).run Tryd.prog w = .ok (.enter 89 args) w := by kernel_rfl
theorem tz4 : (Tryd.prog.info? 4).bind (·.zero) = some (.bool false) := by kernel_rfl
theorem ts4 : (Tryd.prog.info? 4).map (·.size) = some 1 := by kernel_rfl
theorem tu4 : Tryd.prog.underlying 4 = some (.bool) := by kernel_rfl
theorem tc73 (args : Array Value) (w : World) : (callFunc 73 args).run Tryd.prog w = .ok (.enter 73 args) w := by kernel_rfl
theorem tc80 (args : Array Value) (w : World) : (callFunc 80 args).run Tryd.prog w = .ok (.enter 80 args) w := by kernel_rfl
theorem tc84 (args : Array Value) (w : World) : (callFunc 84 args).run Tryd.prog w = .ok (.enter 84 args) w := by kernel_rfl
theorem tc74 (args : Array Value) (w : World) : (callFunc 74 args).run Tryd.prog w = .ok (.enter 74 args) w := by kernel_rfl
theorem tc86 (args : Array Value) (w : World) : (callFunc 86 args).run Tryd.prog w = .ok (.enter 86 args) w := by kernel_rfl
theorem tc81 (args : Array Value) (w : World) : (callFunc 81 args).run Tryd.prog w = .ok (.enter 81 args) w := by kernel_rfl
theorem tc75 (args : Array Value) (w : World) : (callFunc 75 args).run Tryd.prog w = .ok (.enter 75 args) w := by kernel_rfl
theorem tu77 : Tryd.prog.underlying 77 = some (.struct (Tryd.prog.fieldsOf 77)) := by kernel_rfl
theorem tf77_0 : ((Tryd.prog.fieldsOf 77)[0]?).map (fun f => (f.offset, f.type)) = some (0, 3) := by kernel_rfl
theorem tf77_1 : ((Tryd.prog.fieldsOf 77)[1]?).map (fun f => (f.offset, f.type)) = some (1, 9) := by kernel_rfl
theorem tc62 (args : Array Value) (w : World) : (callFunc 62 args).run Tryd.prog w = .ok (.enter 62 args) w := by kernel_rfl
theorem tf77_2 : ((Tryd.prog.fieldsOf 77)[2]?).map (fun f => (f.offset, f.type)) = some (2, 9) := by kernel_rfl
theorem tc63 (args : Array Value) (w : World) : (callFunc 63 args).run Tryd.prog w = .ok (.enter 63 args) w := by kernel_rfl
theorem tf77_3 : ((Tryd.prog.fieldsOf 77)[3]?).map (fun f => (f.offset, f.type)) = some (3, 22) := by kernel_rfl
theorem tf77_4 : ((Tryd.prog.fieldsOf 77)[4]?).map (fun f => (f.offset, f.type)) = some (4, 42) := by kernel_rfl
theorem tu51 : Tryd.prog.underlying 51 = some (.struct (Tryd.prog.fieldsOf 51)) := by kernel_rfl
theorem tf51_0 : ((Tryd.prog.fieldsOf 51)[0]?).map (fun f => (f.offset, f.type)) = some (0, 49) := by kernel_rfl
theorem ts49 : (Tryd.prog.info? 49).map (·.size) = some 1 := by kernel_rfl
theorem tu49 : Tryd.prog.underlying 49 = some (.slice 77) := by kernel_rfl
theorem ts77 : (Tryd.prog.info? 77).map (·.size) = some 5 := by kernel_rfl
theorem tz77 : (Tryd.prog.info? 77).bind (·.zero) = some (.agg #[.int .i64 0, .string ByteArray.empty, .string ByteArray.empty, .slice Option.none 0 0, .slice Option.none 0 0]) := by kernel_rfl
theorem tc42 (args : Array Value) (w : World) : (callFunc 42 args).run Tryd.prog w = .ok (.enter 42 args) w := by kernel_rfl
theorem tu44 : Tryd.prog.underlying 44 = some (.slice 54) := by kernel_rfl
theorem ts54 : (Tryd.prog.info? 54).map (·.size) = some 2 := by kernel_rfl
theorem tu54 : Tryd.prog.underlying 54 = some (.struct (Tryd.prog.fieldsOf 54)) := by kernel_rfl
theorem tz54 : (Tryd.prog.info? 54).bind (·.zero) = some (.agg #[.string ByteArray.empty, .slice Option.none 0 0]) := by kernel_rfl
theorem tf54_0 : ((Tryd.prog.fieldsOf 54)[0]?).map (fun f => (f.offset, f.type)) = some (0, 9) := by kernel_rfl
theorem tu46 : Tryd.prog.underlying 46 = some (.struct (Tryd.prog.fieldsOf 46)) := by kernel_rfl
theorem tf46_0 : ((Tryd.prog.fieldsOf 46)[0]?).map (fun f => (f.offset, f.type)) = some (0, 44) := by kernel_rfl
theorem ts44 : (Tryd.prog.info? 44).map (·.size) = some 1 := by kernel_rfl
theorem tc46 (args : Array Value) (w : World) : (callFunc 46 args).run Tryd.prog w = .ok (.enter 46 args) w := by kernel_rfl
theorem tf54_1 : ((Tryd.prog.fieldsOf 54)[1]?).map (fun f => (f.offset, f.type)) = some (1, 22) := by kernel_rfl
theorem ts46 : (Tryd.prog.info? 46).map (·.size) = some 1 := by kernel_rfl
theorem tc43 (args : Array Value) (w : World) : (callFunc 43 args).run Tryd.prog w = .ok (.enter 43 args) w := by kernel_rfl
theorem tz46 : (Tryd.prog.info? 46).bind (·.zero) = some (.agg #[.slice Option.none 0 0]) := by kernel_rfl
theorem tc44 (args : Array Value) (w : World) : (callFunc 44 args).run Tryd.prog w = .ok (.enter 44 args) w := by kernel_rfl
theorem tb54_0_1 (x0 : ByteArray) (x1 : Value) (h1 : IsSl x1) (w : World) : (Instr.build 54 [(0, .string x0), (1, x1)].toArray).run Tryd.prog w = .ok (.agg #[.string x0, x1]) w := by obtain ⟨a1, n1, c1, rfl⟩ := h1; kernel_rfl
theorem te54 : ElemT Tryd.prog 54 2 40 (.agg #[.string ByteArray.empty, .slice Option.none 0 0]) := ⟨by kernel_rfl, by kernel_rfl, by kernel_rfl, rfl⟩
theorem tx82 (p q : ByteArray) (w : World) : (callFunc 82 #[.string p, .string q]).run Tryd.prog w = .ok (.value (.int .i64 (cmpB p q))) w := run_cmpB (fn := Tryd.f82) Tryd.func82 (by kernel_rfl) (by kernel_rfl) (by kernel_rfl) (by kernel_rfl) p q w
theorem tc76 (args : Array Value) (w : World) : (callFunc 76 args).run Tryd.prog w = .ok (.enter 76 args) w := by kernel_rfl
theorem tc66 (args : Array Value) (w : World) : (callFunc 66 args).run Tryd.prog w = .ok (.enter 66 args) w := by kernel_rfl
theorem tc64 (args : Array Value) (w : World) : (callFunc 64 args).run Tryd.prog w = .ok (.enter 64 args) w := by kernel_rfl
theorem tc65 (args : Array Value) (w : World) : (callFunc 65 args).run Tryd.prog w = .ok (.enter 65 args) w := by kernel_rfl
theorem tu83 : Tryd.prog.underlying 83 = some (.int .u64) := by kernel_rfl
theorem zr54 (g : Gh) : Rep.rep g (({ Path := ByteArray.empty, Lines := [] } : File) : File) [.string ByteArray.empty, .slice Option.none 0 0] := rep_File_mk (.nil _)
theorem tc45 (args : Array Value) (w : World) : (callFunc 45 args).run Tryd.prog w = .ok (.enter 45 args) w := by kernel_rfl
theorem tb54_0 (x0 : ByteArray) (w : World) : (Instr.build 54 [(0, .string x0)].toArray).run Tryd.prog w = .ok (.agg #[.string x0, .slice Option.none 0 0]) w := by kernel_rfl
theorem tc67 (args : Array Value) (w : World) : (callFunc 67 args).run Tryd.prog w = .ok (.enter 67 args) w := by kernel_rfl
theorem tc47 (args : Array Value) (w : World) : (callFunc 47 args).run Tryd.prog w = .ok (.enter 47 args) w := by kernel_rfl
theorem tc48 (args : Array Value) (w : World) : (callFunc 48 args).run Tryd.prog w = .ok (.enter 48 args) w := by kernel_rfl
theorem tc10 (args : Array Value) (w : World) : (callFunc 10 args).run Tryd.prog w = .ok (.enter 10 args) w := by kernel_rfl
theorem ts51 : (Tryd.prog.info? 51).map (·.size) = some 1 := by kernel_rfl
theorem tc28 (args : Array Value) (w : World) : (callFunc 28 args).run Tryd.prog w = .ok (.enter 28 args) w := by kernel_rfl
theorem tb46_  (w : World) : (Instr.build 46 [].toArray).run Tryd.prog w = .ok (.agg #[.slice Option.none 0 0]) w := by kernel_rfl
theorem tc29 (args : Array Value) (w : World) : (callFunc 29 args).run Tryd.prog w = .ok (.enter 29 args) w := by kernel_rfl
theorem tc30 (args : Array Value) (w : World) : (callFunc 30 args).run Tryd.prog w = .ok (.enter 30 args) w := by kernel_rfl
theorem tc31 (args : Array Value) (w : World) : (callFunc 31 args).run Tryd.prog w = .ok (.enter 31 args) w := by kernel_rfl
theorem tz51 : (Tryd.prog.info? 51).bind (·.zero) = some (.agg #[.slice Option.none 0 0]) := by kernel_rfl
theorem tb77_0_1_4 (x0 : Int) (x1 : ByteArray) (x4 : Value) (h4 : IsSl x4) (w : World) : (Instr.build 77 [(0, .int .i64 x0), (1, .string x1), (4, .agg #[x4])].toArray).run Tryd.prog w = .ok (.agg #[.int .i64 x0, .string x1, .string ByteArray.empty, .slice Option.none 0 0, x4]) w := by obtain ⟨a4, n4, c4, rfl⟩ := h4; kernel_rfl
theorem te77 : ElemT Tryd.prog 77 5 88 (.agg #[.int .i64 0, .string ByteArray.empty, .string ByteArray.empty, .slice Option.none 0 0, .slice Option.none 0 0]) := ⟨by kernel_rfl, by kernel_rfl, by kernel_rfl, rfl⟩
theorem tb51_0 (x0 : Value) (h0 : IsSl x0) (w : World) : (Instr.build 51 [(0, x0)].toArray).run Tryd.prog w = .ok (.agg #[x0]) w := by obtain ⟨a0, n0, c0, rfl⟩ := h0; kernel_rfl
theorem tc8 (args : Array Value) (w : World) : (callFunc 8 args).run Tryd.prog w = .ok (.enter 8 args) w := by kernel_rfl
theorem tb39_0_1_2 (x0 : Int) (x1 : Value) (h1 : IsSl x1) (x2 : Value) (h2 : IsSl x2) (w : World) : (Instr.build 39 [(0, .int .i64 x0), (1, x1), (2, x2)].toArray).run Tryd.prog w = .ok (.agg #[.int .i64 x0, x1, x2]) w := by obtain ⟨a1, n1, c1, rfl⟩ := h1; obtain ⟨a2, n2, c2, rfl⟩ := h2; kernel_rfl
theorem te39 : ElemT Tryd.prog 39 3 56 (.agg #[.int .i64 0, .slice Option.none 0 0, .slice Option.none 0 0]) := ⟨by kernel_rfl, by kernel_rfl, by kernel_rfl, rfl⟩
theorem tb42_0 (x0 : Value) (h0 : IsSl x0) (w : World) : (Instr.build 42 [(0, x0)].toArray).run Tryd.prog w = .ok (.agg #[x0]) w := by obtain ⟨a0, n0, c0, rfl⟩ := h0; kernel_rfl
theorem tz42 : (Tryd.prog.info? 42).bind (·.zero) = some (.agg #[.slice Option.none 0 0]) := by kernel_rfl
theorem tc12 (args : Array Value) (w : World) : (callFunc 12 args).run Tryd.prog w = .ok (.enter 12 args) w := by kernel_rfl
theorem tb46_0 (x0 : Value) (h0 : IsSl x0) (w : World) : (Instr.build 46 [(0, x0)].toArray).run Tryd.prog w = .ok (.agg #[x0]) w := by obtain ⟨a0, n0, c0, rfl⟩ := h0; kernel_rfl
theorem tc11 (args : Array Value) (w : World) : (callFunc 11 args).run Tryd.prog w = .ok (.enter 11 args) w := by kernel_rfl
theorem tc13 (args : Array Value) (w : World) : (callFunc 13 args).run Tryd.prog w = .ok (.enter 13 args) w := by kernel_rfl
theorem tz60 : (Tryd.prog.info? 60).bind (·.zero) = some (.agg #[.int .i64 0, .int .i64 0]) := by kernel_rfl
theorem tu30 : Tryd.prog.underlying 30 = some (.struct (Tryd.prog.fieldsOf 30)) := by kernel_rfl
theorem tf30_2 : ((Tryd.prog.fieldsOf 30)[2]?).map (fun f => (f.offset, f.type)) = some (2, 3) := by kernel_rfl
theorem tf30_1 : ((Tryd.prog.fieldsOf 30)[1]?).map (fun f => (f.offset, f.type)) = some (1, 3) := by kernel_rfl
theorem tb60_0_1 (x0 : Int) (x1 : Int) (w : World) : (Instr.build 60 [(0, .int .i64 x0), (1, .int .i64 x1)].toArray).run Tryd.prog w = .ok (.agg #[.int .i64 x0, .int .i64 x1]) w := by kernel_rfl
theorem ts60 : (Tryd.prog.info? 60).map (·.size) = some 2 := by kernel_rfl
theorem tu60 : Tryd.prog.underlying 60 = some (.struct (Tryd.prog.fieldsOf 60)) := by kernel_rfl
theorem tf30_4 : ((Tryd.prog.fieldsOf 30)[4]?).map (fun f => (f.offset, f.type)) = some (4, 3) := by kernel_rfl
theorem tf30_3 : ((Tryd.prog.fieldsOf 30)[3]?).map (fun f => (f.offset, f.type)) = some (3, 3) := by kernel_rfl
theorem tu110 : Tryd.prog.underlying 110 = some (.slice 3) := by kernel_rfl
theorem tc60 (args : Array Value) (w : World) : (callFunc 60 args).run Tryd.prog w = .ok (.enter 60 args) w := by kernel_rfl
theorem tf60_0 : ((Tryd.prog.fieldsOf 60)[0]?).map (fun f => (f.offset, f.type)) = some (0, 3) := by kernel_rfl
theorem tf60_1 : ((Tryd.prog.fieldsOf 60)[1]?).map (fun f => (f.offset, f.type)) = some (1, 3) := by kernel_rfl
theorem tc36 (args : Array Value) (w : World) : (callFunc 36 args).run Tryd.prog w = .ok (.enter 36 args) w := by kernel_rfl
theorem te3 : ElemT Tryd.prog 3 1 8 (.int .i64 0) := ⟨by kernel_rfl, by kernel_rfl, by kernel_rfl, rfl⟩
theorem tc35 (args : Array Value) (w : World) : (callFunc 35 args).run Tryd.prog w = .ok (.enter 35 args) w := by kernel_rfl
theorem ts30 : (Tryd.prog.info? 30).map (·.size) = some 6 := by kernel_rfl
theorem tc16 (args : Array Value) (w : World) : (callFunc 16 args).run Tryd.prog w = .ok (.enter 16 args) w := by kernel_rfl
theorem tb60_  (w : World) : (Instr.build 60 [].toArray).run Tryd.prog w = .ok (.agg #[.int .i64 0, .int .i64 0]) w := by kernel_rfl
theorem tqa60 : Tryd.prog.stoodInHeld 60 = false := by kernel_rfl
theorem tqb60 : Tryd.prog.eqGuardType Tryd.prog.depth 60 = false := by kernel_rfl
theorem tqc60 : (Tryd.prog.fieldsOf 60).toList.map (fun f => (f.name, f.type, f.offset)) = [("counter", 3, 0), ("replica", 3, 1)] := by kernel_rfl
theorem tc15 (args : Array Value) (w : World) : (callFunc 15 args).run Tryd.prog w = .ok (.enter 15 args) w := by kernel_rfl
theorem tc49 (args : Array Value) (w : World) : (callFunc 49 args).run Tryd.prog w = .ok (.enter 49 args) w := by kernel_rfl
theorem tf30_0 : ((Tryd.prog.fieldsOf 30)[0]?).map (fun f => (f.offset, f.type)) = some (0, 4) := by kernel_rfl
theorem tf30_5 : ((Tryd.prog.fieldsOf 30)[5]?).map (fun f => (f.offset, f.type)) = some (5, 9) := by kernel_rfl
theorem tc20 (args : Array Value) (w : World) : (callFunc 20 args).run Tryd.prog w = .ok (.enter 20 args) w := by kernel_rfl
theorem tu28 : Tryd.prog.underlying 28 = some (.slice 30) := by kernel_rfl
theorem tz30 : (Tryd.prog.info? 30).bind (·.zero) = some (.agg #[.bool false, .int .i64 0, .int .i64 0, .int .i64 0, .int .i64 0, .string ByteArray.empty]) := by kernel_rfl
theorem tk60 : Key2 Tryd.prog 60 3 "counter" "replica" := ⟨tu60, tqa60, tqc60, by decide, by decide, tu3⟩
theorem tu57 : Tryd.prog.underlying 57 = some (.map 60 4) := by kernel_rfl
theorem tc32 (args : Array Value) (w : World) : (callFunc 32 args).run Tryd.prog w = .ok (.enter 32 args) w := by kernel_rfl
theorem tu109 : Tryd.prog.underlying 109 = some (.int .u64) := by kernel_rfl
theorem tc59 (args : Array Value) (w : World) : (callFunc 59 args).run Tryd.prog w = .ok (.enter 59 args) w := by kernel_rfl
theorem tc34 (args : Array Value) (w : World) : (callFunc 34 args).run Tryd.prog w = .ok (.enter 34 args) w := by kernel_rfl
theorem tu58 : Tryd.prog.underlying 58 = some (.map 60 28) := by kernel_rfl
theorem tz28 : (Tryd.prog.info? 28).bind (·.zero) = some (.slice Option.none 0 0) := by kernel_rfl
theorem sA30 (w : World) : (isAgg 30).run Tryd.prog w = .ok true w := by kernel_rfl
theorem sZ30 (w : World) : (Go.sizeOf 30).run Tryd.prog w = .ok 6 w := by kernel_rfl
theorem tc19 (args : Array Value) (w : World) : (callFunc 19 args).run Tryd.prog w = .ok (.enter 19 args) w := by kernel_rfl
theorem tc18 (args : Array Value) (w : World) : (callFunc 18 args).run Tryd.prog w = .ok (.enter 18 args) w := by kernel_rfl
theorem tu62 : Tryd.prog.underlying 62 = some (.func #[60] #[] false) := by kernel_rfl
theorem tc17 (args : Array Value) (w : World) : (callFunc 17 args).run Tryd.prog w = .ok (.enter 17 args) w := by kernel_rfl
theorem tc14 (args : Array Value) (w : World) : (callFunc 14 args).run Tryd.prog w = .ok (.enter 14 args) w := by kernel_rfl
theorem tz57 : (Tryd.prog.info? 57).bind (·.zero) = some (.map Option.none) := by kernel_rfl
theorem ts57 : (Tryd.prog.info? 57).map (·.size) = some 1 := by kernel_rfl
theorem tz58 : (Tryd.prog.info? 58).bind (·.zero) = some (.map Option.none) := by kernel_rfl
theorem ts58 : (Tryd.prog.info? 58).map (·.size) = some 1 := by kernel_rfl
theorem tz22 : (Tryd.prog.info? 22).bind (·.zero) = some (.slice Option.none 0 0) := by kernel_rfl
theorem tz62 : (Tryd.prog.info? 62).bind (·.zero) = some (.nilFunc) := by kernel_rfl
theorem ts62 : (Tryd.prog.info? 62).map (·.size) = some 1 := by kernel_rfl
theorem te30 : ElemT Tryd.prog 30 6 56 (.agg #[.bool false, .int .i64 0, .int .i64 0, .int .i64 0, .int .i64 0, .string ByteArray.empty]) := ⟨by kernel_rfl, by kernel_rfl, by kernel_rfl, rfl⟩
theorem tu87 : Tryd.prog.underlying 87 = some (.array 2 3) := by kernel_rfl
theorem tc61 (args : Array Value) (w : World) : (callFunc 61 args).run Tryd.prog w = .ok (.enter 61 args) w := by kernel_rfl
theorem tu67 : Tryd.prog.underlying 67 = some (.slice 5) := by kernel_rfl
theorem tb25_0 (x0 : Int) (w : World) : (Instr.build 25 [(0, .int .i64 x0)].toArray).run Tryd.prog w = .ok (.agg #[.int .i64 x0, .int .i64 0]) w := by kernel_rfl
theorem ts5 : (Tryd.prog.info? 5).map (·.size) = some 1 := by kernel_rfl
theorem tb87_0_1 (x0 : Int) (x1 : Int) (w : World) : (Instr.build 87 [(0, .int .i64 x0), (1, .int .i64 x1)].toArray).run Tryd.prog w = .ok (.agg #[.int .i64 x0, .int .i64 x1]) w := by kernel_rfl
theorem tc37 (args : Array Value) (w : World) : (callFunc 37 args).run Tryd.prog w = .ok (.enter 37 args) w := by kernel_rfl
theorem tc21 (args : Array Value) (w : World) : (callFunc 21 args).run Tryd.prog w = .ok (.enter 21 args) w := by kernel_rfl
theorem tc22 (args : Array Value) (w : World) : (callFunc 22 args).run Tryd.prog w = .ok (.enter 22 args) w := by kernel_rfl
theorem tu23 : Tryd.prog.underlying 23 = some (.slice 4) := by kernel_rfl
theorem tc5 (args : Array Value) (w : World) : (callFunc 5 args).run Tryd.prog w = .ok (.enter 5 args) w := by kernel_rfl
theorem tc6 (args : Array Value) (w : World) : (callFunc 6 args).run Tryd.prog w = .ok (.enter 6 args) w := by kernel_rfl
theorem tc7 (args : Array Value) (w : World) : (callFunc 7 args).run Tryd.prog w = .ok (.enter 7 args) w := by kernel_rfl
theorem tb30_2_1_4_3_5 (x2 : Int) (x1 : Int) (x4 : Int) (x3 : Int) (x5 : ByteArray) (w : World) : (Instr.build 30 [(2, .int .i64 x2), (1, .int .i64 x1), (4, .int .i64 x4), (3, .int .i64 x3), (5, .string x5)].toArray).run Tryd.prog w = .ok (.agg #[.bool false, .int .i64 x1, .int .i64 x2, .int .i64 x3, .int .i64 x4, .string x5]) w := by kernel_rfl
theorem tb30_0_2_1 (x0 : Bool) (x2 : Int) (x1 : Int) (w : World) : (Instr.build 30 [(0, .bool x0), (2, .int .i64 x2), (1, .int .i64 x1)].toArray).run Tryd.prog w = .ok (.agg #[.bool x0, .int .i64 x1, .int .i64 x2, .int .i64 0, .int .i64 0, .string ByteArray.empty]) w := by kernel_rfl
end Go.Dc
