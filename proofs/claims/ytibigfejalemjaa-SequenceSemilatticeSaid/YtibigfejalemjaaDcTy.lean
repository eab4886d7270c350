/- The data of the program. -/
import Derived.Test.YtibigfejalemjaaDcZM
namespace Go.Dc
open Go
structure SeqOp where
  Delete : Bool
  Replica : Int
  Counter : Int
  AfterReplica : Int
  AfterCounter : Int
  Line : ByteArray
instance : Rep SeqOp where
  n := 6
  rep := fun g x cs => cs = [.bool x.Delete, .int .i64 x.Replica, .int .i64 x.Counter, .int .i64 x.AfterReplica, .int .i64 x.AfterCounter, .string x.Line]
  len := fun h => by obtain rfl := h; rfl
  mono := fun hl h => by obtain h := h; exact h
  one := fun h => by obtain rfl := h; exact one_cons rfl (one_cons rfl (one_cons rfl (one_cons rfl (one_cons rfl (one_cons rfl (one_nil))))))
theorem rep_SeqOp {g : Gh} {x : SeqOp} {cs : List Value} (h : Rep.rep g x cs) : cs = [.bool x.Delete, .int .i64 x.Replica, .int .i64 x.Counter, .int .i64 x.AfterReplica, .int .i64 x.AfterCounter, .string x.Line] := h
theorem rep_SeqOp_mk {g : Gh} {x : SeqOp} : Rep.rep g x [.bool x.Delete, .int .i64 x.Replica, .int .i64 x.Counter, .int .i64 x.AfterReplica, .int .i64 x.AfterCounter, .string x.Line] := rfl

structure Element_sequence where
  counter : Int
  replica : Int
instance : Rep Element_sequence where
  n := 2
  rep := fun g x cs => cs = [.int .i64 x.counter, .int .i64 x.replica]
  len := fun h => by obtain rfl := h; rfl
  mono := fun hl h => by obtain h := h; exact h
  one := fun h => by obtain rfl := h; exact one_cons rfl (one_cons rfl (one_nil))
theorem rep_Element_sequence {g : Gh} {x : Element_sequence} {cs : List Value} (h : Rep.rep g x cs) : cs = [.int .i64 x.counter, .int .i64 x.replica] := h
theorem rep_Element_sequence_mk {g : Gh} {x : Element_sequence} : Rep.rep g x [.int .i64 x.counter, .int .i64 x.replica] := rfl

structure Fault where
  Code : Int
  Index : Int
instance : Rep Fault where
  n := 2
  rep := fun g x cs => cs = [.int .i64 x.Code, .int .i64 x.Index]
  len := fun h => by obtain rfl := h; rfl
  mono := fun hl h => by obtain h := h; exact h
  one := fun h => by obtain rfl := h; exact one_cons rfl (one_cons rfl (one_nil))
theorem rep_Fault {g : Gh} {x : Fault} {cs : List Value} (h : Rep.rep g x cs) : cs = [.int .i64 x.Code, .int .i64 x.Index] := h
theorem rep_Fault_mk {g : Gh} {x : Fault} : Rep.rep g x [.int .i64 x.Code, .int .i64 x.Index] := rfl

end Go.Dc
