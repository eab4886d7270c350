/- The functions as pure models. -/
import Derived.Test.YtibigfejalemjaaDcTy
import Derived.Test.YtibigfejalemjaaDcR
namespace Go.Dc
open Go
set_option linter.unusedVariables false
noncomputable def sequence_own (o_ : SeqOp) : Option Element_sequence :=
 some ({ counter := o_.Counter, replica := o_.Replica } : Element_sequence)

noncomputable def sequence_after (o_ : SeqOp) : Option Element_sequence :=
 some ({ counter := o_.AfterCounter, replica := o_.AfterReplica } : Element_sequence)

noncomputable def stringslite_IndexByte (s_ : ByteArray) (c_ : Int) : Option Int :=
 some (idxB s_ c_)

noncomputable def strings_IndexByte (s_ : ByteArray) (c_ : Int) : Option Int :=
(stringslite_IndexByte s_ c_).bind fun y1 =>
 some y1

noncomputable def lines_Validate.j1 : Option Fault :=
 some ({ Code := 0, Index := 0 } : Fault)

noncomputable def lines_Validate.l1 (lines : (List ByteArray)) (x1 : Int) : Option (Step Int (Fault ⊕ Unit)) :=
 if decide (x1 < (lines.length : Int)) then
(at? lines x1).bind fun y1 =>
 if decide ((y1.size : Int) > 80) then
 some (Step.done (Sum.inl ({ Code := 2, Index := x1 } : Fault)))
 else
(strings_IndexByte y1 10).bind fun y2 =>
 if decide (y2 ≥ 0) then
 some (Step.done (Sum.inl ({ Code := 5, Index := x1 } : Fault)))
 else
(ckK .i64 (x1 + 1)).bind fun z1 =>
 some (Step.next z1)
 else
 some (Step.done (Sum.inr ()))

noncomputable def lines_Validate (lines : (List ByteArray)) : Option Fault :=
 if decide ((lines.length : Int) > 120) then
 some ({ Code := 2, Index := (-1) } : Fault)
 else
(iter (fun s => lines_Validate.l1 lines s) 0).bind fun r1 =>
(match r1 with
| .inl p => some p
| .inr _ => lines_Validate.j1)

noncomputable def cmp_Or.j1 : Option Int :=
 some 0

noncomputable def cmp_Or.l1 (vals : (List Int)) (x1 : Int) : Option (Step Int (Int ⊕ Unit)) :=
 if decide (x1 < (vals.length : Int)) then
(at? vals x1).bind fun y1 =>
 if !decide (y1 = 0) then
 some (Step.done (Sum.inl y1))
 else
(ckK .i64 (x1 + 1)).bind fun z1 =>
 some (Step.next z1)
 else
 some (Step.done (Sum.inr ()))

noncomputable def cmp_Or (vals : (List Int)) : Option Int :=
(iter (fun s => cmp_Or.l1 vals s) 0).bind fun r1 =>
(match r1 with
| .inl p => some p
| .inr _ => cmp_Or.j1)

noncomputable def cmp_isNaN (x_ : Int) : Option Bool :=
 some (!decide (x_ = x_))

noncomputable def cmp_Compare (x_ : Int) (y : Int) : Option Int :=
(cmp_isNaN x_).bind fun y1 =>
(cmp_isNaN y).bind fun y2 =>
 if y1 then
 if y2 then
 some 0
 else
 some (-1)
 else
 if y2 then
 some 1
 else
 if decide (x_ < y) then
 some (-1)
 else
 if decide (x_ > y) then
 some 1
 else
 some 0

noncomputable def sequence_compare (a_ : Element_sequence) (b_ : Element_sequence) : Option Int :=
(cmp_Compare a_.counter b_.counter).bind fun y1 =>
(cmp_Compare a_.replica b_.replica).bind fun y2 =>
(cmp_Or ([y1, y2] : List Int)).bind fun y3 =>
 some y3

noncomputable def sequence_valid (e_ : Element_sequence) : Option Bool :=
(if decide (e_.counter ≥ 1) then some (decide (e_.counter ≤ 1000000000)) else some false).bind fun x1 =>
(if x1 then some (decide (e_.replica ≥ 0)) else some false).bind fun x2 =>
(if x2 then some (decide (e_.replica < 6)) else some false).bind fun x3 =>
 some x3

noncomputable def sequence_check (o_ : SeqOp) : Option Int :=
(sequence_after o_).bind fun y1 =>
(sequence_own o_).bind fun y2 =>
(sequence_valid y2).bind fun y3 =>
 if !y3 then
 some 3
 else
(if o_.Delete then (if !(decide (y1.counter = 0) && decide (y1.replica = 0)) then some true else some (!decide (o_.Line = (⟨#[]⟩ : ByteArray)))).bind fun x2 =>
 some x2 else some false).bind fun x1 =>
 if x1 then
 some 5
 else
(if !o_.Delete then some (!(decide (y1.counter = 0) && decide (y1.replica = 0))) else some false).bind fun x3 =>
(if x3 then (sequence_after o_).bind fun y4 =>
(sequence_valid y4).bind fun y5 =>
 some !y5 else some false).bind fun x4 =>
 if x4 then
 some 3
 else
(if !o_.Delete then (sequence_after o_).bind fun y6 =>
(sequence_own o_).bind fun y7 =>
(sequence_compare y6 y7).bind fun y8 =>
 some (decide (y8 ≥ 0)) else some false).bind fun x5 =>
 if x5 then
 some 5
 else
(lines_Validate ([o_.Line] : List ByteArray)).bind fun y9 =>
 some y9.Code

noncomputable def sequence_Validate.j2 : Option Fault :=
 some ({ Code := 0, Index := 0 } : Fault)

noncomputable def sequence_Validate.j3 (x1 : List (K2 × Bool)) (x2 : Int) (x4 : Int) (x5 : Int) : Option (Step Int (Fault ⊕ Unit)) :=
(if !(decide (x4 = 0) && decide (x5 = 0)) then some (!((mget x1 (x4, x5)).getD false)) else some false).bind fun x6 =>
 if x6 then
 some (Step.done (Sum.inl ({ Code := 6, Index := x2 } : Fault)))
 else
(ckK .i64 (x2 + 1)).bind fun z1 =>
 some (Step.next z1)

noncomputable def sequence_Validate.l1 (ops : (List SeqOp)) (x1 : List (K2 × Bool)) (x2 : Int) : Option (Step Int (Fault ⊕ Unit)) :=
 if decide (x2 < (ops.length : Int)) then
(at? ops x2).bind fun y1 =>
(sequence_own y1).bind fun y2 =>
 if !y1.Delete then
(sequence_after y1).bind fun y3 =>
 sequence_Validate.j3 x1 x2 y3.counter y3.replica
 else
 sequence_Validate.j3 x1 x2 y2.counter y2.replica
 else
 some (Step.done (Sum.inr ()))

noncomputable def sequence_Validate.j1 (ops : (List SeqOp)) (x1 : List (K2 × Bool)) : Option Fault :=
(iter (fun s => sequence_Validate.l1 ops x1 s) 0).bind fun r1 =>
(match r1 with
| .inl p => some p
| .inr _ => sequence_Validate.j2)

noncomputable def sequence_Validate.l2 (ops : (List SeqOp)) (x7 : Int) (x8 : List (K2 × Bool)) (x9 : List (K2 × Bool)) : Option (Step (Int × (List (K2 × Bool)) × (List (K2 × Bool))) (Fault ⊕ (List (K2 × Bool)))) :=
 if decide (x7 < (ops.length : Int)) then
(at? ops x7).bind fun y4 =>
(sequence_check y4).bind fun y5 =>
 if !decide (y5 = 0) then
 some (Step.done (Sum.inl ({ Code := y5, Index := x7 } : Fault)))
 else
 if y4.Delete then
(sequence_own y4).bind fun y6 =>
 if (mget x8 (y6.counter, y6.replica)).getD false then
 some (Step.done (Sum.inl ({ Code := 7, Index := x7 } : Fault)))
 else
(sequence_own y4).bind fun y7 =>
(some (mput x8 (y7.counter, y7.replica) true)).bind fun y8 =>
(ckK .i64 (x7 + 1)).bind fun z2 =>
 some (Step.next (z2, y8, x9))
 else
(sequence_own y4).bind fun y9 =>
 if (mget x9 (y9.counter, y9.replica)).getD false then
 some (Step.done (Sum.inl ({ Code := 7, Index := x7 } : Fault)))
 else
(sequence_own y4).bind fun y10 =>
(some (mput x9 (y10.counter, y10.replica) true)).bind fun y11 =>
(ckK .i64 (x7 + 1)).bind fun z3 =>
 some (Step.next (z3, x8, y11))
 else
 some (Step.done (Sum.inr x9))

noncomputable def sequence_Validate (ops : (List SeqOp)) : Option Fault :=
 if decide ((ops.length : Int) > 60) then
 some ({ Code := 2, Index := (-1) } : Fault)
 else
(iter (fun s => sequence_Validate.l2 ops s.1 s.2.1 s.2.2) (0, ([] : List (K2 × Bool)), ([] : List (K2 × Bool)))).bind fun r2 =>
(match r2 with
| .inl p => some p
| .inr p => sequence_Validate.j1 ops p)

noncomputable def bits_Len32.j2 (x3 : Int) (x4 : Int) : Option Int :=
(ckK .u8 x4).bind fun z1 =>
(sAt? (⟨#[0, 1, 2, 2, 3, 3, 3, 3, 4, 4, 4, 4, 4, 4, 4, 4, 5, 5, 5, 5, 5, 5, 5, 5, 5, 5, 5, 5, 5, 5, 5, 5, 6, 6, 6, 6, 6, 6, 6, 6, 6, 6, 6, 6, 6, 6, 6, 6, 6, 6, 6, 6, 6, 6, 6, 6, 6, 6, 6, 6, 6, 6, 6, 6, 7, 7, 7, 7, 7, 7, 7, 7, 7, 7, 7, 7, 7, 7, 7, 7, 7, 7, 7, 7, 7, 7, 7, 7, 7, 7, 7, 7, 7, 7, 7, 7, 7, 7, 7, 7, 7, 7, 7, 7, 7, 7, 7, 7, 7, 7, 7, 7, 7, 7, 7, 7, 7, 7, 7, 7, 7, 7, 7, 7, 7, 7, 7, 7, 8, 8, 8, 8, 8, 8, 8, 8, 8, 8, 8, 8, 8, 8, 8, 8, 8, 8, 8, 8, 8, 8, 8, 8, 8, 8, 8, 8, 8, 8, 8, 8, 8, 8, 8, 8, 8, 8, 8, 8, 8, 8, 8, 8, 8, 8, 8, 8, 8, 8, 8, 8, 8, 8, 8, 8, 8, 8, 8, 8, 8, 8, 8, 8, 8, 8, 8, 8, 8, 8, 8, 8, 8, 8, 8, 8, 8, 8, 8, 8, 8, 8, 8, 8, 8, 8, 8, 8, 8, 8, 8, 8, 8, 8, 8, 8, 8, 8, 8, 8, 8, 8, 8, 8, 8, 8, 8, 8, 8, 8, 8, 8, 8, 8, 8, 8, 8, 8, 8, 8, 8, 8, 8, 8, 8, 8, 8, 8]⟩ : ByteArray) z1).bind fun y1 =>
(ckK .i64 y1).bind fun z2 =>
(ckK .i64 (x3 + z2)).bind fun z3 =>
 some z3

noncomputable def bits_Len32.j1 (x1 : Int) (x2 : Int) : Option Int :=
 if decide (x2 ≥ 256) then
(shr? .u32 x2 8).bind fun z4 =>
(ckK .i64 (x1 + 8)).bind fun z5 =>
 bits_Len32.j2 z5 z4
 else
 bits_Len32.j2 x1 x2

noncomputable def bits_Len32 (x_ : Int) : Option Int :=
 if decide (x_ ≥ 65536) then
(shr? .u32 x_ 16).bind fun z6 =>
 bits_Len32.j1 16 z6
 else
 bits_Len32.j1 0 x_

noncomputable def bits_Len64.j3 (x5 : Int) (x6 : Int) : Option Int :=
(ckK .u8 x6).bind fun z1 =>
(sAt? (⟨#[0, 1, 2, 2, 3, 3, 3, 3, 4, 4, 4, 4, 4, 4, 4, 4, 5, 5, 5, 5, 5, 5, 5, 5, 5, 5, 5, 5, 5, 5, 5, 5, 6, 6, 6, 6, 6, 6, 6, 6, 6, 6, 6, 6, 6, 6, 6, 6, 6, 6, 6, 6, 6, 6, 6, 6, 6, 6, 6, 6, 6, 6, 6, 6, 7, 7, 7, 7, 7, 7, 7, 7, 7, 7, 7, 7, 7, 7, 7, 7, 7, 7, 7, 7, 7, 7, 7, 7, 7, 7, 7, 7, 7, 7, 7, 7, 7, 7, 7, 7, 7, 7, 7, 7, 7, 7, 7, 7, 7, 7, 7, 7, 7, 7, 7, 7, 7, 7, 7, 7, 7, 7, 7, 7, 7, 7, 7, 7, 8, 8, 8, 8, 8, 8, 8, 8, 8, 8, 8, 8, 8, 8, 8, 8, 8, 8, 8, 8, 8, 8, 8, 8, 8, 8, 8, 8, 8, 8, 8, 8, 8, 8, 8, 8, 8, 8, 8, 8, 8, 8, 8, 8, 8, 8, 8, 8, 8, 8, 8, 8, 8, 8, 8, 8, 8, 8, 8, 8, 8, 8, 8, 8, 8, 8, 8, 8, 8, 8, 8, 8, 8, 8, 8, 8, 8, 8, 8, 8, 8, 8, 8, 8, 8, 8, 8, 8, 8, 8, 8, 8, 8, 8, 8, 8, 8, 8, 8, 8, 8, 8, 8, 8, 8, 8, 8, 8, 8, 8, 8, 8, 8, 8, 8, 8, 8, 8, 8, 8, 8, 8, 8, 8, 8, 8, 8, 8]⟩ : ByteArray) z1).bind fun y1 =>
(ckK .i64 y1).bind fun z2 =>
(ckK .i64 (x5 + z2)).bind fun z3 =>
 some z3

noncomputable def bits_Len64.j2 (x3 : Int) (x4 : Int) : Option Int :=
 if decide (x4 ≥ 256) then
(shr? .u64 x4 8).bind fun z4 =>
(ckK .i64 (x3 + 8)).bind fun z5 =>
 bits_Len64.j3 z5 z4
 else
 bits_Len64.j3 x3 x4

noncomputable def bits_Len64.j1 (x1 : Int) (x2 : Int) : Option Int :=
 if decide (x2 ≥ 65536) then
(shr? .u64 x2 16).bind fun z6 =>
(ckK .i64 (x1 + 16)).bind fun z7 =>
 bits_Len64.j2 z7 z6
 else
 bits_Len64.j2 x1 x2

noncomputable def bits_Len64 (x_ : Int) : Option Int :=
 if decide (x_ ≥ 4294967296) then
(shr? .u64 x_ 32).bind fun z8 =>
 bits_Len64.j1 32 z8
 else
 bits_Len64.j1 0 x_

noncomputable def bits_Len (x_ : Int) : Option Int :=
(bits_Len64 x_).bind fun y1 =>
 some y1

noncomputable def slices_nextPowerOfTwo (length : Int) : Option Int :=
(ckK .u64 length).bind fun z1 =>
(bits_Len z1).bind fun y1 =>
(shl? .u64 1 y1).bind fun z2 =>
 some z2

noncomputable def sequence_Visible_s1_s1 (a_ : SeqOp) (b_ : SeqOp) : Option Int :=
(sequence_own b_).bind fun y1 =>
(sequence_own a_).bind fun y2 =>
(sequence_compare y1 y2).bind fun y3 =>
 some y3

noncomputable def sequence_Visible_s1.j1 (x1 : List (K2 × Option (List SeqOp))) (x2 : List ByteArray) : Option ((List (K2 × Option (List SeqOp))) × (List ByteArray)) :=
 some (x1, x2)

noncomputable def sequence_Visible_s1.j2 (u2 : (List (K2 × Bool))) (rec_ : Element_sequence → (List (K2 × Option (List SeqOp))) → (List (K2 × Bool)) → (List ByteArray) → Option ((List (K2 × Option (List SeqOp))) × (List ByteArray))) (x3 : Int) (x4 : List (K2 × Option (List SeqOp))) (y3 : SeqOp) (x7 : List ByteArray) : Option (Step (Int × (List (K2 × Option (List SeqOp))) × (List ByteArray)) ((List (K2 × Option (List SeqOp))) × (List ByteArray))) :=
(sequence_own y3).bind fun y4 =>
(rec_ y4 x4 u2 x7).bind fun y5 =>
(ckK .i64 (x3 + 1)).bind fun z1 =>
 some (Step.next (z1, y5.1, y5.2))

noncomputable def sequence_Visible_s1.l1 (u2 : (List (K2 × Bool))) (rec_ : Element_sequence → (List (K2 × Option (List SeqOp))) → (List (K2 × Bool)) → (List ByteArray) → Option ((List (K2 × Option (List SeqOp))) × (List ByteArray))) (y2 : List SeqOp) (x3 : Int) (x4 : List (K2 × Option (List SeqOp))) (x5 : List ByteArray) : Option (Step (Int × (List (K2 × Option (List SeqOp))) × (List ByteArray)) ((List (K2 × Option (List SeqOp))) × (List ByteArray))) :=
 if decide (x3 < (y2.length : Int)) then
(at? y2 x3).bind fun y3 =>
(sequence_own y3).bind fun y6 =>
 if !((mget u2 (y6.counter, y6.replica)).getD false) then
(app? 16 x5 ([y3.Line] : List ByteArray)).bind fun y7 =>
 sequence_Visible_s1.j2 u2 rec_ x3 x4 y3 y7
 else
 sequence_Visible_s1.j2 u2 rec_ x3 x4 y3 x5
 else
 some (Step.done (x4, x5))

noncomputable def sequence_Visible_s1.body (rec_ : Element_sequence → (List (K2 × Option (List SeqOp))) → (List (K2 × Bool)) → (List ByteArray) → Option ((List (K2 × Option (List SeqOp))) × (List ByteArray))) (e_ : Element_sequence) (u1 : (List (K2 × Option (List SeqOp)))) (u2 : (List (K2 × Bool))) (u3 : (List ByteArray)) : Option ((List (K2 × Option (List SeqOp))) × (List ByteArray)) :=
(lookM u1 (e_.counter, e_.replica)).bind fun y1 =>
(sortM sequence_Visible_s1_s1 y1).bind fun y2 =>
(iter (fun s => sequence_Visible_s1.l1 u2 rec_ y2 s.1 s.2.1 s.2.2) (0, (deadM u1 (e_.counter, e_.replica)), u3)).bind fun r1 =>
 sequence_Visible_s1.j1 r1.1 r1.2

noncomputable def sequence_Visible_s1.m : Nat → Element_sequence → (List (K2 × Option (List SeqOp))) → (List (K2 × Bool)) → (List ByteArray) → Option ((List (K2 × Option (List SeqOp))) × (List ByteArray))
| 0 => fun _ _ _ _ => Option.none
| k + 1 => sequence_Visible_s1.body (sequence_Visible_s1.m k)

noncomputable def sequence_Visible_s1 (e_ : Element_sequence) (u1 : (List (K2 × Option (List SeqOp)))) (u2 : (List (K2 × Bool))) (u3 : (List ByteArray)) : Option ((List (K2 × Option (List SeqOp))) × (List ByteArray)) := sequence_Visible_s1.m (100) e_ u1 u2 u3

noncomputable def sequence_Visible.j1 (x1 : List (K2 × Option (List SeqOp))) (x2 : List (K2 × Bool)) : Option ((List ByteArray) × Fault) :=
(sequence_Visible_s1 ({ counter := 0, replica := 0 } : Element_sequence) x1 x2 []).bind fun y2 =>
 some (y2.2, ({ Code := 0, Index := 0 } : Fault))

noncomputable def sequence_Visible.j2 (x3 : Int) (x7 : List (K2 × Option (List SeqOp))) (x8 : List (K2 × Bool)) : Option (Step (Int × (List (K2 × Option (List SeqOp))) × (List (K2 × Bool))) ((List (K2 × Option (List SeqOp))) × (List (K2 × Bool)))) :=
(ckK .i64 (x3 + 1)).bind fun z1 =>
 some (Step.next (z1, x7, x8))

noncomputable def sequence_Visible.j3 (x3 : Int) (x5 : List (K2 × Bool)) (y6 : Element_sequence) (y8 : List SeqOp) (x9 : List SeqOp) (x11 : List (K2 × Option (List SeqOp))) : Option (Step (Int × (List (K2 × Option (List SeqOp))) × (List (K2 × Bool))) ((List (K2 × Option (List SeqOp))) × (List (K2 × Bool)))) :=
(app? 56 y8 x9).bind fun y9 =>
(some (mput x11 (y6.counter, y6.replica) (some y9))).bind fun y10 =>
 sequence_Visible.j2 x3 y10 x5

noncomputable def sequence_Visible.l1 (ops : (List SeqOp)) (x3 : Int) (x4 : List (K2 × Option (List SeqOp))) (x5 : List (K2 × Bool)) : Option (Step (Int × (List (K2 × Option (List SeqOp))) × (List (K2 × Bool))) ((List (K2 × Option (List SeqOp))) × (List (K2 × Bool)))) :=
 if decide (x3 < (ops.length : Int)) then
(at? ops x3).bind fun y3 =>
 if y3.Delete then
(sequence_own y3).bind fun y4 =>
(some (mput x5 (y4.counter, y4.replica) true)).bind fun y5 =>
 sequence_Visible.j2 x3 x4 y5
 else
(sequence_after y3).bind fun y6 =>
(sequence_after y3).bind fun y7 =>
(lookM x4 (y7.counter, y7.replica)).bind fun y8 =>
 sequence_Visible.j3 x3 x5 y6 y8 ([y3] : List SeqOp) (deadM x4 (y7.counter, y7.replica))
 else
 some (Step.done (x4, x5))

noncomputable def sequence_Visible (ops : (List SeqOp)) : Option ((List ByteArray) × Fault) :=
(sequence_Validate ops).bind fun y1 =>
 if !(decide (y1.Code = 0) && decide (y1.Index = 0)) then
 some ([], y1)
 else
(iter (fun s => sequence_Visible.l1 ops s.1 s.2.1 s.2.2) (0, ([] : List (K2 × Option (List SeqOp))), ([] : List (K2 × Bool)))).bind fun r1 =>
 sequence_Visible.j1 r1.1 r1.2

noncomputable def changeforgelaw2_turned.j1 (x1 : List SeqOp) : Option (List SeqOp) :=
 some x1

noncomputable def changeforgelaw2_turned.l1 (l_ : (List SeqOp)) (x2 : Int) (x3 : List SeqOp) : Option (Step (Int × (List SeqOp)) (List SeqOp)) :=
 if decide (x2 ≥ 0) then
(at? l_ x2).bind fun y1 =>
(app? 56 x3 ([y1] : List SeqOp)).bind fun y2 =>
(ckK .i64 (x2 - 1)).bind fun z2 =>
 some (Step.next (z2, y2))
 else
 some (Step.done x3)

noncomputable def changeforgelaw2_turned (l_ : (List SeqOp)) : Option (List SeqOp) :=
(ckK .i64 ((l_.length : Int) - 1)).bind fun z1 =>
(iter (fun s => changeforgelaw2_turned.l1 l_ s.1 s.2) (z1, [])).bind fun r1 =>
 changeforgelaw2_turned.j1 r1

noncomputable def changeforgeequal_Strings.j1 : Option Bool :=
 some true

noncomputable def changeforgeequal_Strings.l1 (a_ : (List ByteArray)) (b_ : (List ByteArray)) (x1 : Int) : Option (Step Int (Bool ⊕ Unit)) :=
 if decide (x1 < (a_.length : Int)) then
(at? a_ x1).bind fun y1 =>
(at? b_ x1).bind fun y2 =>
 if !decide (y1 = y2) then
 some (Step.done (Sum.inl false))
 else
(ckK .i64 (x1 + 1)).bind fun z1 =>
 some (Step.next z1)
 else
 some (Step.done (Sum.inr ()))

noncomputable def changeforgeequal_Strings (a_ : (List ByteArray)) (b_ : (List ByteArray)) : Option Bool :=
 if !decide ((a_.length : Int) = (b_.length : Int)) then
 some false
 else
(iter (fun s => changeforgeequal_Strings.l1 a_ b_ s) 0).bind fun r1 =>
(match r1 with
| .inl p => some p
| .inr _ => changeforgeequal_Strings.j1)

noncomputable def changeforgelaw2_insert (counter : Int) (replica : Int) (afterCounter : Int) (afterReplica : Int) (line : ByteArray) : Option SeqOp :=
 some ({ Delete := false, Replica := replica, Counter := counter, AfterReplica := afterReplica, AfterCounter := afterCounter, Line := line } : SeqOp)

noncomputable def changeforgelaw2_latest : Option Bool :=
(changeforgelaw2_insert 1 0 0 0 (⟨#[97]⟩ : ByteArray)).bind fun y1 =>
(changeforgelaw2_insert 2 0 0 0 (⟨#[98]⟩ : ByteArray)).bind fun y2 =>
(sequence_Visible ([y1, y2] : List SeqOp)).bind fun y3 =>
(if decide (y3.2.Code = 0) then (changeforgeequal_Strings y3.1 ([(⟨#[98]⟩ : ByteArray), (⟨#[97]⟩ : ByteArray)] : List ByteArray)).bind fun y4 =>
 some y4 else some false).bind fun x1 =>
 some x1

noncomputable def changeforgelaw2_SequenceOrderFree.j1 (y1 : (List ByteArray) × Fault) (y3 : (List ByteArray) × Fault) (y9 : (List ByteArray) × Fault) : Option Bool :=
(if decide (y3.2.Code = 0) then some (decide (y9.2.Code = 0)) else some false).bind fun x5 =>
(if x5 then (changeforgeequal_Strings y1.1 y3.1).bind fun y10 =>
 some y10 else some false).bind fun x6 =>
(if x6 then (changeforgeequal_Strings y1.1 y9.1).bind fun y11 =>
 some y11 else some false).bind fun x7 =>
(if x7 then (changeforgelaw2_latest).bind fun y12 =>
 some y12 else some false).bind fun x8 =>
 some x8

noncomputable def changeforgelaw2_SequenceOrderFree (a_ : (List SeqOp)) (k_ : Int) : Option Bool :=
(sequence_Visible a_).bind fun y1 =>
(changeforgelaw2_turned a_).bind fun y2 =>
(sequence_Visible y2).bind fun y3 =>
(if !decide (y1.2.Code = 0) then some true else some (decide (k_ < 0))).bind fun x1 =>
(if x1 then some true else some (decide (k_ > (a_.length : Int)))).bind fun x2 =>
 if x2 then
(if decide (decide (y1.2.Code = 0) = decide (y3.2.Code = 0)) then (changeforgelaw2_latest).bind fun y4 =>
 some y4 else some false).bind fun x3 =>
 some x3
 else
(cut? a_ k_ (a_.length : Int)).bind fun y5 =>
(cut? a_ 0 k_).bind fun y6 =>
(app? 56 ([] : List SeqOp) y5).bind fun y7 =>
(app? 56 y7 y6).bind fun y8 =>
(sequence_Visible y8).bind fun y9 =>
 changeforgelaw2_SequenceOrderFree.j1 y1 y3 y9

noncomputable def changeforgeref2_SameElement (a_ : SeqOp) (b_ : SeqOp) : Option Bool :=
(if decide (a_.Counter = b_.Counter) then some (decide (a_.Replica = b_.Replica)) else some false).bind fun x1 =>
 some x1

noncomputable def changeforgelaw2_follows.j1 (l_ : (List ByteArray)) (x1 : Int) : Option Bool :=
 some (decide (x1 = (l_.length : Int)))

noncomputable def changeforgelaw2_follows.j2 (x2 : Int) (x6 : Int) : Option (Step (Int × Int) Int) :=
(ckK .i64 (x2 + 1)).bind fun z1 =>
 some (Step.next (z1, x6))

noncomputable def changeforgelaw2_follows.l1 (l_ : (List ByteArray)) (m_ : (List ByteArray)) (x2 : Int) (x3 : Int) : Option (Step (Int × Int) Int) :=
(if decide (x2 < (m_.length : Int)) then some (decide (x3 < (l_.length : Int))) else some false).bind fun x5 =>
 if x5 then
(at? m_ x2).bind fun y1 =>
(at? l_ x3).bind fun y2 =>
 if decide (y1 = y2) then
(ckK .i64 (x3 + 1)).bind fun z2 =>
 changeforgelaw2_follows.j2 x2 z2
 else
 changeforgelaw2_follows.j2 x2 x3
 else
 some (Step.done x3)

noncomputable def changeforgelaw2_follows (l_ : (List ByteArray)) (m_ : (List ByteArray)) : Option Bool :=
(iter (fun s => changeforgelaw2_follows.l1 l_ m_ s.1 s.2) (0, 0)).bind fun r1 =>
 changeforgelaw2_follows.j1 l_ r1

noncomputable def changeforgelaw2_SequenceInserts.j2 (y1 : (List ByteArray) × Fault) (y4 : (List ByteArray) × Fault) (x4 : Bool) : Option Bool :=
(if !x4 then (ckK .i64 ((y1.1.length : Int) + 1)).bind fun z1 =>
 some (decide ((y4.1.length : Int) = z1)) else some false).bind fun x5 =>
(if x5 then (changeforgelaw2_follows y1.1 y4.1).bind fun y6 =>
 some y6 else some false).bind fun x6 =>
(if x6 then (changeforgelaw2_latest).bind fun y7 =>
 some y7 else some false).bind fun x7 =>
 some x7

noncomputable def changeforgelaw2_SequenceInserts.l1 (a_ : (List SeqOp)) (o_ : SeqOp) (x8 : Int) (x9 : Bool) : Option (Step (Int × Bool) Bool) :=
 if decide (x8 < (a_.length : Int)) then
(if x9 then some true else (at? a_ x8).bind fun y8 =>
(if y8.Delete then (at? a_ x8).bind fun y9 =>
(changeforgeref2_SameElement y9 o_).bind fun y10 =>
 some y10 else some false).bind fun x12 =>
 some x12).bind fun x11 =>
(ckK .i64 (x8 + 1)).bind fun z2 =>
 some (Step.next (z2, x11))
 else
 some (Step.done x9)

noncomputable def changeforgelaw2_SequenceInserts.j1 (a_ : (List SeqOp)) (o_ : SeqOp) (y1 : (List ByteArray) × Fault) (y4 : (List ByteArray) × Fault) : Option Bool :=
(if !decide (y1.2.Code = 0) then some true else some (!decide (y4.2.Code = 0))).bind fun x2 =>
(if x2 then some true else some o_.Delete).bind fun x3 =>
 if x3 then
(changeforgelaw2_latest).bind fun y5 =>
 some y5
 else
(iter (fun s => changeforgelaw2_SequenceInserts.l1 a_ o_ s.1 s.2) (0, false)).bind fun r1 =>
 changeforgelaw2_SequenceInserts.j2 y1 y4 r1

noncomputable def changeforgelaw2_SequenceInserts (a_ : (List SeqOp)) (o_ : SeqOp) : Option Bool :=
(sequence_Visible a_).bind fun y1 =>
(app? 56 ([] : List SeqOp) a_).bind fun y2 =>
(app? 56 y2 ([o_] : List SeqOp)).bind fun y3 =>
(sequence_Visible y3).bind fun y4 =>
 changeforgelaw2_SequenceInserts.j1 a_ o_ y1 y4

noncomputable def changeforgelaw2_SequenceDeletes.j2 (o_ : SeqOp) (y2 : List SeqOp) (y3 : (List ByteArray) × Fault) (y4 : (List ByteArray) × Fault) (y7 : (List ByteArray) × Fault) : Option Bool :=
(if !decide (y3.2.Code = 0) then some true else some (!decide (y4.2.Code = 0))).bind fun x3 =>
(if x3 then some true else some !o_.Delete).bind fun x4 =>
 if x4 then
(changeforgelaw2_latest).bind fun y8 =>
 some y8
 else
(ckK .i64 ((y4.1.length : Int) + 1)).bind fun z1 =>
(if decide ((y3.1.length : Int) = z1) then (changeforgelaw2_follows y4.1 y3.1).bind fun y9 =>
 some y9 else some false).bind fun x5 =>
(if x5 then (if decide (y7.2.Code = 7) then some true else (if decide ((y2.length : Int) = 60) then some (decide (y7.2.Code = 2)) else some false).bind fun x8 =>
 some x8).bind fun x7 =>
 some x7 else some false).bind fun x6 =>
(if x6 then (changeforgelaw2_latest).bind fun y10 =>
 some y10 else some false).bind fun x9 =>
 some x9

noncomputable def changeforgelaw2_SequenceDeletes.j1 (a_ : (List SeqOp)) (o_ : SeqOp) (y1 : List SeqOp) (x1 : List SeqOp) : Option Bool :=
(app? 56 y1 x1).bind fun y2 =>
(sequence_Visible a_).bind fun y3 =>
(sequence_Visible y2).bind fun y4 =>
(app? 56 ([] : List SeqOp) y2).bind fun y5 =>
(app? 56 y5 ([o_] : List SeqOp)).bind fun y6 =>
(sequence_Visible y6).bind fun y7 =>
 changeforgelaw2_SequenceDeletes.j2 o_ y2 y3 y4 y7

noncomputable def changeforgelaw2_SequenceDeletes (a_ : (List SeqOp)) (o_ : SeqOp) : Option Bool :=
(app? 56 ([] : List SeqOp) a_).bind fun y1 =>
 changeforgelaw2_SequenceDeletes.j1 a_ o_ y1 ([o_] : List SeqOp)

noncomputable def changeforgelaw2_SequenceTyped.j1 (l_ : (List ByteArray)) (replica : Int) (x1 : List SeqOp) : Option Bool :=
(sequence_Visible x1).bind fun y1 =>
(if decide (replica < 0) then some true else some (decide (replica ≥ 6))).bind fun x2 =>
(if x2 then some true else some (decide ((l_.length : Int) > 60))).bind fun x3 =>
(if x3 then some true else (lines_Validate l_).bind fun y2 =>
 some (!decide (y2.Code = 0))).bind fun x4 =>
 if x4 then
(if decide ((!decide (y1.2.Code = 0)) = decide ((l_.length : Int) > 0)) then (changeforgelaw2_latest).bind fun y3 =>
 some y3 else some false).bind fun x5 =>
 some x5
 else
(if decide (y1.2.Code = 0) then (changeforgeequal_Strings y1.1 l_).bind fun y4 =>
 some y4 else some false).bind fun x6 =>
(if x6 then (changeforgelaw2_latest).bind fun y5 =>
 some y5 else some false).bind fun x7 =>
 some x7

noncomputable def changeforgelaw2_SequenceTyped.j2 (x8 : Int) (x9 : List SeqOp) (y7 : SeqOp) (x11 : Int) : Option (Step (Int × (List SeqOp)) (List SeqOp)) :=
(app? 56 x9 ([({ Delete := y7.Delete, Replica := y7.Replica, Counter := y7.Counter, AfterReplica := x11, AfterCounter := y7.AfterCounter, Line := y7.Line } : SeqOp)] : List SeqOp)).bind fun y8 =>
(ckK .i64 (x8 + 1)).bind fun z2 =>
 some (Step.next (z2, y8))

noncomputable def changeforgelaw2_SequenceTyped.l1 (l_ : (List ByteArray)) (replica : Int) (x8 : Int) (x9 : List SeqOp) : Option (Step (Int × (List SeqOp)) (List SeqOp)) :=
 if decide (x8 < (l_.length : Int)) then
(ckK .i64 (x8 + 1)).bind fun z1 =>
(at? l_ x8).bind fun y6 =>
(changeforgelaw2_insert z1 replica x8 replica y6).bind fun y7 =>
 if decide (x8 = 0) then
 changeforgelaw2_SequenceTyped.j2 x8 x9 y7 0
 else
 changeforgelaw2_SequenceTyped.j2 x8 x9 y7 y7.AfterReplica
 else
 some (Step.done x9)

noncomputable def changeforgelaw2_SequenceTyped (l_ : (List ByteArray)) (replica : Int) : Option Bool :=
(iter (fun s => changeforgelaw2_SequenceTyped.l1 l_ replica s.1 s.2) (0, [])).bind fun r1 =>
 changeforgelaw2_SequenceTyped.j1 l_ replica r1

noncomputable def api_SeqOp_ (s_ : (List SeqOp)) : Option (List SeqOp) :=
 nilIf s_ (
 some []) (
(app? 56 ([] : List SeqOp) s_).bind fun y1 =>
 some y1)

noncomputable def sequence_Merge_s2 (x_ : SeqOp) (y : SeqOp) : Option Int :=
(sequence_own x_).bind fun y1 =>
(sequence_own y).bind fun y2 =>
(sequence_compare y1 y2).bind fun y3 =>
(if !decide (y3 = 0) then some true else some (decide (x_.Delete = y.Delete))).bind fun x1 =>
 if x1 then
 some y3
 else
 if x_.Delete then
 some 1
 else
 some (-1)

noncomputable def sequence_Merge.j1 (x1 : List SeqOp) : Option ((List SeqOp) × Fault) :=
 if decide ((x1.length : Int) > 60) then
 some ([], ({ Code := 10, Index := (-1) } : Fault))
 else
(sortM sequence_Merge_s2 x1).bind fun y4 =>
 some (y4, ({ Code := 0, Index := 0 } : Fault))

noncomputable def sequence_Merge.j2 (x2 : Int) (x5 : List SeqOp) : Option (Step (Int × (List SeqOp)) (((List SeqOp) × Fault) ⊕ (List SeqOp))) :=
(ckK .i64 (x2 + 1)).bind fun z1 =>
 some (Step.next (z1, x5))

noncomputable def sequence_Merge.j3 (a_ : (List SeqOp)) (x2 : Int) (x3 : List SeqOp) (y5 : SeqOp) (x6 : Int) : Option (Step (Int × (List SeqOp)) (((List SeqOp) × Fault) ⊕ (List SeqOp))) :=
 if decide (x6 < 0) then
(app? 56 x3 ([y5] : List SeqOp)).bind fun y6 =>
 sequence_Merge.j2 x2 y6
 else
(at? a_ x6).bind fun y7 =>
 if !(decide (y7.Delete = y5.Delete) && (decide (y7.Replica = y5.Replica) && (decide (y7.Counter = y5.Counter) && (decide (y7.AfterReplica = y5.AfterReplica) && (decide (y7.AfterCounter = y5.AfterCounter) && decide (y7.Line = y5.Line)))))) then
 some (Step.done (Sum.inl ([], ({ Code := 19, Index := x2 } : Fault))))
 else
 sequence_Merge.j2 x2 x3

noncomputable def sequence_Merge.j4 (a_ : (List SeqOp)) (x2 : Int) (x3 : List SeqOp) (y5 : SeqOp) : Option (Step (Int × (List SeqOp)) (((List SeqOp) × Fault) ⊕ (List SeqOp))) :=
 sequence_Merge.j3 a_ x2 x3 y5 (-1)

noncomputable def sequence_Merge.l2 (a_ : (List SeqOp)) (y5 : SeqOp) (x7 : Int) : Option (Step Int (Int ⊕ Unit)) :=
 if decide (x7 < (a_.length : Int)) then
(at? a_ x7).bind fun y8 =>
(if decide (y8.Delete = y5.Delete) then (sequence_own y8).bind fun y9 =>
(sequence_own y5).bind fun y10 =>
 some (decide (y9.counter = y10.counter) && decide (y9.replica = y10.replica)) else some false).bind fun x9 =>
 if x9 then
 some (Step.done (Sum.inl x7))
 else
(ckK .i64 (x7 + 1)).bind fun z2 =>
 some (Step.next z2)
 else
 some (Step.done (Sum.inr ()))

noncomputable def sequence_Merge.l1 (a_ : (List SeqOp)) (b_ : (List SeqOp)) (x2 : Int) (x3 : List SeqOp) : Option (Step (Int × (List SeqOp)) (((List SeqOp) × Fault) ⊕ (List SeqOp))) :=
 if decide (x2 < (b_.length : Int)) then
(at? b_ x2).bind fun y5 =>
(iter (fun s => sequence_Merge.l2 a_ y5 s) 0).bind fun r2 =>
(match r2 with
| .inl p => sequence_Merge.j3 a_ x2 x3 y5 p
| .inr _ => sequence_Merge.j4 a_ x2 x3 y5)
 else
 some (Step.done (Sum.inr x3))

noncomputable def sequence_Merge (a_ : (List SeqOp)) (b_ : (List SeqOp)) : Option ((List SeqOp) × Fault) :=
(sequence_Validate a_).bind fun y1 =>
 if !(decide (y1.Code = 0) && decide (y1.Index = 0)) then
 some ([], y1)
 else
(sequence_Validate b_).bind fun y2 =>
 if !(decide (y2.Code = 0) && decide (y2.Index = 0)) then
 some ([], ({ Code := y2.Code, Index := (-2) } : Fault))
 else
(api_SeqOp_ a_).bind fun y3 =>
(iter (fun s => sequence_Merge.l1 a_ b_ s.1 s.2) (0, y3)).bind fun r1 =>
(match r1 with
| .inl p => some p
| .inr p => sequence_Merge.j1 p)

noncomputable def changeforgeref1_At (code : Int) (index : Int) : Option Fault :=
 some ({ Code := code, Index := index } : Fault)

noncomputable def changeforgeref2_Before (counter1 : Int) (replica1 : Int) (counter2 : Int) (replica2 : Int) : Option Bool :=
(if decide (counter1 < counter2) then some true else (if decide (counter1 = counter2) then some (decide (replica1 < replica2)) else some false).bind fun x2 =>
 some x2).bind fun x1 =>
 some x1

noncomputable def changeforgeref2_inRange (counter : Int) (replica : Int) : Option Bool :=
(if decide (counter ≥ 1) then some (decide (counter ≤ 1000000000)) else some false).bind fun x1 =>
(if x1 then some (decide (replica ≥ 0)) else some false).bind fun x2 =>
(if x2 then some (decide (replica < 6)) else some false).bind fun x3 =>
 some x3

noncomputable def changeforgeref1_LinesFault.j1 : Option Fault :=
 some ({ Code := 0, Index := 0 } : Fault)

noncomputable def changeforgeref1_LinesFault.j2 (x1 : Int) : Option (Step Int (Fault ⊕ Unit)) :=
(ckK .i64 (x1 + 1)).bind fun z1 =>
 some (Step.next z1)

noncomputable def changeforgeref1_LinesFault.j3 (x1 : Int) : Option (Step Int (Fault ⊕ Unit)) :=
 changeforgeref1_LinesFault.j2 x1

noncomputable def changeforgeref1_LinesFault.l2 (l_ : (List ByteArray)) (x1 : Int) (x3 : Int) : Option (Step Int (Fault ⊕ Unit)) :=
(at? l_ x1).bind fun y4 =>
 if decide (x3 < (y4.size : Int)) then
(at? l_ x1).bind fun y5 =>
(sAt? y5 x3).bind fun y6 =>
 if decide (y6 = 10) then
(changeforgeref1_At 5 x1).bind fun y7 =>
 some (Step.done (Sum.inl y7))
 else
(ckK .i64 (x3 + 1)).bind fun z2 =>
 some (Step.next z2)
 else
 some (Step.done (Sum.inr ()))

noncomputable def changeforgeref1_LinesFault.l1 (l_ : (List ByteArray)) (x1 : Int) : Option (Step Int (Fault ⊕ Unit)) :=
 if decide (x1 < (l_.length : Int)) then
(at? l_ x1).bind fun y2 =>
 if decide ((y2.size : Int) > 80) then
(changeforgeref1_At 2 x1).bind fun y3 =>
 some (Step.done (Sum.inl y3))
 else
(iter (fun s => changeforgeref1_LinesFault.l2 l_ x1 s) 0).bind fun r2 =>
(match r2 with
| .inl p => some (Step.done (Sum.inl p))
| .inr _ => changeforgeref1_LinesFault.j3 x1)
 else
 some (Step.done (Sum.inr ()))

noncomputable def changeforgeref1_LinesFault (l_ : (List ByteArray)) : Option Fault :=
 if decide ((l_.length : Int) > 120) then
(changeforgeref1_At 2 (-1)).bind fun y1 =>
 some y1
 else
(iter (fun s => changeforgeref1_LinesFault.l1 l_ s) 0).bind fun r1 =>
(match r1 with
| .inl p => some p
| .inr _ => changeforgeref1_LinesFault.j1)

noncomputable def changeforgeref1_LinesCode (l_ : (List ByteArray)) : Option Int :=
(changeforgeref1_LinesFault l_).bind fun y1 =>
 some y1.Code

noncomputable def changeforgeref1_One (s_ : ByteArray) : Option Int :=
(changeforgeref1_LinesCode ([s_] : List ByteArray)).bind fun y1 =>
 some y1

noncomputable def changeforgeref2_opCode.j1 : Option Int :=
 some 0

noncomputable def changeforgeref2_opCode.l1 (l_ : (List SeqOp)) (i_ : Int) (y1 : SeqOp) (x7 : Int) : Option (Step Int (Int ⊕ Unit)) :=
 if decide (x7 < i_) then
(at? l_ x7).bind fun y6 =>
(changeforgeref2_SameElement y6 y1).bind fun y7 =>
(if y7 then (at? l_ x7).bind fun y8 =>
 some (decide (y8.Delete = y1.Delete)) else some false).bind fun x9 =>
 if x9 then
 some (Step.done (Sum.inl 7))
 else
(ckK .i64 (x7 + 1)).bind fun z1 =>
 some (Step.next z1)
 else
 some (Step.done (Sum.inr ()))

noncomputable def changeforgeref2_opCode (l_ : (List SeqOp)) (i_ : Int) : Option Int :=
(at? l_ i_).bind fun y1 =>
(if decide (y1.AfterCounter = 0) then some (decide (y1.AfterReplica = 0)) else some false).bind fun x1 =>
(changeforgeref2_inRange y1.Counter y1.Replica).bind fun y2 =>
 if !y2 then
 some 3
 else
(if y1.Delete then (if !x1 then some true else some (!decide (y1.Line = (⟨#[]⟩ : ByteArray)))).bind fun x3 =>
 some x3 else some false).bind fun x2 =>
 if x2 then
 some 5
 else
(if !y1.Delete then some !x1 else some false).bind fun x4 =>
(if x4 then (changeforgeref2_inRange y1.AfterCounter y1.AfterReplica).bind fun y3 =>
 some !y3 else some false).bind fun x5 =>
 if x5 then
 some 3
 else
(if !y1.Delete then (changeforgeref2_Before y1.AfterCounter y1.AfterReplica y1.Counter y1.Replica).bind fun y4 =>
 some !y4 else some false).bind fun x6 =>
 if x6 then
 some 5
 else
(changeforgeref1_One y1.Line).bind fun y5 =>
 if !decide (y5 = 0) then
 some y5
 else
(iter (fun s => changeforgeref2_opCode.l1 l_ i_ y1 s) 0).bind fun r1 =>
(match r1 with
| .inl p => some p
| .inr _ => changeforgeref2_opCode.j1)

noncomputable def changeforgeref2_Inserted.j1 : Option Int :=
 some (-1)

noncomputable def changeforgeref2_Inserted.l1 (l_ : (List SeqOp)) (counter : Int) (replica : Int) (x1 : Int) : Option (Step Int (Int ⊕ Unit)) :=
 if decide (x1 < (l_.length : Int)) then
(at? l_ x1).bind fun y1 =>
(if !y1.Delete then (at? l_ x1).bind fun y2 =>
 some (decide (y2.Counter = counter)) else some false).bind fun x3 =>
(if x3 then (at? l_ x1).bind fun y3 =>
 some (decide (y3.Replica = replica)) else some false).bind fun x4 =>
 if x4 then
 some (Step.done (Sum.inl x1))
 else
(ckK .i64 (x1 + 1)).bind fun z1 =>
 some (Step.next z1)
 else
 some (Step.done (Sum.inr ()))

noncomputable def changeforgeref2_Inserted (l_ : (List SeqOp)) (counter : Int) (replica : Int) : Option Int :=
(iter (fun s => changeforgeref2_Inserted.l1 l_ counter replica s) 0).bind fun r1 =>
(match r1 with
| .inl p => some p
| .inr _ => changeforgeref2_Inserted.j1)

noncomputable def changeforgeref2_SequenceFault.j2 : Option Fault :=
 some ({ Code := 0, Index := 0 } : Fault)

noncomputable def changeforgeref2_SequenceFault.l1 (l_ : (List SeqOp)) (x1 : Int) : Option (Step Int (Fault ⊕ Unit)) :=
 if decide (x1 < (l_.length : Int)) then
(at? l_ x1).bind fun y2 =>
(if y2.Delete then (changeforgeref2_Inserted l_ y2.Counter y2.Replica).bind fun y3 =>
 some (decide (y3 < 0)) else some false).bind fun x3 =>
 if x3 then
(changeforgeref1_At 6 x1).bind fun y4 =>
 some (Step.done (Sum.inl y4))
 else
(if !y2.Delete then (if !decide (y2.AfterCounter = 0) then some true else some (!decide (y2.AfterReplica = 0))).bind fun x5 =>
 some x5 else some false).bind fun x4 =>
(if x4 then (changeforgeref2_Inserted l_ y2.AfterCounter y2.AfterReplica).bind fun y5 =>
 some (decide (y5 < 0)) else some false).bind fun x6 =>
 if x6 then
(changeforgeref1_At 6 x1).bind fun y6 =>
 some (Step.done (Sum.inl y6))
 else
(ckK .i64 (x1 + 1)).bind fun z1 =>
 some (Step.next z1)
 else
 some (Step.done (Sum.inr ()))

noncomputable def changeforgeref2_SequenceFault.j1 (l_ : (List SeqOp)) : Option Fault :=
(iter (fun s => changeforgeref2_SequenceFault.l1 l_ s) 0).bind fun r1 =>
(match r1 with
| .inl p => some p
| .inr _ => changeforgeref2_SequenceFault.j2)

noncomputable def changeforgeref2_SequenceFault.l2 (l_ : (List SeqOp)) (x7 : Int) : Option (Step Int (Fault ⊕ Unit)) :=
 if decide (x7 < (l_.length : Int)) then
(changeforgeref2_opCode l_ x7).bind fun y7 =>
 if !decide (y7 = 0) then
(changeforgeref1_At y7 x7).bind fun y8 =>
 some (Step.done (Sum.inl y8))
 else
(ckK .i64 (x7 + 1)).bind fun z2 =>
 some (Step.next z2)
 else
 some (Step.done (Sum.inr ()))

noncomputable def changeforgeref2_SequenceFault (l_ : (List SeqOp)) : Option Fault :=
 if decide ((l_.length : Int) > 60) then
(changeforgeref1_At 2 (-1)).bind fun y1 =>
 some y1
 else
(iter (fun s => changeforgeref2_SequenceFault.l2 l_ s) 0).bind fun r2 =>
(match r2 with
| .inl p => some p
| .inr _ => changeforgeref2_SequenceFault.j1 l_)

noncomputable def changeforgeref2_Sorted.j1 (x1 : List SeqOp) : Option (List SeqOp) :=
 some x1

noncomputable def changeforgeref2_Sorted.j2 (x2 : Int) (x5 : List SeqOp) : Option (Step (Int × (List SeqOp)) (List SeqOp)) :=
(ckK .i64 (x2 + 1)).bind fun z1 =>
 some (Step.next (z1, x5))

noncomputable def changeforgeref2_Sorted.j4 (l_ : (List SeqOp)) (x2 : Int) (x6 : Int) (x7 : List SeqOp) : Option (Step (Int × (List SeqOp)) (List SeqOp)) :=
(at? l_ x2).bind fun y2 =>
(at? x7 x6).bind fun y3 =>
(some (x7.set x6.toNat y2)).bind fun y4 =>
 changeforgeref2_Sorted.j2 x2 y4

noncomputable def changeforgeref2_Sorted.l2 (x6 : Int) (x8 : Int) (x9 : List SeqOp) : Option (Step (Int × (List SeqOp)) (List SeqOp)) :=
 if decide (x8 > x6) then
(ckK .i64 (x8 - 1)).bind fun z3 =>
(at? x9 z3).bind fun y5 =>
(at? x9 x8).bind fun y6 =>
(some (x9.set x8.toNat y5)).bind fun y7 =>
(ckK .i64 (x8 - 1)).bind fun z4 =>
 some (Step.next (z4, y7))
 else
 some (Step.done x9)

noncomputable def changeforgeref2_Sorted.j3 (l_ : (List SeqOp)) (x2 : Int) (x3 : List SeqOp) (x6 : Int) : Option (Step (Int × (List SeqOp)) (List SeqOp)) :=
(app? 56 x3 ([({ Delete := false, Replica := 0, Counter := 0, AfterReplica := 0, AfterCounter := 0, Line := ByteArray.empty } : SeqOp)] : List SeqOp)).bind fun y1 =>
(ckK .i64 ((y1.length : Int) - 1)).bind fun z2 =>
(iter (fun s => changeforgeref2_Sorted.l2 x6 s.1 s.2) (z2, y1)).bind fun r2 =>
 changeforgeref2_Sorted.j4 l_ x2 x6 r2

noncomputable def changeforgeref2_Sorted.l3 (l_ : (List SeqOp)) (x2 : Int) (x3 : List SeqOp) (x11 : Int) : Option (Step Int Int) :=
(if decide (x11 > 0) then (at? l_ x2).bind fun y8 =>
(at? l_ x2).bind fun y9 =>
(ckK .i64 (x11 - 1)).bind fun z5 =>
(at? x3 z5).bind fun y10 =>
(ckK .i64 (x11 - 1)).bind fun z6 =>
(at? x3 z6).bind fun y11 =>
(changeforgeref2_Before y8.Counter y9.Replica y10.Counter y11.Replica).bind fun y12 =>
(if y12 then some true else (at? l_ x2).bind fun y13 =>
(ckK .i64 (x11 - 1)).bind fun z7 =>
(at? x3 z7).bind fun y14 =>
(changeforgeref2_SameElement y13 y14).bind fun y15 =>
(if y15 then (at? l_ x2).bind fun y16 =>
 some !y16.Delete else some false).bind fun x15 =>
 some x15).bind fun x14 =>
 some x14 else some false).bind fun x13 =>
 if x13 then
(ckK .i64 (x11 - 1)).bind fun z8 =>
 some (Step.next z8)
 else
 some (Step.done x11)

noncomputable def changeforgeref2_Sorted.l1 (l_ : (List SeqOp)) (x2 : Int) (x3 : List SeqOp) : Option (Step (Int × (List SeqOp)) (List SeqOp)) :=
 if decide (x2 < (l_.length : Int)) then
(iter (fun s => changeforgeref2_Sorted.l3 l_ x2 x3 s) (x3.length : Int)).bind fun r3 =>
 changeforgeref2_Sorted.j3 l_ x2 x3 r3
 else
 some (Step.done x3)

noncomputable def changeforgeref2_Sorted (l_ : (List SeqOp)) : Option (List SeqOp) :=
(iter (fun s => changeforgeref2_Sorted.l1 l_ s.1 s.2) (0, [])).bind fun r1 =>
 changeforgeref2_Sorted.j1 r1

noncomputable def changeforgeref2_Union.j1 (x1 : List SeqOp) : Option ((List SeqOp) × Fault) :=
 if decide ((x1.length : Int) > 60) then
(changeforgeref1_At 10 (-1)).bind fun y5 =>
 some ([], y5)
 else
(changeforgeref2_Sorted x1).bind fun y6 =>
 some (y6, ({ Code := 0, Index := 0 } : Fault))

noncomputable def changeforgeref2_Union.j2 (x2 : Int) (x5 : List SeqOp) : Option (Step (Int × (List SeqOp)) (((List SeqOp) × Fault) ⊕ (List SeqOp))) :=
(ckK .i64 (x2 + 1)).bind fun z1 =>
 some (Step.next (z1, x5))

noncomputable def changeforgeref2_Union.j3 (b_ : (List SeqOp)) (x2 : Int) (x3 : List SeqOp) (x6 : Bool) : Option (Step (Int × (List SeqOp)) (((List SeqOp) × Fault) ⊕ (List SeqOp))) :=
 if !x6 then
(at? b_ x2).bind fun y7 =>
(app? 56 x3 ([y7] : List SeqOp)).bind fun y8 =>
 changeforgeref2_Union.j2 x2 y8
 else
 changeforgeref2_Union.j2 x2 x3

noncomputable def changeforgeref2_Union.j4 (x7 : Int) (x10 : Bool) : Option (Step (Int × Bool) (((List SeqOp) × Fault) ⊕ Bool)) :=
(ckK .i64 (x7 + 1)).bind fun z2 =>
 some (Step.next (z2, x10))

noncomputable def changeforgeref2_Union.l2 (a_ : (List SeqOp)) (b_ : (List SeqOp)) (x2 : Int) (x7 : Int) (x8 : Bool) : Option (Step (Int × Bool) (((List SeqOp) × Fault) ⊕ Bool)) :=
 if decide (x7 < (a_.length : Int)) then
(at? a_ x7).bind fun y9 =>
(at? b_ x2).bind fun y10 =>
(changeforgeref2_SameElement y9 y10).bind fun y11 =>
(if !y11 then some true else (at? a_ x7).bind fun y12 =>
(at? b_ x2).bind fun y13 =>
 some (!decide (y12.Delete = y13.Delete))).bind fun x11 =>
 if x11 then
 changeforgeref2_Union.j4 x7 x8
 else
(at? a_ x7).bind fun y14 =>
(at? b_ x2).bind fun y15 =>
 if !(decide (y14.Delete = y15.Delete) && (decide (y14.Replica = y15.Replica) && (decide (y14.Counter = y15.Counter) && (decide (y14.AfterReplica = y15.AfterReplica) && (decide (y14.AfterCounter = y15.AfterCounter) && decide (y14.Line = y15.Line)))))) then
(changeforgeref1_At 19 x2).bind fun y16 =>
 some (Step.done (Sum.inl ([], y16)))
 else
 changeforgeref2_Union.j4 x7 true
 else
 some (Step.done (Sum.inr x8))

noncomputable def changeforgeref2_Union.l1 (a_ : (List SeqOp)) (b_ : (List SeqOp)) (x2 : Int) (x3 : List SeqOp) : Option (Step (Int × (List SeqOp)) (((List SeqOp) × Fault) ⊕ (List SeqOp))) :=
 if decide (x2 < (b_.length : Int)) then
(iter (fun s => changeforgeref2_Union.l2 a_ b_ x2 s.1 s.2) (0, false)).bind fun r2 =>
(match r2 with
| .inl p => some (Step.done (Sum.inl p))
| .inr p => changeforgeref2_Union.j3 b_ x2 x3 p)
 else
 some (Step.done (Sum.inr x3))

noncomputable def changeforgeref2_Union (a_ : (List SeqOp)) (b_ : (List SeqOp)) : Option ((List SeqOp) × Fault) :=
(changeforgeref2_SequenceFault a_).bind fun y1 =>
 if !decide (y1.Code = 0) then
 some ([], y1)
 else
(changeforgeref2_SequenceFault b_).bind fun y2 =>
 if !decide (y2.Code = 0) then
(changeforgeref1_At y2.Code (-2)).bind fun y3 =>
 some ([], y3)
 else
(app? 56 ([] : List SeqOp) a_).bind fun y4 =>
(iter (fun s => changeforgeref2_Union.l1 a_ b_ s.1 s.2) (0, y4)).bind fun r1 =>
(match r1 with
| .inl p => some p
| .inr p => changeforgeref2_Union.j1 p)

noncomputable def changeforgeequal_Ops.j1 : Option Bool :=
 some true

noncomputable def changeforgeequal_Ops.l1 (a_ : (List SeqOp)) (b_ : (List SeqOp)) (x1 : Int) : Option (Step Int (Bool ⊕ Unit)) :=
 if decide (x1 < (a_.length : Int)) then
(at? a_ x1).bind fun y1 =>
(at? b_ x1).bind fun y2 =>
 if !(decide (y1.Delete = y2.Delete) && (decide (y1.Replica = y2.Replica) && (decide (y1.Counter = y2.Counter) && (decide (y1.AfterReplica = y2.AfterReplica) && (decide (y1.AfterCounter = y2.AfterCounter) && decide (y1.Line = y2.Line)))))) then
 some (Step.done (Sum.inl false))
 else
(ckK .i64 (x1 + 1)).bind fun z1 =>
 some (Step.next z1)
 else
 some (Step.done (Sum.inr ()))

noncomputable def changeforgeequal_Ops (a_ : (List SeqOp)) (b_ : (List SeqOp)) : Option Bool :=
 if !decide ((a_.length : Int) = (b_.length : Int)) then
 some false
 else
(iter (fun s => changeforgeequal_Ops.l1 a_ b_ s) 0).bind fun r1 =>
(match r1 with
| .inl p => some p
| .inr _ => changeforgeequal_Ops.j1)

noncomputable def changeforgeref2_Visible.j2 (x2 : List ByteArray) : Option (List ByteArray) :=
 some x2

noncomputable def changeforgeref2_Visible.j3 (x3 : Int) (x6 : List ByteArray) : Option (Step (Int × (List ByteArray)) (List ByteArray)) :=
(ckK .i64 (x3 + 1)).bind fun z1 =>
 some (Step.next (z1, x6))

noncomputable def changeforgeref2_Visible.j4 (x1 : List SeqOp) (x3 : Int) (x4 : List ByteArray) (x7 : Bool) : Option (Step (Int × (List ByteArray)) (List ByteArray)) :=
 if !x7 then
(at? x1 x3).bind fun y2 =>
(app? 16 x4 ([y2.Line] : List ByteArray)).bind fun y3 =>
 changeforgeref2_Visible.j3 x3 y3
 else
 changeforgeref2_Visible.j3 x3 x4

noncomputable def changeforgeref2_Visible.l2 (l_ : (List SeqOp)) (x1 : List SeqOp) (x3 : Int) (x8 : Int) (x9 : Bool) : Option (Step (Int × Bool) Bool) :=
 if decide (x8 < (l_.length : Int)) then
(if x9 then some true else (at? l_ x8).bind fun y4 =>
(if y4.Delete then (at? l_ x8).bind fun y5 =>
(at? x1 x3).bind fun y6 =>
(changeforgeref2_SameElement y5 y6).bind fun y7 =>
 some y7 else some false).bind fun x12 =>
 some x12).bind fun x11 =>
(ckK .i64 (x8 + 1)).bind fun z2 =>
 some (Step.next (z2, x11))
 else
 some (Step.done x9)

noncomputable def changeforgeref2_Visible.l1 (l_ : (List SeqOp)) (x1 : List SeqOp) (x3 : Int) (x4 : List ByteArray) : Option (Step (Int × (List ByteArray)) (List ByteArray)) :=
 if decide (x3 < (x1.length : Int)) then
(iter (fun s => changeforgeref2_Visible.l2 l_ x1 x3 s.1 s.2) (0, false)).bind fun r2 =>
 changeforgeref2_Visible.j4 x1 x3 x4 r2
 else
 some (Step.done x4)

noncomputable def changeforgeref2_Visible.j1 (l_ : (List SeqOp)) (x1 : List SeqOp) : Option (List ByteArray) :=
(iter (fun s => changeforgeref2_Visible.l1 l_ x1 s.1 s.2) (0, [])).bind fun r1 =>
 changeforgeref2_Visible.j2 r1

noncomputable def changeforgeref2_Visible.j5 (x13 : Int) (x16 : List SeqOp) : Option (Step (Int × (List SeqOp)) (List SeqOp)) :=
(ckK .i64 (x13 + 1)).bind fun z3 =>
 some (Step.next (z3, x16))

noncomputable def changeforgeref2_Visible.j7 (y1 : (List SeqOp)) (x13 : Int) (x17 : Int) (x18 : List SeqOp) : Option (Step (Int × (List SeqOp)) (List SeqOp)) :=
(at? y1 x13).bind fun y10 =>
(at? x18 x17).bind fun y11 =>
(some (x18.set x17.toNat y10)).bind fun y12 =>
 changeforgeref2_Visible.j5 x13 y12

noncomputable def changeforgeref2_Visible.l4 (x17 : Int) (x19 : Int) (x20 : List SeqOp) : Option (Step (Int × (List SeqOp)) (List SeqOp)) :=
 if decide (x19 > x17) then
(ckK .i64 (x19 - 1)).bind fun z5 =>
(at? x20 z5).bind fun y13 =>
(at? x20 x19).bind fun y14 =>
(some (x20.set x19.toNat y13)).bind fun y15 =>
(ckK .i64 (x19 - 1)).bind fun z6 =>
 some (Step.next (z6, y15))
 else
 some (Step.done x20)

noncomputable def changeforgeref2_Visible.j6 (y1 : (List SeqOp)) (x13 : Int) (x14 : List SeqOp) (x17 : Int) : Option (Step (Int × (List SeqOp)) (List SeqOp)) :=
(app? 56 x14 ([({ Delete := false, Replica := 0, Counter := 0, AfterReplica := 0, AfterCounter := 0, Line := ByteArray.empty } : SeqOp)] : List SeqOp)).bind fun y9 =>
(ckK .i64 ((y9.length : Int) - 1)).bind fun z4 =>
(iter (fun s => changeforgeref2_Visible.l4 x17 s.1 s.2) (z4, y9)).bind fun r4 =>
 changeforgeref2_Visible.j7 y1 x13 x17 r4

noncomputable def changeforgeref2_Visible.j8 (x22 : Int) (x25 : Int) : Option (Step (Int × Int) Int) :=
(ckK .i64 (x22 + 1)).bind fun z7 =>
 some (Step.next (z7, x25))

noncomputable def changeforgeref2_Visible.l5 (y1 : (List SeqOp)) (x13 : Int) (x14 : List SeqOp) (x22 : Int) (x23 : Int) : Option (Step (Int × Int) Int) :=
 if decide (x22 < (x14.length : Int)) then
(at? x14 x22).bind fun y16 =>
(at? y1 x13).bind fun y17 =>
(if decide (y16.Counter = y17.AfterCounter) then (at? x14 x22).bind fun y18 =>
(at? y1 x13).bind fun y19 =>
 some (decide (y18.Replica = y19.AfterReplica)) else some false).bind fun x26 =>
 if x26 then
(ckK .i64 (x22 + 1)).bind fun z8 =>
 changeforgeref2_Visible.j8 x22 z8
 else
 changeforgeref2_Visible.j8 x22 x23
 else
 some (Step.done x23)

noncomputable def changeforgeref2_Visible.l3 (y1 : (List SeqOp)) (x13 : Int) (x14 : List SeqOp) : Option (Step (Int × (List SeqOp)) (List SeqOp)) :=
 if decide (x13 < (y1.length : Int)) then
(at? y1 x13).bind fun y8 =>
 if y8.Delete then
 changeforgeref2_Visible.j5 x13 x14
 else
(iter (fun s => changeforgeref2_Visible.l5 y1 x13 x14 s.1 s.2) (0, 0)).bind fun r5 =>
 changeforgeref2_Visible.j6 y1 x13 x14 r5
 else
 some (Step.done x14)

noncomputable def changeforgeref2_Visible (l_ : (List SeqOp)) : Option (List ByteArray) :=
(changeforgeref2_Sorted l_).bind fun y1 =>
(iter (fun s => changeforgeref2_Visible.l3 y1 s.1 s.2) (0, [])).bind fun r3 =>
 changeforgeref2_Visible.j1 l_ r3

noncomputable def changeforgelaw2_SequenceMatchesSpec (a_ : (List SeqOp)) (b_ : (List SeqOp)) : Option Bool :=
(sequence_Visible a_).bind fun y1 =>
(sequence_Merge a_ b_).bind fun y2 =>
(changeforgeref2_Union a_ b_).bind fun y3 =>
(changeforgeref2_SequenceFault a_).bind fun y4 =>
(sequence_Validate a_).bind fun y5 =>
(if !(decide (y5.Code = y4.Code) && decide (y5.Index = y4.Index)) then some true else some (!(decide (y1.2.Code = y4.Code) && decide (y1.2.Index = y4.Index)))).bind fun x1 =>
(if x1 then some true else (changeforgeequal_Ops y2.1 y3.1).bind fun y6 =>
 some !y6).bind fun x2 =>
(if x2 then some true else some (!(decide (y2.2.Code = y3.2.Code) && decide (y2.2.Index = y3.2.Index)))).bind fun x3 =>
 if x3 then
 some false
 else
 if !decide (y4.Code = 0) then
(if decide ((y1.1.length : Int) = 0) then (changeforgelaw2_latest).bind fun y7 =>
 some y7 else some false).bind fun x4 =>
 some x4
 else
(changeforgeref2_Visible a_).bind fun y8 =>
(changeforgeequal_Strings y1.1 y8).bind fun y9 =>
(if y9 then (changeforgelaw2_latest).bind fun y10 =>
 some y10 else some false).bind fun x5 =>
 some x5

noncomputable def changeforgelaw2_SequenceSemilattice (a_ : (List SeqOp)) (b_ : (List SeqOp)) (c_ : (List SeqOp)) : Option Bool :=
(sequence_Merge a_ b_).bind fun y1 =>
(sequence_Merge b_ a_).bind fun y2 =>
(if !decide (y1.2.Code = 0) then some true else some (!decide (y2.2.Code = 0))).bind fun x1 =>
 if x1 then
(changeforgelaw2_latest).bind fun y3 =>
 some y3
 else
(sequence_Merge y1.1 a_).bind fun y4 =>
(sequence_Merge y1.1 c_).bind fun y5 =>
(sequence_Merge b_ c_).bind fun y6 =>
(sequence_Merge a_ y6.1).bind fun y7 =>
(changeforgeequal_Ops y1.1 y2.1).bind fun y8 =>
(if !y8 then some true else some (!decide (y4.2.Code = 0))).bind fun x2 =>
(if x2 then some true else (changeforgeequal_Ops y4.1 y1.1).bind fun y9 =>
 some !y9).bind fun x3 =>
 if x3 then
 some false
 else
(if !decide (y5.2.Code = 0) then some true else some (!decide (y6.2.Code = 0))).bind fun x4 =>
(if x4 then some true else some (!decide (y7.2.Code = 0))).bind fun x5 =>
 if x5 then
(changeforgelaw2_latest).bind fun y10 =>
 some y10
 else
(changeforgeequal_Ops y5.1 y7.1).bind fun y11 =>
(if y11 then (changeforgelaw2_latest).bind fun y12 =>
 some y12 else some false).bind fun x6 =>
 some x6
end Go.Dc
