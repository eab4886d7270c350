/- The functions as pure models. -/
import Derived.Test.YtladljignaanfaaDcTy
import Derived.Test.YtladljignaanfaaDcR
namespace Go.Dc
open Go
set_option linter.unusedVariables false
noncomputable def multivalue_inRange (n_ : Int) : Option Bool :=
(if decide (n_ ≥ 0) then some (decide (n_ ≤ 1000000000)) else some false).bind fun x1 =>
 some x1

noncomputable def cmp_isNaN (x_ : Int) : Option Bool :=
 some (!decide (x_ = x_))

noncomputable def cmp_Compare (x_ : Int) (y : Int) : Option Int :=
(cmp_isNaN x_).bind fun y1 =>
(cmp_isNaN y).bind fun y2 =>
 if y1 then
 if y2 then
 some 0
 else
 some (-1)
 else
 if y2 then
 some 1
 else
 if decide (x_ < y) then
 some (-1)
 else
 if decide (x_ > y) then
 some 1
 else
 some 0

noncomputable def slices_Compare.j1 (s1_ : (List Int)) (s2_ : (List Int)) : Option Int :=
 if decide ((s1_.length : Int) < (s2_.length : Int)) then
 some (-1)
 else
 some 0

noncomputable def slices_Compare.l1 (s1_ : (List Int)) (s2_ : (List Int)) (x1 : Int) : Option (Step Int (Int ⊕ Unit)) :=
 if decide (x1 < (s1_.length : Int)) then
(at? s1_ x1).bind fun y1 =>
 if decide (x1 ≥ (s2_.length : Int)) then
 some (Step.done (Sum.inl 1))
 else
(at? s2_ x1).bind fun y2 =>
(cmp_Compare y1 y2).bind fun y3 =>
 if !decide (y3 = 0) then
 some (Step.done (Sum.inl y3))
 else
(ckK .i64 (x1 + 1)).bind fun z1 =>
 some (Step.next z1)
 else
 some (Step.done (Sum.inr ()))

noncomputable def slices_Compare (s1_ : (List Int)) (s2_ : (List Int)) : Option Int :=
(iter (fun s => slices_Compare.l1 s1_ s2_ s) 0).bind fun r1 =>
(match r1 with
| .inl p => some p
| .inr _ => slices_Compare.j1 s1_ s2_)

noncomputable def multivalue_check_s1 (n_ : Int) : Option Bool :=
(multivalue_inRange n_).bind fun y1 =>
 some !y1

noncomputable def slices_Max.j2 (x1 : Int) : Option Int :=
 some x1

noncomputable def slices_Max.l1 (x_ : (List Int)) (x2 : Int) (x3 : Int) : Option (Step (Int × Int) Int) :=
 if decide (x2 < (x_.length : Int)) then
(at? x_ x2).bind fun y2 =>
(ckK .i64 (x2 + 1)).bind fun z1 =>
 some (Step.next (z1, max x3 y2))
 else
 some (Step.done x3)

noncomputable def slices_Max.j1 (x_ : (List Int)) : Option Int :=
(at? x_ 0).bind fun y1 =>
(iter (fun s => slices_Max.l1 x_ s.1 s.2) (1, y1)).bind fun r1 =>
 slices_Max.j2 r1

noncomputable def slices_Max (x_ : (List Int)) : Option Int :=
 if decide ((x_.length : Int) < 1) then
 Option.none
 else
 slices_Max.j1 x_

noncomputable def multivalue_covers.j1 : Option Bool :=
 some true

noncomputable def multivalue_covers.l1 (a_ : (List Int)) (b_ : (List Int)) (x1 : Int) : Option (Step Int (Bool ⊕ Unit)) :=
 if decide (x1 < (a_.length : Int)) then
(at? a_ x1).bind fun y1 =>
(at? b_ x1).bind fun y2 =>
 if decide (y1 < y2) then
 some (Step.done (Sum.inl false))
 else
(ckK .i64 (x1 + 1)).bind fun z1 =>
 some (Step.next z1)
 else
 some (Step.done (Sum.inr ()))

noncomputable def multivalue_covers (a_ : (List Int)) (b_ : (List Int)) : Option Bool :=
(iter (fun s => multivalue_covers.l1 a_ b_ s) 0).bind fun r1 =>
(match r1 with
| .inl p => some p
| .inr _ => multivalue_covers.j1)

noncomputable def multivalue_check.j2 (x4 : Int) : Option Int :=
 if decide (x4 ≥ 0) then
 some 19
 else
 some 0

noncomputable def multivalue_check.j3 : Option Int :=
 multivalue_check.j2 (-1)

noncomputable def multivalue_check.l1 (v_ : VersionedValue) (earlier : (List VersionedValue)) (x5 : Int) : Option (Step Int (Int ⊕ Unit)) :=
 if decide (x5 < (earlier.length : Int)) then
(at? earlier x5).bind fun y5 =>
(multivalue_covers y5.Vector v_.Vector).bind fun y6 =>
(if y6 then some true else (multivalue_covers v_.Vector y5.Vector).bind fun y7 =>
 some y7).bind fun x7 =>
 if x7 then
 some (Step.done (Sum.inl x5))
 else
(ckK .i64 (x5 + 1)).bind fun z2 =>
 some (Step.next z2)
 else
 some (Step.done (Sum.inr ()))

noncomputable def multivalue_check.j1 (v_ : VersionedValue) (earlier : (List VersionedValue)) (x1 : Int) : Option Int :=
 if decide (x1 ≥ 0) then
 some 3
 else
(slices_Max v_.Vector).bind fun y2 =>
(if decide (y2 = 0) then some true else (if decide ((earlier.length : Int) > 0) then (ckK .i64 ((earlier.length : Int) - 1)).bind fun z1 =>
(at? earlier z1).bind fun y3 =>
(slices_Compare v_.Vector y3.Vector).bind fun y4 =>
 some (decide (y4 ≤ 0)) else some false).bind fun x3 =>
 some x3).bind fun x2 =>
 if x2 then
 some 5
 else
(iter (fun s => multivalue_check.l1 v_ earlier s) 0).bind fun r1 =>
(match r1 with
| .inl p => multivalue_check.j2 p
| .inr _ => multivalue_check.j3)

noncomputable def multivalue_check.j4 (v_ : VersionedValue) (earlier : (List VersionedValue)) : Option Int :=
 multivalue_check.j1 v_ earlier (-1)

noncomputable def multivalue_check.l2 (v_ : VersionedValue) (x8 : Int) : Option (Step Int (Int ⊕ Unit)) :=
 if decide (x8 < (v_.Vector.length : Int)) then
(at? v_.Vector x8).bind fun y8 =>
(multivalue_check_s1 y8).bind fun y9 =>
 if y9 then
 some (Step.done (Sum.inl x8))
 else
(ckK .i64 (x8 + 1)).bind fun z3 =>
 some (Step.next z3)
 else
 some (Step.done (Sum.inr ()))

noncomputable def multivalue_check (v_ : VersionedValue) (earlier : (List VersionedValue)) : Option Int :=
(multivalue_inRange v_.Value).bind fun y1 =>
 if !y1 then
 some 3
 else
 if !decide ((v_.Vector.length : Int) = 6) then
 some 9
 else
(iter (fun s => multivalue_check.l2 v_ s) 0).bind fun r2 =>
(match r2 with
| .inl p => multivalue_check.j1 v_ earlier p
| .inr _ => multivalue_check.j4 v_ earlier)

noncomputable def multivalue_Validate.j1 : Option Fault :=
 some ({ Code := 0, Index := 0 } : Fault)

noncomputable def multivalue_Validate.l1 (values : (List VersionedValue)) (x1 : Int) : Option (Step Int (Fault ⊕ Unit)) :=
 if decide (x1 < (values.length : Int)) then
(at? values x1).bind fun y1 =>
(cut? values 0 x1).bind fun y2 =>
(multivalue_check y1 y2).bind fun y3 =>
 if !decide (y3 = 0) then
 some (Step.done (Sum.inl ({ Code := y3, Index := x1 } : Fault)))
 else
(ckK .i64 (x1 + 1)).bind fun z1 =>
 some (Step.next z1)
 else
 some (Step.done (Sum.inr ()))

noncomputable def multivalue_Validate (values : (List VersionedValue)) : Option Fault :=
 if decide ((values.length : Int) > 16) then
 some ({ Code := 2, Index := (-1) } : Fault)
 else
(iter (fun s => multivalue_Validate.l1 values s) 0).bind fun r1 =>
(match r1 with
| .inl p => some p
| .inr _ => multivalue_Validate.j1)

noncomputable def multivalue_Write.j1 (replica : Int) (value : Int) (x2 : List Int) : Option ((List VersionedValue) × Fault) :=
(at? x2 replica).bind fun y4 =>
(ckK .i64 (y4 + 1)).bind fun z1 =>
(at? x2 replica).bind fun y5 =>
(some (x2.set replica.toNat z1)).bind fun y6 =>
(at? y6 replica).bind fun y7 =>
 if decide (y7 > 1000000000) then
 some ([], ({ Code := 10, Index := (-1) } : Fault))
 else
 some (([({ Value := value, Vector := y6 } : VersionedValue)] : List VersionedValue), ({ Code := 0, Index := 0 } : Fault))

noncomputable def multivalue_Write.j2 (x3 : Int) (x6 : List Int) : Option (Step (Int × (List Int)) (List Int)) :=
(ckK .i64 (x3 + 1)).bind fun z2 =>
 some (Step.next (z2, x6))

noncomputable def multivalue_Write.j3 (x3 : Int) (x7 : List Int) : Option (Step (Int × (List Int)) (List Int)) :=
 multivalue_Write.j2 x3 x7

noncomputable def multivalue_Write.l2 (y8 : VersionedValue) (x8 : Int) (x9 : List Int) : Option (Step (Int × (List Int)) (List Int)) :=
 if decide (x8 < (y8.Vector.length : Int)) then
(at? y8.Vector x8).bind fun y9 =>
(at? x9 x8).bind fun y10 =>
(at? x9 x8).bind fun y11 =>
(some (x9.set x8.toNat (max y10 y9))).bind fun y12 =>
(ckK .i64 (x8 + 1)).bind fun z3 =>
 some (Step.next (z3, y12))
 else
 some (Step.done x9)

noncomputable def multivalue_Write.l1 (values : (List VersionedValue)) (x3 : Int) (x4 : List Int) : Option (Step (Int × (List Int)) (List Int)) :=
 if decide (x3 < (values.length : Int)) then
(at? values x3).bind fun y8 =>
(iter (fun s => multivalue_Write.l2 y8 s.1 s.2) (0, x4)).bind fun r2 =>
 multivalue_Write.j3 x3 r2
 else
 some (Step.done x4)

noncomputable def multivalue_Write (values : (List VersionedValue)) (replica : Int) (value : Int) : Option ((List VersionedValue) × Fault) :=
(multivalue_Validate values).bind fun y1 =>
 if !(decide (y1.Code = 0) && decide (y1.Index = 0)) then
 some ([], y1)
 else
(if decide (replica < 0) then some true else some (decide (replica ≥ 6))).bind fun x1 =>
 if x1 then
 some ([], ({ Code := 3, Index := (-2) } : Fault))
 else
(multivalue_inRange value).bind fun y2 =>
 if !y2 then
 some ([], ({ Code := 3, Index := (-3) } : Fault))
 else
(mk? 8 6 (0 : Int)).bind fun y3 =>
(iter (fun s => multivalue_Write.l1 values s.1 s.2) (0, y3)).bind fun r1 =>
 multivalue_Write.j1 replica value r1

noncomputable def changeforgeref2_Relation.j1 (x1 : Bool) (x2 : Bool) : Option (Bool × Bool) :=
 some (x2, x1)

noncomputable def changeforgeref2_Relation.l1 (a_ : (List Int)) (b_ : (List Int)) (x3 : Int) (x4 : Bool) (x5 : Bool) : Option (Step (Int × Bool × Bool) (Bool × Bool)) :=
 if decide (x3 < (a_.length : Int)) then
(if x5 then (at? a_ x3).bind fun y1 =>
(at? b_ x3).bind fun y2 =>
 some (decide (y1 ≥ y2)) else some false).bind fun x7 =>
(if x4 then (at? a_ x3).bind fun y3 =>
(at? b_ x3).bind fun y4 =>
 some (decide (y3 ≤ y4)) else some false).bind fun x8 =>
(ckK .i64 (x3 + 1)).bind fun z1 =>
 some (Step.next (z1, x8, x7))
 else
 some (Step.done (x4, x5))

noncomputable def changeforgeref2_Relation (a_ : (List Int)) (b_ : (List Int)) : Option (Bool × Bool) :=
(iter (fun s => changeforgeref2_Relation.l1 a_ b_ s.1 s.2.1 s.2.2) (0, true, true)).bind fun r1 =>
 changeforgeref2_Relation.j1 r1.1 r1.2

noncomputable def changeforgeref1_At (code : Int) (index : Int) : Option Fault :=
 some ({ Code := code, Index := index } : Fault)

noncomputable def changeforgeref2_less.j1 : Option Bool :=
 some false

noncomputable def changeforgeref2_less.l1 (a_ : (List Int)) (b_ : (List Int)) (x1 : Int) : Option (Step Int (Bool ⊕ Unit)) :=
 if decide (x1 < (a_.length : Int)) then
(at? a_ x1).bind fun y1 =>
(at? b_ x1).bind fun y2 =>
 if !decide (y1 = y2) then
(at? a_ x1).bind fun y3 =>
(at? b_ x1).bind fun y4 =>
 some (Step.done (Sum.inl (decide (y3 < y4))))
 else
(ckK .i64 (x1 + 1)).bind fun z1 =>
 some (Step.next z1)
 else
 some (Step.done (Sum.inr ()))

noncomputable def changeforgeref2_less (a_ : (List Int)) (b_ : (List Int)) : Option Bool :=
(iter (fun s => changeforgeref2_less.l1 a_ b_ s) 0).bind fun r1 =>
(match r1 with
| .inl p => some p
| .inr _ => changeforgeref2_less.j1)

noncomputable def changeforgeref2_ValuesFault.j1 : Option Fault :=
 some ({ Code := 0, Index := 0 } : Fault)

noncomputable def changeforgeref2_ValuesFault.j2 (x1 : Int) : Option (Step Int (Fault ⊕ Unit)) :=
(ckK .i64 (x1 + 1)).bind fun z1 =>
 some (Step.next z1)

noncomputable def changeforgeref2_ValuesFault.j4 (x1 : Int) : Option (Step Int (Fault ⊕ Unit)) :=
 changeforgeref2_ValuesFault.j2 x1

noncomputable def changeforgeref2_ValuesFault.l2 (l_ : (List VersionedValue)) (x1 : Int) (y2 : VersionedValue) (x7 : Int) : Option (Step Int (Fault ⊕ Unit)) :=
 if decide (x7 < x1) then
(at? l_ x7).bind fun y8 =>
(changeforgeref2_Relation y2.Vector y8.Vector).bind fun y9 =>
(if y9.1 then some true else some y9.2).bind fun x9 =>
 if x9 then
(changeforgeref1_At 19 x1).bind fun y10 =>
 some (Step.done (Sum.inl y10))
 else
(ckK .i64 (x7 + 1)).bind fun z3 =>
 some (Step.next z3)
 else
 some (Step.done (Sum.inr ()))

noncomputable def changeforgeref2_ValuesFault.j3 (l_ : (List VersionedValue)) (x1 : Int) (y2 : VersionedValue) (x4 : Bool) : Option (Step Int (Fault ⊕ Unit)) :=
(if x4 then some true else (if decide (x1 > 0) then (ckK .i64 (x1 - 1)).bind fun z2 =>
(at? l_ z2).bind fun y5 =>
(changeforgeref2_less y5.Vector y2.Vector).bind fun y6 =>
 some !y6 else some false).bind fun x6 =>
 some x6).bind fun x5 =>
 if x5 then
(changeforgeref1_At 5 x1).bind fun y7 =>
 some (Step.done (Sum.inl y7))
 else
(iter (fun s => changeforgeref2_ValuesFault.l2 l_ x1 y2 s) 0).bind fun r2 =>
(match r2 with
| .inl p => some (Step.done (Sum.inl p))
| .inr _ => changeforgeref2_ValuesFault.j4 x1)

noncomputable def changeforgeref2_ValuesFault.l3 (x1 : Int) (y2 : VersionedValue) (x10 : Int) (x11 : Bool) : Option (Step (Int × Bool) (Fault ⊕ Bool)) :=
 if decide (x10 < (y2.Vector.length : Int)) then
(at? y2.Vector x10).bind fun y11 =>
(if decide (y11 < 0) then some true else (at? y2.Vector x10).bind fun y12 =>
 some (decide (y12 > 1000000000))).bind fun x13 =>
 if x13 then
(changeforgeref1_At 3 x1).bind fun y13 =>
 some (Step.done (Sum.inl y13))
 else
(if x11 then (at? y2.Vector x10).bind fun y14 =>
 some (decide (y14 = 0)) else some false).bind fun x14 =>
(ckK .i64 (x10 + 1)).bind fun z4 =>
 some (Step.next (z4, x14))
 else
 some (Step.done (Sum.inr x11))

noncomputable def changeforgeref2_ValuesFault.l1 (l_ : (List VersionedValue)) (x1 : Int) : Option (Step Int (Fault ⊕ Unit)) :=
 if decide (x1 < (l_.length : Int)) then
(at? l_ x1).bind fun y2 =>
(if decide (y2.Value < 0) then some true else some (decide (y2.Value > 1000000000))).bind fun x3 =>
 if x3 then
(changeforgeref1_At 3 x1).bind fun y3 =>
 some (Step.done (Sum.inl y3))
 else
 if !decide ((y2.Vector.length : Int) = 6) then
(changeforgeref1_At 9 x1).bind fun y4 =>
 some (Step.done (Sum.inl y4))
 else
(iter (fun s => changeforgeref2_ValuesFault.l3 x1 y2 s.1 s.2) (0, true)).bind fun r3 =>
(match r3 with
| .inl p => some (Step.done (Sum.inl p))
| .inr p => changeforgeref2_ValuesFault.j3 l_ x1 y2 p)
 else
 some (Step.done (Sum.inr ()))

noncomputable def changeforgeref2_ValuesFault (l_ : (List VersionedValue)) : Option Fault :=
 if decide ((l_.length : Int) > 16) then
(changeforgeref1_At 2 (-1)).bind fun y1 =>
 some y1
 else
(iter (fun s => changeforgeref2_ValuesFault.l1 l_ s) 0).bind fun r1 =>
(match r1 with
| .inl p => some p
| .inr _ => changeforgeref2_ValuesFault.j1)

noncomputable def changeforgeref2_Written.j1 (replica : Int) (value : Int) (x3 : List Int) : Option ((List VersionedValue) × Fault) :=
(at? x3 replica).bind fun y4 =>
 if decide (y4 > 1000000000) then
(changeforgeref1_At 10 (-1)).bind fun y5 =>
 some ([], y5)
 else
 some (([({ Value := value, Vector := x3 } : VersionedValue)] : List VersionedValue), ({ Code := 0, Index := 0 } : Fault))

noncomputable def changeforgeref2_Written.j2 (x4 : Int) (x7 : List Int) : Option (Step (Int × (List Int)) (List Int)) :=
(ckK .i64 (x4 + 1)).bind fun z1 =>
 some (Step.next (z1, x7))

noncomputable def changeforgeref2_Written.j4 (x4 : Int) (x5 : List Int) (x9 : Int) : Option (Step (Int × (List Int)) (List Int)) :=
(app? 8 x5 ([x9] : List Int)).bind fun y6 =>
 changeforgeref2_Written.j2 x4 y6

noncomputable def changeforgeref2_Written.j3 (replica : Int) (x4 : Int) (x5 : List Int) (x8 : Int) : Option (Step (Int × (List Int)) (List Int)) :=
 if decide (x4 = replica) then
(ckK .i64 (x8 + 1)).bind fun z2 =>
 changeforgeref2_Written.j4 x4 x5 z2
 else
 changeforgeref2_Written.j4 x4 x5 x8

noncomputable def changeforgeref2_Written.j5 (x10 : Int) (x13 : Int) : Option (Step (Int × Int) Int) :=
(ckK .i64 (x10 + 1)).bind fun z3 =>
 some (Step.next (z3, x13))

noncomputable def changeforgeref2_Written.l2 (l_ : (List VersionedValue)) (x4 : Int) (x10 : Int) (x11 : Int) : Option (Step (Int × Int) Int) :=
 if decide (x10 < (l_.length : Int)) then
(at? l_ x10).bind fun y7 =>
(at? y7.Vector x4).bind fun y8 =>
 if decide (y8 > x11) then
(at? l_ x10).bind fun y9 =>
(at? y9.Vector x4).bind fun y10 =>
 changeforgeref2_Written.j5 x10 y10
 else
 changeforgeref2_Written.j5 x10 x11
 else
 some (Step.done x11)

noncomputable def changeforgeref2_Written.l1 (l_ : (List VersionedValue)) (replica : Int) (x4 : Int) (x5 : List Int) : Option (Step (Int × (List Int)) (List Int)) :=
 if decide (x4 < 6) then
(iter (fun s => changeforgeref2_Written.l2 l_ x4 s.1 s.2) (0, 0)).bind fun r2 =>
 changeforgeref2_Written.j3 replica x4 x5 r2
 else
 some (Step.done x5)

noncomputable def changeforgeref2_Written (l_ : (List VersionedValue)) (replica : Int) (value : Int) : Option ((List VersionedValue) × Fault) :=
(changeforgeref2_ValuesFault l_).bind fun y1 =>
 if !decide (y1.Code = 0) then
 some ([], y1)
 else
(if decide (replica < 0) then some true else some (decide (replica ≥ 6))).bind fun x1 =>
 if x1 then
(changeforgeref1_At 3 (-2)).bind fun y2 =>
 some ([], y2)
 else
(if decide (value < 0) then some true else some (decide (value > 1000000000))).bind fun x2 =>
 if x2 then
(changeforgeref1_At 3 (-3)).bind fun y3 =>
 some ([], y3)
 else
(iter (fun s => changeforgeref2_Written.l1 l_ replica s.1 s.2) (0, [])).bind fun r1 =>
 changeforgeref2_Written.j1 replica value r1

noncomputable def slices_Equal.j1 : Option Bool :=
 some true

noncomputable def slices_Equal.l1 (s1_ : (List Int)) (s2_ : (List Int)) (x1 : Int) : Option (Step Int (Bool ⊕ Unit)) :=
 if decide (x1 < (s1_.length : Int)) then
(at? s1_ x1).bind fun y1 =>
(at? s2_ x1).bind fun y2 =>
 if !decide (y1 = y2) then
 some (Step.done (Sum.inl false))
 else
(ckK .i64 (x1 + 1)).bind fun z1 =>
 some (Step.next z1)
 else
 some (Step.done (Sum.inr ()))

noncomputable def slices_Equal (s1_ : (List Int)) (s2_ : (List Int)) : Option Bool :=
 if !decide ((s1_.length : Int) = (s2_.length : Int)) then
 some false
 else
(iter (fun s => slices_Equal.l1 s1_ s2_ s) 0).bind fun r1 =>
(match r1 with
| .inl p => some p
| .inr _ => slices_Equal.j1)

noncomputable def slices_Clone (s_ : (List Int)) : Option (List Int) :=
 nilIf s_ (
 some []) (
(app? 8 ([] : List Int) s_).bind fun y1 =>
 some y1)

noncomputable def multivalue_left.j1 (x1 : List VersionedValue) : Option (List VersionedValue) :=
 some x1

noncomputable def multivalue_left.j2 (x2 : Int) (x5 : List VersionedValue) : Option (Step (Int × (List VersionedValue)) (List VersionedValue)) :=
(ckK .i64 (x2 + 1)).bind fun z1 =>
 some (Step.next (z1, x5))

noncomputable def multivalue_left.j3 (x2 : Int) (x3 : List VersionedValue) (y1 : VersionedValue) (x6 : Int) : Option (Step (Int × (List VersionedValue)) (List VersionedValue)) :=
 if !(decide (x6 ≥ 0)) then
(slices_Clone y1.Vector).bind fun y2 =>
(app? 32 x3 ([({ Value := y1.Value, Vector := y2 } : VersionedValue)] : List VersionedValue)).bind fun y3 =>
 multivalue_left.j2 x2 y3
 else
 multivalue_left.j2 x2 x3

noncomputable def multivalue_left.j4 (x2 : Int) (x3 : List VersionedValue) (y1 : VersionedValue) : Option (Step (Int × (List VersionedValue)) (List VersionedValue)) :=
 multivalue_left.j3 x2 x3 y1 (-1)

noncomputable def multivalue_left.l2 (b_ : (List VersionedValue)) (y1 : VersionedValue) (x7 : Int) : Option (Step Int (Int ⊕ Unit)) :=
 if decide (x7 < (b_.length : Int)) then
(at? b_ x7).bind fun y4 =>
(multivalue_covers y4.Vector y1.Vector).bind fun y5 =>
(if y5 then (slices_Equal y4.Vector y1.Vector).bind fun y6 =>
 some !y6 else some false).bind fun x9 =>
 if x9 then
 some (Step.done (Sum.inl x7))
 else
(ckK .i64 (x7 + 1)).bind fun z2 =>
 some (Step.next z2)
 else
 some (Step.done (Sum.inr ()))

noncomputable def multivalue_left.l1 (a_ : (List VersionedValue)) (b_ : (List VersionedValue)) (x2 : Int) (x3 : List VersionedValue) : Option (Step (Int × (List VersionedValue)) (List VersionedValue)) :=
 if decide (x2 < (a_.length : Int)) then
(at? a_ x2).bind fun y1 =>
(iter (fun s => multivalue_left.l2 b_ y1 s) 0).bind fun r2 =>
(match r2 with
| .inl p => multivalue_left.j3 x2 x3 y1 p
| .inr _ => multivalue_left.j4 x2 x3 y1)
 else
 some (Step.done x3)

noncomputable def multivalue_left (a_ : (List VersionedValue)) (b_ : (List VersionedValue)) : Option (List VersionedValue) :=
(iter (fun s => multivalue_left.l1 a_ b_ s.1 s.2) (0, [])).bind fun r1 =>
 multivalue_left.j1 r1

noncomputable def bits_Len32.j2 (x3 : Int) (x4 : Int) : Option Int :=
(ckK .u8 x4).bind fun z1 =>
(sAt? (⟨#[0, 1, 2, 2, 3, 3, 3, 3, 4, 4, 4, 4, 4, 4, 4, 4, 5, 5, 5, 5, 5, 5, 5, 5, 5, 5, 5, 5, 5, 5, 5, 5, 6, 6, 6, 6, 6, 6, 6, 6, 6, 6, 6, 6, 6, 6, 6, 6, 6, 6, 6, 6, 6, 6, 6, 6, 6, 6, 6, 6, 6, 6, 6, 6, 7, 7, 7, 7, 7, 7, 7, 7, 7, 7, 7, 7, 7, 7, 7, 7, 7, 7, 7, 7, 7, 7, 7, 7, 7, 7, 7, 7, 7, 7, 7, 7, 7, 7, 7, 7, 7, 7, 7, 7, 7, 7, 7, 7, 7, 7, 7, 7, 7, 7, 7, 7, 7, 7, 7, 7, 7, 7, 7, 7, 7, 7, 7, 7, 8, 8, 8, 8, 8, 8, 8, 8, 8, 8, 8, 8, 8, 8, 8, 8, 8, 8, 8, 8, 8, 8, 8, 8, 8, 8, 8, 8, 8, 8, 8, 8, 8, 8, 8, 8, 8, 8, 8, 8, 8, 8, 8, 8, 8, 8, 8, 8, 8, 8, 8, 8, 8, 8, 8, 8, 8, 8, 8, 8, 8, 8, 8, 8, 8, 8, 8, 8, 8, 8, 8, 8, 8, 8, 8, 8, 8, 8, 8, 8, 8, 8, 8, 8, 8, 8, 8, 8, 8, 8, 8, 8, 8, 8, 8, 8, 8, 8, 8, 8, 8, 8, 8, 8, 8, 8, 8, 8, 8, 8, 8, 8, 8, 8, 8, 8, 8, 8, 8, 8, 8, 8, 8, 8, 8, 8, 8, 8]⟩ : ByteArray) z1).bind fun y1 =>
(ckK .i64 y1).bind fun z2 =>
(ckK .i64 (x3 + z2)).bind fun z3 =>
 some z3

noncomputable def bits_Len32.j1 (x1 : Int) (x2 : Int) : Option Int :=
 if decide (x2 ≥ 256) then
(shr? .u32 x2 8).bind fun z4 =>
(ckK .i64 (x1 + 8)).bind fun z5 =>
 bits_Len32.j2 z5 z4
 else
 bits_Len32.j2 x1 x2

noncomputable def bits_Len32 (x_ : Int) : Option Int :=
 if decide (x_ ≥ 65536) then
(shr? .u32 x_ 16).bind fun z6 =>
 bits_Len32.j1 16 z6
 else
 bits_Len32.j1 0 x_

noncomputable def bits_Len64.j3 (x5 : Int) (x6 : Int) : Option Int :=
(ckK .u8 x6).bind fun z1 =>
(sAt? (⟨#[0, 1, 2, 2, 3, 3, 3, 3, 4, 4, 4, 4, 4, 4, 4, 4, 5, 5, 5, 5, 5, 5, 5, 5, 5, 5, 5, 5, 5, 5, 5, 5, 6, 6, 6, 6, 6, 6, 6, 6, 6, 6, 6, 6, 6, 6, 6, 6, 6, 6, 6, 6, 6, 6, 6, 6, 6, 6, 6, 6, 6, 6, 6, 6, 7, 7, 7, 7, 7, 7, 7, 7, 7, 7, 7, 7, 7, 7, 7, 7, 7, 7, 7, 7, 7, 7, 7, 7, 7, 7, 7, 7, 7, 7, 7, 7, 7, 7, 7, 7, 7, 7, 7, 7, 7, 7, 7, 7, 7, 7, 7, 7, 7, 7, 7, 7, 7, 7, 7, 7, 7, 7, 7, 7, 7, 7, 7, 7, 8, 8, 8, 8, 8, 8, 8, 8, 8, 8, 8, 8, 8, 8, 8, 8, 8, 8, 8, 8, 8, 8, 8, 8, 8, 8, 8, 8, 8, 8, 8, 8, 8, 8, 8, 8, 8, 8, 8, 8, 8, 8, 8, 8, 8, 8, 8, 8, 8, 8, 8, 8, 8, 8, 8, 8, 8, 8, 8, 8, 8, 8, 8, 8, 8, 8, 8, 8, 8, 8, 8, 8, 8, 8, 8, 8, 8, 8, 8, 8, 8, 8, 8, 8, 8, 8, 8, 8, 8, 8, 8, 8, 8, 8, 8, 8, 8, 8, 8, 8, 8, 8, 8, 8, 8, 8, 8, 8, 8, 8, 8, 8, 8, 8, 8, 8, 8, 8, 8, 8, 8, 8, 8, 8, 8, 8, 8, 8]⟩ : ByteArray) z1).bind fun y1 =>
(ckK .i64 y1).bind fun z2 =>
(ckK .i64 (x5 + z2)).bind fun z3 =>
 some z3

noncomputable def bits_Len64.j2 (x3 : Int) (x4 : Int) : Option Int :=
 if decide (x4 ≥ 256) then
(shr? .u64 x4 8).bind fun z4 =>
(ckK .i64 (x3 + 8)).bind fun z5 =>
 bits_Len64.j3 z5 z4
 else
 bits_Len64.j3 x3 x4

noncomputable def bits_Len64.j1 (x1 : Int) (x2 : Int) : Option Int :=
 if decide (x2 ≥ 65536) then
(shr? .u64 x2 16).bind fun z6 =>
(ckK .i64 (x1 + 16)).bind fun z7 =>
 bits_Len64.j2 z7 z6
 else
 bits_Len64.j2 x1 x2

noncomputable def bits_Len64 (x_ : Int) : Option Int :=
 if decide (x_ ≥ 4294967296) then
(shr? .u64 x_ 32).bind fun z8 =>
 bits_Len64.j1 32 z8
 else
 bits_Len64.j1 0 x_

noncomputable def bits_Len (x_ : Int) : Option Int :=
(bits_Len64 x_).bind fun y1 =>
 some y1

noncomputable def slices_nextPowerOfTwo (length : Int) : Option Int :=
(ckK .u64 length).bind fun z1 =>
(bits_Len z1).bind fun y1 =>
(shl? .u64 1 y1).bind fun z2 =>
 some z2

noncomputable def multivalue_Merge_s1 (x_ : VersionedValue) (y : VersionedValue) : Option Int :=
(slices_Compare x_.Vector y.Vector).bind fun y1 =>
 some y1

noncomputable def multivalue_Merge_s2 (x_ : VersionedValue) (y : VersionedValue) : Option Bool :=
(slices_Equal x_.Vector y.Vector).bind fun y1 =>
 some y1

noncomputable def multivalue_Merge.j2 (x1 : List VersionedValue) : Option ((List VersionedValue) × Fault) :=
 if decide ((x1.length : Int) > 16) then
 some ([], ({ Code := 10, Index := (-1) } : Fault))
 else
 some (x1, ({ Code := 0, Index := 0 } : Fault))

noncomputable def multivalue_Merge.j3 (y6 : List VersionedValue) : Option ((List VersionedValue) × Fault) :=
 multivalue_Merge.j2 y6

noncomputable def multivalue_Merge.j4 (x2 : Int) : Option (Step Int ((List VersionedValue) ⊕ Unit)) :=
(ckK .i64 (x2 + 1)).bind fun z1 =>
 some (Step.next z1)

noncomputable def multivalue_Merge.j5 (x4 : Int) (x5 : List VersionedValue) : Option (Step Int ((List VersionedValue) ⊕ Unit)) :=
(als? x5 x4).bind fun z4 =>
(clr? x5 x4 z4 ({ Value := 0, Vector := [] } : VersionedValue)).bind fun y10 =>
(cut? y10 0 x4).bind fun y11 =>
 some (Step.done (Sum.inl y11))

noncomputable def multivalue_Merge.j6 (x6 : Int) (x10 : Int) (x11 : List VersionedValue) : Option (Step (Int × Int × (List VersionedValue)) (Int × (List VersionedValue))) :=
(ckK .i64 (x6 + 1)).bind fun z5 =>
 some (Step.next (z5, x10, x11))

noncomputable def multivalue_Merge.l2 (x2 : Int) (z3 : Int) (x6 : Int) (x7 : Int) (x8 : List VersionedValue) : Option (Step (Int × Int × (List VersionedValue)) (Int × (List VersionedValue))) :=
 if decide (x6 < z3) then
(atA? x8 x2 z3 x6).bind fun y12 =>
(ckK .i64 (x6 - 1)).bind fun z6 =>
(atA? x8 x2 z3 z6).bind fun y13 =>
(multivalue_Merge_s2 y12 y13).bind fun y14 =>
 if !y14 then
(atA? x8 x2 z3 x6).bind fun y15 =>
(at? x8 x7).bind fun y16 =>
(some (x8.set x7.toNat y15)).bind fun y17 =>
(ckK .i64 (x7 + 1)).bind fun z7 =>
 multivalue_Merge.j6 x6 z7 y17
 else
 multivalue_Merge.j6 x6 x7 x8
 else
 some (Step.done (x7, x8))

noncomputable def multivalue_Merge.l1 (y6 : List VersionedValue) (x2 : Int) : Option (Step Int ((List VersionedValue) ⊕ Unit)) :=
 if decide (x2 < (y6.length : Int)) then
(at? y6 x2).bind fun y7 =>
(ckK .i64 (x2 - 1)).bind fun z2 =>
(at? y6 z2).bind fun y8 =>
(multivalue_Merge_s2 y7 y8).bind fun y9 =>
 if y9 then
(als? y6 x2).bind fun z3 =>
(iter (fun s => multivalue_Merge.l2 x2 z3 s.1 s.2.1 s.2.2) (1, x2, y6)).bind fun r2 =>
 multivalue_Merge.j5 r2.1 r2.2
 else
 multivalue_Merge.j4 x2
 else
 some (Step.done (Sum.inr ()))

noncomputable def multivalue_Merge.j1 (a_ : (List VersionedValue)) (b_ : (List VersionedValue)) : Option ((List VersionedValue) × Fault) :=
(multivalue_left a_ b_).bind fun y3 =>
(multivalue_left b_ a_).bind fun y4 =>
(app? 32 y3 y4).bind fun y5 =>
(sortM multivalue_Merge_s1 y5).bind fun y6 =>
 if decide ((y6.length : Int) < 2) then
 multivalue_Merge.j2 y6
 else
(iter (fun s => multivalue_Merge.l1 y6 s) 1).bind fun r1 =>
(match r1 with
| .inl p => multivalue_Merge.j2 p
| .inr _ => multivalue_Merge.j3 y6)

noncomputable def multivalue_Merge.j7 (x12 : Int) : Option (Step Int (((List VersionedValue) × Fault) ⊕ Unit)) :=
(ckK .i64 (x12 + 1)).bind fun z8 =>
 some (Step.next z8)

noncomputable def multivalue_Merge.j8 (x12 : Int) : Option (Step Int (((List VersionedValue) × Fault) ⊕ Unit)) :=
 multivalue_Merge.j7 x12

noncomputable def multivalue_Merge.l4 (a_ : (List VersionedValue)) (x12 : Int) (y18 : VersionedValue) (x14 : Int) : Option (Step Int (((List VersionedValue) × Fault) ⊕ Unit)) :=
 if decide (x14 < (a_.length : Int)) then
(at? a_ x14).bind fun y19 =>
(slices_Equal y19.Vector y18.Vector).bind fun y20 =>
(if y20 then some (!decide (y19.Value = y18.Value)) else some false).bind fun x16 =>
 if x16 then
 some (Step.done (Sum.inl ([], ({ Code := 19, Index := x12 } : Fault))))
 else
(ckK .i64 (x14 + 1)).bind fun z9 =>
 some (Step.next z9)
 else
 some (Step.done (Sum.inr ()))

noncomputable def multivalue_Merge.l3 (a_ : (List VersionedValue)) (b_ : (List VersionedValue)) (x12 : Int) : Option (Step Int (((List VersionedValue) × Fault) ⊕ Unit)) :=
 if decide (x12 < (b_.length : Int)) then
(at? b_ x12).bind fun y18 =>
(iter (fun s => multivalue_Merge.l4 a_ x12 y18 s) 0).bind fun r4 =>
(match r4 with
| .inl p => some (Step.done (Sum.inl p))
| .inr _ => multivalue_Merge.j8 x12)
 else
 some (Step.done (Sum.inr ()))

noncomputable def multivalue_Merge (a_ : (List VersionedValue)) (b_ : (List VersionedValue)) : Option ((List VersionedValue) × Fault) :=
(multivalue_Validate a_).bind fun y1 =>
 if !(decide (y1.Code = 0) && decide (y1.Index = 0)) then
 some ([], y1)
 else
(multivalue_Validate b_).bind fun y2 =>
 if !(decide (y2.Code = 0) && decide (y2.Index = 0)) then
 some ([], ({ Code := y2.Code, Index := (-2) } : Fault))
 else
(iter (fun s => multivalue_Merge.l3 a_ b_ s) 0).bind fun r3 =>
(match r3 with
| .inl p => some p
| .inr _ => multivalue_Merge.j1 a_ b_)

noncomputable def changeforgeref2_MergedValues.j1 (x1 : List VersionedValue) : Option ((List VersionedValue) × Fault) :=
 if decide ((x1.length : Int) > 16) then
(changeforgeref1_At 10 (-1)).bind fun y6 =>
 some ([], y6)
 else
 some (x1, ({ Code := 0, Index := 0 } : Fault))

noncomputable def changeforgeref2_MergedValues.j2 (x2 : Int) (x5 : List VersionedValue) : Option (Step (Int × (List VersionedValue)) (((List VersionedValue) × Fault) ⊕ (List VersionedValue))) :=
(ckK .i64 (x2 + 1)).bind fun z1 =>
 some (Step.next (z1, x5))

noncomputable def changeforgeref2_MergedValues.j4 (y5 : List VersionedValue) (x2 : Int) (x7 : List VersionedValue) (x8 : Int) : Option (Step (Int × (List VersionedValue)) (((List VersionedValue) × Fault) ⊕ (List VersionedValue))) :=
(at? y5 x2).bind fun y9 =>
(at? x7 x8).bind fun y10 =>
(some (x7.set x8.toNat y9)).bind fun y11 =>
 changeforgeref2_MergedValues.j2 x2 y11

noncomputable def changeforgeref2_MergedValues.l2 (y5 : List VersionedValue) (x2 : Int) (x9 : List VersionedValue) (x10 : Int) : Option (Step ((List VersionedValue) × Int) ((List VersionedValue) × Int)) :=
(if decide (x10 > 0) then (at? y5 x2).bind fun y12 =>
(ckK .i64 (x10 - 1)).bind fun z2 =>
(at? x9 z2).bind fun y13 =>
(changeforgeref2_less y12.Vector y13.Vector).bind fun y14 =>
 some y14 else some false).bind fun x12 =>
 if x12 then
(ckK .i64 (x10 - 1)).bind fun z3 =>
(at? x9 z3).bind fun y15 =>
(at? x9 x10).bind fun y16 =>
(some (x9.set x10.toNat y15)).bind fun y17 =>
(ckK .i64 (x10 - 1)).bind fun z4 =>
 some (Step.next (y17, z4))
 else
 some (Step.done (x9, x10))

noncomputable def changeforgeref2_MergedValues.j3 (y5 : List VersionedValue) (x2 : Int) (x3 : List VersionedValue) (x6 : Bool) : Option (Step (Int × (List VersionedValue)) (((List VersionedValue) × Fault) ⊕ (List VersionedValue))) :=
 if !x6 then
 changeforgeref2_MergedValues.j2 x2 x3
 else
(at? y5 x2).bind fun y7 =>
(app? 32 x3 ([y7] : List VersionedValue)).bind fun y8 =>
(iter (fun s => changeforgeref2_MergedValues.l2 y5 x2 s.1 s.2) (y8, (x3.length : Int))).bind fun r2 =>
 changeforgeref2_MergedValues.j4 y5 x2 r2.1 r2.2

noncomputable def changeforgeref2_MergedValues.j5 (x13 : Int) (x16 : Bool) : Option (Step (Int × Bool) (((List VersionedValue) × Fault) ⊕ Bool)) :=
(ckK .i64 (x13 + 1)).bind fun z5 =>
 some (Step.next (z5, x16))

noncomputable def changeforgeref2_MergedValues.j6 (x13 : Int) (y20 : Bool × Bool) (x17 : Bool) : Option (Step (Int × Bool) (((List VersionedValue) × Fault) ⊕ Bool)) :=
(if y20.1 then some !y20.2 else some false).bind fun x18 =>
 if x18 then
 changeforgeref2_MergedValues.j5 x13 false
 else
 changeforgeref2_MergedValues.j5 x13 x17

noncomputable def changeforgeref2_MergedValues.l3 (a_ : (List VersionedValue)) (y5 : List VersionedValue) (x2 : Int) (x13 : Int) (x14 : Bool) : Option (Step (Int × Bool) (((List VersionedValue) × Fault) ⊕ Bool)) :=
 if decide (x13 < (y5.length : Int)) then
(at? y5 x13).bind fun y18 =>
(at? y5 x2).bind fun y19 =>
(changeforgeref2_Relation y18.Vector y19.Vector).bind fun y20 =>
(if y20.1 then some y20.2 else some false).bind fun x19 =>
(if x19 then some (decide (x13 < x2)) else some false).bind fun x20 =>
 if x20 then
(at? y5 x13).bind fun y21 =>
(at? y5 x2).bind fun y22 =>
 if !decide (y21.Value = y22.Value) then
(ckK .i64 (x2 - (a_.length : Int))).bind fun z6 =>
(changeforgeref1_At 19 z6).bind fun y23 =>
 some (Step.done (Sum.inl ([], y23)))
 else
 changeforgeref2_MergedValues.j6 x13 y20 false
 else
 changeforgeref2_MergedValues.j6 x13 y20 x14
 else
 some (Step.done (Sum.inr x14))

noncomputable def changeforgeref2_MergedValues.l1 (a_ : (List VersionedValue)) (y5 : List VersionedValue) (x2 : Int) (x3 : List VersionedValue) : Option (Step (Int × (List VersionedValue)) (((List VersionedValue) × Fault) ⊕ (List VersionedValue))) :=
 if decide (x2 < (y5.length : Int)) then
(iter (fun s => changeforgeref2_MergedValues.l3 a_ y5 x2 s.1 s.2) (0, true)).bind fun r3 =>
(match r3 with
| .inl p => some (Step.done (Sum.inl p))
| .inr p => changeforgeref2_MergedValues.j3 y5 x2 x3 p)
 else
 some (Step.done (Sum.inr x3))

noncomputable def changeforgeref2_MergedValues (a_ : (List VersionedValue)) (b_ : (List VersionedValue)) : Option ((List VersionedValue) × Fault) :=
(changeforgeref2_ValuesFault a_).bind fun y1 =>
 if !decide (y1.Code = 0) then
 some ([], y1)
 else
(changeforgeref2_ValuesFault b_).bind fun y2 =>
 if !decide (y2.Code = 0) then
(changeforgeref1_At y2.Code (-2)).bind fun y3 =>
 some ([], y3)
 else
(app? 32 ([] : List VersionedValue) a_).bind fun y4 =>
(app? 32 y4 b_).bind fun y5 =>
(iter (fun s => changeforgeref2_MergedValues.l1 a_ y5 s.1 s.2) (0, [])).bind fun r1 =>
(match r1 with
| .inl p => some p
| .inr p => changeforgeref2_MergedValues.j1 p)

noncomputable def changeforgeequal_Ints.j1 : Option Bool :=
 some true

noncomputable def changeforgeequal_Ints.l1 (a_ : (List Int)) (b_ : (List Int)) (x1 : Int) : Option (Step Int (Bool ⊕ Unit)) :=
 if decide (x1 < (a_.length : Int)) then
(at? a_ x1).bind fun y1 =>
(at? b_ x1).bind fun y2 =>
 if !decide (y1 = y2) then
 some (Step.done (Sum.inl false))
 else
(ckK .i64 (x1 + 1)).bind fun z1 =>
 some (Step.next z1)
 else
 some (Step.done (Sum.inr ()))

noncomputable def changeforgeequal_Ints (a_ : (List Int)) (b_ : (List Int)) : Option Bool :=
 if !decide ((a_.length : Int) = (b_.length : Int)) then
 some false
 else
(iter (fun s => changeforgeequal_Ints.l1 a_ b_ s) 0).bind fun r1 =>
(match r1 with
| .inl p => some p
| .inr _ => changeforgeequal_Ints.j1)

noncomputable def changeforgeequal_Values.j1 : Option Bool :=
 some true

noncomputable def changeforgeequal_Values.l1 (a_ : (List VersionedValue)) (b_ : (List VersionedValue)) (x1 : Int) : Option (Step Int (Bool ⊕ Unit)) :=
 if decide (x1 < (a_.length : Int)) then
(at? a_ x1).bind fun y1 =>
(at? b_ x1).bind fun y2 =>
(if !decide (y1.Value = y2.Value) then some true else (at? a_ x1).bind fun y3 =>
(at? b_ x1).bind fun y4 =>
(changeforgeequal_Ints y3.Vector y4.Vector).bind fun y5 =>
 some !y5).bind fun x3 =>
 if x3 then
 some (Step.done (Sum.inl false))
 else
(ckK .i64 (x1 + 1)).bind fun z1 =>
 some (Step.next z1)
 else
 some (Step.done (Sum.inr ()))

noncomputable def changeforgeequal_Values (a_ : (List VersionedValue)) (b_ : (List VersionedValue)) : Option Bool :=
 if !decide ((a_.length : Int) = (b_.length : Int)) then
 some false
 else
(iter (fun s => changeforgeequal_Values.l1 a_ b_ s) 0).bind fun r1 =>
(match r1 with
| .inl p => some p
| .inr _ => changeforgeequal_Values.j1)

noncomputable def changeforgelaw2_first : Option Bool :=
(multivalue_Write ([] : List VersionedValue) 0 7).bind fun y1 =>
(if decide (y1.2.Code = 0) then (changeforgeequal_Values y1.1 ([({ Value := 7, Vector := ([1, 0, 0, 0, 0, 0] : List Int) } : VersionedValue)] : List VersionedValue)).bind fun y2 =>
 some y2 else some false).bind fun x1 =>
 some x1

noncomputable def changeforgelaw2_MultivalueMatchesSpec (a_ : (List VersionedValue)) (b_ : (List VersionedValue)) (replica : Int) (value : Int) : Option Bool :=
(multivalue_Write a_ replica value).bind fun y1 =>
(changeforgeref2_Written a_ replica value).bind fun y2 =>
(multivalue_Merge a_ b_).bind fun y3 =>
(changeforgeref2_MergedValues a_ b_).bind fun y4 =>
(multivalue_Validate a_).bind fun y5 =>
(changeforgeref2_ValuesFault a_).bind fun y6 =>
(if decide (y5.Code = y6.Code) && decide (y5.Index = y6.Index) then (changeforgeequal_Values y1.1 y2.1).bind fun y7 =>
 some y7 else some false).bind fun x1 =>
(if x1 then some (decide (y1.2.Code = y2.2.Code) && decide (y1.2.Index = y2.2.Index)) else some false).bind fun x2 =>
(if x2 then (changeforgeequal_Values y3.1 y4.1).bind fun y8 =>
 some y8 else some false).bind fun x3 =>
(if x3 then some (decide (y3.2.Code = y4.2.Code) && decide (y3.2.Index = y4.2.Index)) else some false).bind fun x4 =>
(if x4 then (changeforgelaw2_first).bind fun y9 =>
 some y9 else some false).bind fun x5 =>
 some x5

noncomputable def changeforgelaw2_MultivalueSemilattice (a_ : (List VersionedValue)) (b_ : (List VersionedValue)) (c_ : (List VersionedValue)) : Option Bool :=
(multivalue_Merge a_ b_).bind fun y1 =>
(multivalue_Merge b_ a_).bind fun y2 =>
(if !decide (y1.2.Code = 0) then some true else some (!decide (y2.2.Code = 0))).bind fun x1 =>
 if x1 then
(if decide (decide (y1.2.Code = 0) = decide (y2.2.Code = 0)) then (changeforgelaw2_first).bind fun y3 =>
 some y3 else some false).bind fun x2 =>
 some x2
 else
(multivalue_Merge y1.1 y1.1).bind fun y4 =>
(multivalue_Merge y1.1 c_).bind fun y5 =>
(multivalue_Merge b_ c_).bind fun y6 =>
(multivalue_Merge a_ y6.1).bind fun y7 =>
(changeforgeequal_Values y1.1 y2.1).bind fun y8 =>
(if !y8 then some true else some (!decide (y4.2.Code = 0))).bind fun x3 =>
(if x3 then some true else (changeforgeequal_Values y4.1 y1.1).bind fun y9 =>
 some !y9).bind fun x4 =>
 if x4 then
 some false
 else
(if !decide (y5.2.Code = 0) then some true else some (!decide (y6.2.Code = 0))).bind fun x5 =>
(if x5 then some true else some (!decide (y7.2.Code = 0))).bind fun x6 =>
 if x6 then
(changeforgelaw2_first).bind fun y10 =>
 some y10
 else
(changeforgeequal_Values y5.1 y7.1).bind fun y11 =>
(if y11 then (changeforgelaw2_first).bind fun y12 =>
 some y12 else some false).bind fun x7 =>
 some x7

noncomputable def changeforgelaw2_MultivalueWriteWins (a_ : (List VersionedValue)) (replica : Int) (value : Int) : Option Bool :=
(multivalue_Write a_ replica value).bind fun y1 =>
 if !decide (y1.2.Code = 0) then
(changeforgelaw2_first).bind fun y2 =>
 some y2
 else
(multivalue_Merge a_ y1.1).bind fun y3 =>
(if decide (y3.2.Code = 0) then (changeforgeequal_Values y3.1 y1.1).bind fun y4 =>
 some y4 else some false).bind fun x1 =>
(if x1 then some (decide ((y1.1.length : Int) = 1)) else some false).bind fun x2 =>
(if x2 then (at? y1.1 0).bind fun y5 =>
 some (decide (y5.Value = value)) else some false).bind fun x3 =>
(if x3 then (changeforgelaw2_first).bind fun y6 =>
 some y6 else some false).bind fun x4 =>
 some x4

noncomputable def changeforgelaw2_MultivalueConcurrent (a_ : (List VersionedValue)) (r_ : Int) (m_ : Int) (s_ : Int) (n_ : Int) : Option Bool :=
(multivalue_Write a_ r_ m_).bind fun y1 =>
(multivalue_Write a_ s_ n_).bind fun y2 =>
(if !decide (y1.2.Code = 0) then some true else some (!decide (y2.2.Code = 0))).bind fun x1 =>
 if x1 then
(changeforgelaw2_first).bind fun y3 =>
 some y3
 else
(multivalue_Merge y1.1 y2.1).bind fun y4 =>
 if decide (r_ = s_) then
(if decide (decide (y4.2.Code = 0) = decide (m_ = n_)) then (if !decide (m_ = n_) then some true else (changeforgeequal_Values y4.1 y1.1).bind fun y5 =>
 some y5).bind fun x3 =>
 some x3 else some false).bind fun x2 =>
(if x2 then (changeforgelaw2_first).bind fun y6 =>
 some y6 else some false).bind fun x4 =>
 some x4
 else
(if decide (y4.2.Code = 0) then some (decide ((y4.1.length : Int) = 2)) else some false).bind fun x5 =>
(if x5 then (multivalue_Validate y4.1).bind fun y7 =>
 some (decide (y7.Code = 0)) else some false).bind fun x6 =>
(if x6 then (changeforgelaw2_first).bind fun y8 =>
 some y8 else some false).bind fun x7 =>
 some x7

noncomputable def changeforgelaw2_MultivalueCovers.j1 : Option Bool :=
 some false

noncomputable def changeforgelaw2_MultivalueCovers.l1 (i_ : Int) (y1 : (List VersionedValue) × Fault) (y3 : List VersionedValue) (x3 : Int) : Option (Step Int (Bool ⊕ Unit)) :=
 if decide (x3 < (y1.1.length : Int)) then
(at? y1.1 x3).bind fun y5 =>
(at? y3 i_).bind fun y6 =>
(changeforgeref2_Relation y5.Vector y6.Vector).bind fun y7 =>
 if y7.1 then
(changeforgelaw2_first).bind fun y8 =>
 some (Step.done (Sum.inl y8))
 else
(ckK .i64 (x3 + 1)).bind fun z1 =>
 some (Step.next z1)
 else
 some (Step.done (Sum.inr ()))

noncomputable def changeforgelaw2_MultivalueCovers (a_ : (List VersionedValue)) (b_ : (List VersionedValue)) (i_ : Int) : Option Bool :=
(multivalue_Merge a_ b_).bind fun y1 =>
(app? 32 ([] : List VersionedValue) a_).bind fun y2 =>
(app? 32 y2 b_).bind fun y3 =>
(if !decide (y1.2.Code = 0) then some true else some (decide (i_ < 0))).bind fun x1 =>
(if x1 then some true else some (decide (i_ ≥ (y3.length : Int)))).bind fun x2 =>
 if x2 then
(changeforgelaw2_first).bind fun y4 =>
 some y4
 else
(iter (fun s => changeforgelaw2_MultivalueCovers.l1 i_ y1 y3 s) 0).bind fun r1 =>
(match r1 with
| .inl p => some p
| .inr _ => changeforgelaw2_MultivalueCovers.j1)

noncomputable def changeforgelaw2_MultivalueResolves (a_ : (List VersionedValue)) (b_ : (List VersionedValue)) (replica : Int) (value : Int) : Option Bool :=
(multivalue_Merge a_ b_).bind fun y1 =>
(multivalue_Write y1.1 replica value).bind fun y2 =>
(if !decide (y1.2.Code = 0) then some true else some (!decide (y2.2.Code = 0))).bind fun x1 =>
 if x1 then
(changeforgelaw2_first).bind fun y3 =>
 some y3
 else
(multivalue_Merge y2.1 a_).bind fun y4 =>
(multivalue_Merge b_ y2.1).bind fun y5 =>
(if decide (y4.2.Code = 0) then some (decide (y5.2.Code = 0)) else some false).bind fun x2 =>
(if x2 then (changeforgeequal_Values y4.1 y2.1).bind fun y6 =>
 some y6 else some false).bind fun x3 =>
(if x3 then (changeforgeequal_Values y5.1 y2.1).bind fun y7 =>
 some y7 else some false).bind fun x4 =>
(if x4 then (changeforgelaw2_first).bind fun y8 =>
 some y8 else some false).bind fun x5 =>
 some x5
end Go.Dc
