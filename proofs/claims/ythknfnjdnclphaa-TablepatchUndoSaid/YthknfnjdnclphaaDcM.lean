/- The functions as pure models. -/
import Derived.Test.YthknfnjdnclphaaDcTy
import Derived.Test.YthknfnjdnclphaaDcRS
namespace Go.Dc
open Go
set_option linter.unusedVariables false
noncomputable def stringslite_IndexByte (s_ : ByteArray) (c_ : Int) : Option Int :=
 some (idxB s_ c_)

noncomputable def strings_IndexByte (s_ : ByteArray) (c_ : Int) : Option Int :=
(stringslite_IndexByte s_ c_).bind fun y1 =>
 some y1

noncomputable def lines_Validate.j1 : Option Fault :=
 some ({ Code := 0, Index := 0 } : Fault)

noncomputable def lines_Validate.l1 (lines : (List ByteArray)) (x1 : Int) : Option (Step Int (Fault ⊕ Unit)) :=
 if decide (x1 < (lines.length : Int)) then
(at? lines x1).bind fun y1 =>
 if decide ((y1.size : Int) > 80) then
 some (Step.done (Sum.inl ({ Code := 2, Index := x1 } : Fault)))
 else
(strings_IndexByte y1 10).bind fun y2 =>
 if decide (y2 ≥ 0) then
 some (Step.done (Sum.inl ({ Code := 5, Index := x1 } : Fault)))
 else
(ckK .i64 (x1 + 1)).bind fun z1 =>
 some (Step.next z1)
 else
 some (Step.done (Sum.inr ()))

noncomputable def lines_Validate (lines : (List ByteArray)) : Option Fault :=
 if decide ((lines.length : Int) > 120) then
 some ({ Code := 2, Index := (-1) } : Fault)
 else
(iter (fun s => lines_Validate.l1 lines s) 0).bind fun r1 =>
(match r1 with
| .inl p => some p
| .inr _ => lines_Validate.j1)

noncomputable def tablepatch_text (l_ : (List ByteArray)) : Option Int :=
(lines_Validate l_).bind fun y1 =>
 some y1.Code

noncomputable def slices_Index.j1 : Option Int :=
 some (-1)

noncomputable def slices_Index.l1 (s_ : (List ByteArray)) (v_ : ByteArray) (x1 : Int) : Option (Step Int (Int ⊕ Unit)) :=
 if decide (x1 < (s_.length : Int)) then
(at? s_ x1).bind fun y1 =>
 if decide (v_ = y1) then
 some (Step.done (Sum.inl x1))
 else
(ckK .i64 (x1 + 1)).bind fun z1 =>
 some (Step.next z1)
 else
 some (Step.done (Sum.inr ()))

noncomputable def slices_Index (s_ : (List ByteArray)) (v_ : ByteArray) : Option Int :=
(iter (fun s => slices_Index.l1 s_ v_ s) 0).bind fun r1 =>
(match r1 with
| .inl p => some p
| .inr _ => slices_Index.j1)

noncomputable def slices_Contains (s_ : (List ByteArray)) (v_ : ByteArray) : Option Bool :=
(slices_Index s_ v_).bind fun y1 =>
 some (decide (y1 ≥ 0))

noncomputable def tablepatch_column (name : ByteArray) (earlier : (List ByteArray)) : Option Int :=
 if decide (name = (⟨#[]⟩ : ByteArray)) then
 some 12
 else
(tablepatch_text ([name] : List ByteArray)).bind fun y1 =>
 if !decide (y1 = 0) then
 some y1
 else
(slices_Contains earlier name).bind fun y2 =>
 if y2 then
 some 7
 else
 some 0

noncomputable def tablepatch_row (t_ : Table) (i_ : Int) : Option Int :=
(at? t_.Rows i_).bind fun y1 =>
 if decide (y1.Key = (⟨#[]⟩ : ByteArray)) then
 some 12
 else
(tablepatch_text ([y1.Key] : List ByteArray)).bind fun y2 =>
 if !decide (y2 = 0) then
 some y2
 else
 if !decide ((y1.Cells.length : Int) = (t_.Columns.length : Int)) then
 some 9
 else
(tablepatch_text y1.Cells).bind fun y3 =>
 if !decide (y3 = 0) then
 some y3
 else
(if decide (i_ > 0) then (ckK .i64 (i_ - 1)).bind fun z1 =>
(at? t_.Rows z1).bind fun y4 =>
 some (sLt y1.Key y4.Key || decide (y1.Key = y4.Key)) else some false).bind fun x1 =>
 if x1 then
 some 5
 else
 some 0

noncomputable def tablepatch_Validate.j2 : Option Fault :=
 some ({ Code := 0, Index := 0 } : Fault)

noncomputable def tablepatch_Validate.l1 (t_ : Table) (x2 : Int) : Option (Step Int (Fault ⊕ Unit)) :=
 if decide (x2 < (t_.Rows.length : Int)) then
(tablepatch_row t_ x2).bind fun y1 =>
 if !decide (y1 = 0) then
 some (Step.done (Sum.inl ({ Code := y1, Index := x2 } : Fault)))
 else
(ckK .i64 (x2 + 1)).bind fun z1 =>
 some (Step.next z1)
 else
 some (Step.done (Sum.inr ()))

noncomputable def tablepatch_Validate.j1 (t_ : Table) : Option Fault :=
(iter (fun s => tablepatch_Validate.l1 t_ s) 0).bind fun r1 =>
(match r1 with
| .inl p => some p
| .inr _ => tablepatch_Validate.j2)

noncomputable def tablepatch_Validate.l2 (t_ : Table) (x4 : Int) : Option (Step Int (Fault ⊕ Unit)) :=
 if decide (x4 < (t_.Columns.length : Int)) then
(at? t_.Columns x4).bind fun y2 =>
(cut? t_.Columns 0 x4).bind fun y3 =>
(tablepatch_column y2 y3).bind fun y4 =>
 if !decide (y4 = 0) then
(ckK .i64 ((-2) - x4)).bind fun z2 =>
 some (Step.done (Sum.inl ({ Code := y4, Index := z2 } : Fault)))
 else
(ckK .i64 (x4 + 1)).bind fun z3 =>
 some (Step.next z3)
 else
 some (Step.done (Sum.inr ()))

noncomputable def tablepatch_Validate (t_ : Table) : Option Fault :=
 if decide ((t_.Columns.length : Int) = 0) then
 some ({ Code := 5, Index := (-1) } : Fault)
 else
(if decide ((t_.Columns.length : Int) > 8) then some true else some (decide ((t_.Rows.length : Int) > 30))).bind fun x1 =>
 if x1 then
 some ({ Code := 2, Index := (-1) } : Fault)
 else
(iter (fun s => tablepatch_Validate.l2 t_ s) 0).bind fun r2 =>
(match r2 with
| .inl p => some p
| .inr _ => tablepatch_Validate.j1 t_)

noncomputable def slices_Equal.j1 : Option Bool :=
 some true

noncomputable def slices_Equal.l1 (s1_ : (List ByteArray)) (s2_ : (List ByteArray)) (x1 : Int) : Option (Step Int (Bool ⊕ Unit)) :=
 if decide (x1 < (s1_.length : Int)) then
(at? s1_ x1).bind fun y1 =>
(at? s2_ x1).bind fun y2 =>
 if !decide (y1 = y2) then
 some (Step.done (Sum.inl false))
 else
(ckK .i64 (x1 + 1)).bind fun z1 =>
 some (Step.next z1)
 else
 some (Step.done (Sum.inr ()))

noncomputable def slices_Equal (s1_ : (List ByteArray)) (s2_ : (List ByteArray)) : Option Bool :=
 if !decide ((s1_.length : Int) = (s2_.length : Int)) then
 some false
 else
(iter (fun s => slices_Equal.l1 s1_ s2_ s) 0).bind fun r1 =>
(match r1 with
| .inl p => some p
| .inr _ => slices_Equal.j1)

noncomputable def tablepatch_pair (old_ : Table) (newer : Table) (index : Int) : Option Fault :=
(tablepatch_Validate old_).bind fun y1 =>
 if !(decide (y1.Code = 0) && decide (y1.Index = 0)) then
 some y1
 else
(tablepatch_Validate newer).bind fun y2 =>
 if !(decide (y2.Code = 0) && decide (y2.Index = 0)) then
 some ({ Code := y2.Code, Index := index } : Fault)
 else
(slices_Equal old_.Columns newer.Columns).bind fun y3 =>
 if !y3 then
 some ({ Code := 8, Index := index } : Fault)
 else
 some ({ Code := 0, Index := 0 } : Fault)

noncomputable def slices_Clone (s_ : (List ByteArray)) : Option (List ByteArray) :=
 nilIf s_ (
 some []) (
(app? 16 ([] : List ByteArray) s_).bind fun y1 =>
 some y1)

noncomputable def slices_Clone_x (s_ : (List ByteArray)) : Option (List ByteArray) :=
 if s_.isEmpty then
 some []
 else
(app? 16 ([] : List ByteArray) s_).bind fun y1 =>
(neE? y1).bind fun u1 =>
 some y1

noncomputable def cmp_isNaN (x_ : ByteArray) : Option Bool :=
 some (!decide (x_ = x_))

noncomputable def cmp_Less (x_ : ByteArray) (y : ByteArray) : Option Bool :=
(cmp_isNaN x_).bind fun y1 =>
(if y1 then (cmp_isNaN y).bind fun y2 =>
 some !y2 else some false).bind fun x1 =>
(if x1 then some true else some (sLt x_ y)).bind fun x2 =>
 some x2

noncomputable def bits_Len32.j2 (x3 : Int) (x4 : Int) : Option Int :=
(ckK .u8 x4).bind fun z1 =>
(sAt? (⟨#[0, 1, 2, 2, 3, 3, 3, 3, 4, 4, 4, 4, 4, 4, 4, 4, 5, 5, 5, 5, 5, 5, 5, 5, 5, 5, 5, 5, 5, 5, 5, 5, 6, 6, 6, 6, 6, 6, 6, 6, 6, 6, 6, 6, 6, 6, 6, 6, 6, 6, 6, 6, 6, 6, 6, 6, 6, 6, 6, 6, 6, 6, 6, 6, 7, 7, 7, 7, 7, 7, 7, 7, 7, 7, 7, 7, 7, 7, 7, 7, 7, 7, 7, 7, 7, 7, 7, 7, 7, 7, 7, 7, 7, 7, 7, 7, 7, 7, 7, 7, 7, 7, 7, 7, 7, 7, 7, 7, 7, 7, 7, 7, 7, 7, 7, 7, 7, 7, 7, 7, 7, 7, 7, 7, 7, 7, 7, 7, 8, 8, 8, 8, 8, 8, 8, 8, 8, 8, 8, 8, 8, 8, 8, 8, 8, 8, 8, 8, 8, 8, 8, 8, 8, 8, 8, 8, 8, 8, 8, 8, 8, 8, 8, 8, 8, 8, 8, 8, 8, 8, 8, 8, 8, 8, 8, 8, 8, 8, 8, 8, 8, 8, 8, 8, 8, 8, 8, 8, 8, 8, 8, 8, 8, 8, 8, 8, 8, 8, 8, 8, 8, 8, 8, 8, 8, 8, 8, 8, 8, 8, 8, 8, 8, 8, 8, 8, 8, 8, 8, 8, 8, 8, 8, 8, 8, 8, 8, 8, 8, 8, 8, 8, 8, 8, 8, 8, 8, 8, 8, 8, 8, 8, 8, 8, 8, 8, 8, 8, 8, 8, 8, 8, 8, 8, 8, 8]⟩ : ByteArray) z1).bind fun y1 =>
(ckK .i64 y1).bind fun z2 =>
(ckK .i64 (x3 + z2)).bind fun z3 =>
 some z3

noncomputable def bits_Len32.j1 (x1 : Int) (x2 : Int) : Option Int :=
 if decide (x2 ≥ 256) then
(shr? .u32 x2 8).bind fun z4 =>
(ckK .i64 (x1 + 8)).bind fun z5 =>
 bits_Len32.j2 z5 z4
 else
 bits_Len32.j2 x1 x2

noncomputable def bits_Len32 (x_ : Int) : Option Int :=
 if decide (x_ ≥ 65536) then
(shr? .u32 x_ 16).bind fun z6 =>
 bits_Len32.j1 16 z6
 else
 bits_Len32.j1 0 x_

noncomputable def bits_Len64.j3 (x5 : Int) (x6 : Int) : Option Int :=
(ckK .u8 x6).bind fun z1 =>
(sAt? (⟨#[0, 1, 2, 2, 3, 3, 3, 3, 4, 4, 4, 4, 4, 4, 4, 4, 5, 5, 5, 5, 5, 5, 5, 5, 5, 5, 5, 5, 5, 5, 5, 5, 6, 6, 6, 6, 6, 6, 6, 6, 6, 6, 6, 6, 6, 6, 6, 6, 6, 6, 6, 6, 6, 6, 6, 6, 6, 6, 6, 6, 6, 6, 6, 6, 7, 7, 7, 7, 7, 7, 7, 7, 7, 7, 7, 7, 7, 7, 7, 7, 7, 7, 7, 7, 7, 7, 7, 7, 7, 7, 7, 7, 7, 7, 7, 7, 7, 7, 7, 7, 7, 7, 7, 7, 7, 7, 7, 7, 7, 7, 7, 7, 7, 7, 7, 7, 7, 7, 7, 7, 7, 7, 7, 7, 7, 7, 7, 7, 8, 8, 8, 8, 8, 8, 8, 8, 8, 8, 8, 8, 8, 8, 8, 8, 8, 8, 8, 8, 8, 8, 8, 8, 8, 8, 8, 8, 8, 8, 8, 8, 8, 8, 8, 8, 8, 8, 8, 8, 8, 8, 8, 8, 8, 8, 8, 8, 8, 8, 8, 8, 8, 8, 8, 8, 8, 8, 8, 8, 8, 8, 8, 8, 8, 8, 8, 8, 8, 8, 8, 8, 8, 8, 8, 8, 8, 8, 8, 8, 8, 8, 8, 8, 8, 8, 8, 8, 8, 8, 8, 8, 8, 8, 8, 8, 8, 8, 8, 8, 8, 8, 8, 8, 8, 8, 8, 8, 8, 8, 8, 8, 8, 8, 8, 8, 8, 8, 8, 8, 8, 8, 8, 8, 8, 8, 8, 8]⟩ : ByteArray) z1).bind fun y1 =>
(ckK .i64 y1).bind fun z2 =>
(ckK .i64 (x5 + z2)).bind fun z3 =>
 some z3

noncomputable def bits_Len64.j2 (x3 : Int) (x4 : Int) : Option Int :=
 if decide (x4 ≥ 256) then
(shr? .u64 x4 8).bind fun z4 =>
(ckK .i64 (x3 + 8)).bind fun z5 =>
 bits_Len64.j3 z5 z4
 else
 bits_Len64.j3 x3 x4

noncomputable def bits_Len64.j1 (x1 : Int) (x2 : Int) : Option Int :=
 if decide (x2 ≥ 65536) then
(shr? .u64 x2 16).bind fun z6 =>
(ckK .i64 (x1 + 16)).bind fun z7 =>
 bits_Len64.j2 z7 z6
 else
 bits_Len64.j2 x1 x2

noncomputable def bits_Len64 (x_ : Int) : Option Int :=
 if decide (x_ ≥ 4294967296) then
(shr? .u64 x_ 32).bind fun z8 =>
 bits_Len64.j1 32 z8
 else
 bits_Len64.j1 0 x_

noncomputable def bits_Len (x_ : Int) : Option Int :=
(bits_Len64 x_).bind fun y1 =>
 some y1

noncomputable def slices_nextPowerOfTwo (length : Int) : Option Int :=
(ckK .u64 length).bind fun z1 =>
(bits_Len z1).bind fun y1 =>
(shl? .u64 1 y1).bind fun z2 =>
 some z2

noncomputable def slices_Compact.j1 (s_ : (List ByteArray)) : Option (List ByteArray) :=
 some s_

noncomputable def slices_Compact.j2 (x1 : Int) : Option (Step Int ((List ByteArray) ⊕ Unit)) :=
(ckK .i64 (x1 + 1)).bind fun z1 =>
 some (Step.next z1)

noncomputable def slices_Compact.j3 (x3 : Int) (x4 : List ByteArray) : Option (Step Int ((List ByteArray) ⊕ Unit)) :=
(als? x4 x3).bind fun z4 =>
(clr? x4 x3 z4 ByteArray.empty).bind fun y3 =>
(cut? y3 0 x3).bind fun y4 =>
 some (Step.done (Sum.inl y4))

noncomputable def slices_Compact.j4 (x5 : Int) (x9 : Int) (x10 : List ByteArray) : Option (Step (Int × Int × (List ByteArray)) (Int × (List ByteArray))) :=
(ckK .i64 (x5 + 1)).bind fun z5 =>
 some (Step.next (z5, x9, x10))

noncomputable def slices_Compact.l2 (x1 : Int) (z3 : Int) (x5 : Int) (x6 : Int) (x7 : List ByteArray) : Option (Step (Int × Int × (List ByteArray)) (Int × (List ByteArray))) :=
 if decide (x5 < z3) then
(atA? x7 x1 z3 x5).bind fun y5 =>
(ckK .i64 (x5 - 1)).bind fun z6 =>
(atA? x7 x1 z3 z6).bind fun y6 =>
 if !decide (y5 = y6) then
(atA? x7 x1 z3 x5).bind fun y7 =>
(at? x7 x6).bind fun y8 =>
(some (x7.set x6.toNat y7)).bind fun y9 =>
(ckK .i64 (x6 + 1)).bind fun z7 =>
 slices_Compact.j4 x5 z7 y9
 else
 slices_Compact.j4 x5 x6 x7
 else
 some (Step.done (x6, x7))

noncomputable def slices_Compact.l1 (s_ : (List ByteArray)) (x1 : Int) : Option (Step Int ((List ByteArray) ⊕ Unit)) :=
 if decide (x1 < (s_.length : Int)) then
(at? s_ x1).bind fun y1 =>
(ckK .i64 (x1 - 1)).bind fun z2 =>
(at? s_ z2).bind fun y2 =>
 if decide (y1 = y2) then
(als? s_ x1).bind fun z3 =>
(iter (fun s => slices_Compact.l2 x1 z3 s.1 s.2.1 s.2.2) (1, x1, s_)).bind fun r2 =>
 slices_Compact.j3 r2.1 r2.2
 else
 slices_Compact.j2 x1
 else
 some (Step.done (Sum.inr ()))

noncomputable def slices_Compact (s_ : (List ByteArray)) : Option (List ByteArray) :=
 if decide ((s_.length : Int) < 2) then
 some s_
 else
(iter (fun s => slices_Compact.l1 s_ s) 1).bind fun r1 =>
(match r1 with
| .inl p => some p
| .inr _ => slices_Compact.j1 s_)

noncomputable def tablepatch_keys.j1 (x1 : List ByteArray) : Option (List ByteArray) :=
(sortS? x1).bind fun y1 =>
(slices_Compact y1).bind fun y2 =>
 some y2

noncomputable def tablepatch_keys.j2 (x2 : Int) (x5 : List ByteArray) : Option (Step (Int × (List ByteArray)) (List ByteArray)) :=
(ckK .i64 (x2 + 1)).bind fun z1 =>
 some (Step.next (z1, x5))

noncomputable def tablepatch_keys.j3 (x2 : Int) (x6 : List ByteArray) : Option (Step (Int × (List ByteArray)) (List ByteArray)) :=
 tablepatch_keys.j2 x2 x6

noncomputable def tablepatch_keys.l2 (y3 : Table) (x7 : Int) (x8 : List ByteArray) : Option (Step (Int × (List ByteArray)) (List ByteArray)) :=
 if decide (x7 < (y3.Rows.length : Int)) then
(at? y3.Rows x7).bind fun y4 =>
(app? 16 x8 ([y4.Key] : List ByteArray)).bind fun y5 =>
(ckK .i64 (x7 + 1)).bind fun z2 =>
 some (Step.next (z2, y5))
 else
 some (Step.done x8)

noncomputable def tablepatch_keys.l1 (tables : (List Table)) (x2 : Int) (x3 : List ByteArray) : Option (Step (Int × (List ByteArray)) (List ByteArray)) :=
 if decide (x2 < (tables.length : Int)) then
(at? tables x2).bind fun y3 =>
(iter (fun s => tablepatch_keys.l2 y3 s.1 s.2) (0, x3)).bind fun r2 =>
 tablepatch_keys.j3 x2 r2
 else
 some (Step.done x3)

noncomputable def tablepatch_keys (tables : (List Table)) : Option (List ByteArray) :=
(iter (fun s => tablepatch_keys.l1 tables s.1 s.2) (0, [])).bind fun r1 =>
 tablepatch_keys.j1 r1

noncomputable def bytealg_CompareString (a_ : ByteArray) (b_ : ByteArray) : Option Int :=
 some (cmpB a_ b_)

noncomputable def strings_Compare (a_ : ByteArray) (b_ : ByteArray) : Option Int :=
(bytealg_CompareString a_ b_).bind fun y1 =>
 some y1

noncomputable def tablepatch_find_s1 (r_ : Row) (key : ByteArray) : Option Int :=
(strings_Compare r_.Key key).bind fun y1 =>
 some y1

noncomputable def tablepatch_find.j1 (rows : (List Row)) (key : ByteArray) (x1 : Int) : Option (Int × Bool) :=
(if decide (x1 < (rows.length : Int)) then (at? rows x1).bind fun y1 =>
(tablepatch_find_s1 y1 key).bind fun y2 =>
 some (decide (y2 = 0)) else some false).bind fun x2 =>
 some (x1, x2)

noncomputable def tablepatch_find.l1 (rows : (List Row)) (key : ByteArray) (x3 : Int) (x4 : Int) : Option (Step (Int × Int) Int) :=
 if decide (x4 < x3) then
(ckK .i64 (x4 + x3)).bind fun z1 =>
(ckK .u64 z1).bind fun z2 =>
(shr? .u64 z2 1).bind fun z3 =>
(ckK .i64 z3).bind fun z4 =>
(at? rows z4).bind fun y3 =>
(tablepatch_find_s1 y3 key).bind fun y4 =>
 if decide (y4 < 0) then
(ckK .i64 (z4 + 1)).bind fun z5 =>
 some (Step.next (x3, z5))
 else
 some (Step.next (z4, x4))
 else
 some (Step.done x4)

noncomputable def tablepatch_find (rows : (List Row)) (key : ByteArray) : Option (Int × Bool) :=
(iter (fun s => tablepatch_find.l1 rows key s.1 s.2) ((rows.length : Int), 0)).bind fun r1 =>
 tablepatch_find.j1 rows key r1

noncomputable def tablepatch_get (t_ : Table) (key : ByteArray) : Option (List ByteArray) :=
(tablepatch_find t_.Rows key).bind fun y1 =>
 if !y1.2 then
 some []
 else
(at? t_.Rows y1.1).bind fun y2 =>
(neE? y2.Cells).bind fun u1 =>
 some y2.Cells

noncomputable def tablepatch_change (key : ByteArray) (column : Int) (old_ : (List ByteArray)) (newer : (List ByteArray)) : Option CellChange :=
(slices_Clone old_).bind fun y1 =>
(slices_Clone newer).bind fun y2 =>
 some ({ Key := key, Column := column, Old := y1, New := y2 } : CellChange)

noncomputable def tablepatch_cells.j1 (x1 : List CellChange) (x2 : List ByteArray) : Option ((List ByteArray) × (List CellChange)) :=
(neE? x2).bind fun u1 =>
 some (x2, x1)

noncomputable def tablepatch_cells.j2 (x3 : Int) (x7 : List CellChange) (x8 : List ByteArray) : Option (Step (Int × (List CellChange) × (List ByteArray)) ((List CellChange) × (List ByteArray))) :=
(ckK .i64 (x3 + 1)).bind fun z1 =>
 some (Step.next (z1, x7, x8))

noncomputable def tablepatch_cells.l1 (key : ByteArray) (base : (List ByteArray)) (left : (List ByteArray)) (right : (List ByteArray)) (x3 : Int) (x4 : List CellChange) (x5 : List ByteArray) : Option (Step (Int × (List CellChange) × (List ByteArray)) ((List CellChange) × (List ByteArray))) :=
 if decide (x3 < (left.length : Int)) then
(if !base.isEmpty then (at? left x3).bind fun y2 =>
(at? base x3).bind fun y3 =>
 some (decide (y2 = y3)) else some false).bind fun x9 =>
 if x9 then
(at? right x3).bind fun y4 =>
(at? x5 x3).bind fun y5 =>
(some (x5.set x3.toNat y4)).bind fun y6 =>
 tablepatch_cells.j2 x3 x4 y6
 else
(at? left x3).bind fun y7 =>
(at? right x3).bind fun y8 =>
(if !decide (y7 = y8) then (if base.isEmpty then some true else (at? right x3).bind fun y9 =>
(at? base x3).bind fun y10 =>
 some (!decide (y9 = y10))).bind fun x11 =>
 some x11 else some false).bind fun x10 =>
 if x10 then
(ckK .i64 (x3 + 1)).bind fun z2 =>
(cut? left x3 z2).bind fun y11 =>
(ckK .i64 (x3 + 1)).bind fun z3 =>
(cut? right x3 z3).bind fun y12 =>
(tablepatch_change key x3 y11 y12).bind fun y13 =>
(app? 72 x4 ([y13] : List CellChange)).bind fun y14 =>
 tablepatch_cells.j2 x3 y14 x5
 else
 tablepatch_cells.j2 x3 x4 x5
 else
 some (Step.done (x4, x5))

noncomputable def tablepatch_cells (key : ByteArray) (base : (List ByteArray)) (left : (List ByteArray)) (right : (List ByteArray)) : Option ((List ByteArray) × (List CellChange)) :=
(slices_Clone left).bind fun y1 =>
(iter (fun s => tablepatch_cells.l1 key base left right s.1 s.2.1 s.2.2) (0, [], y1)).bind fun r1 =>
 tablepatch_cells.j1 r1.1 r1.2

noncomputable def tablepatch_Merge.j1 (y3 : (List ByteArray)) (x1 : List CellChange) (x2 : List Row) : Option (Table × (List CellChange) × Fault) :=
 if decide ((x2.length : Int) > 30) then
 some (({ Columns := [], Rows := [] } : Table), [], ({ Code := 10, Index := (-1) } : Fault))
 else
 some (({ Columns := y3, Rows := x2 } : Table), x1, ({ Code := 0, Index := 0 } : Fault))

noncomputable def tablepatch_Merge.j2 (x3 : Int) (x7 : List CellChange) (x8 : List Row) : Option (Step (Int × (List CellChange) × (List Row)) ((List CellChange) × (List Row))) :=
(ckK .i64 (x3 + 1)).bind fun z1 =>
 some (Step.next (z1, x7, x8))

noncomputable def tablepatch_Merge.j3 (x3 : Int) (x5 : List Row) (y5 : ByteArray) (x9 : List ByteArray) (x10 : List CellChange) : Option (Step (Int × (List CellChange) × (List Row)) ((List CellChange) × (List Row))) :=
 if !x9.isEmpty then
(app? 40 x5 ([({ Key := y5, Cells := x9 } : Row)] : List Row)).bind fun y10 =>
 tablepatch_Merge.j2 x3 x10 y10
 else
 tablepatch_Merge.j2 x3 x10 x5

noncomputable def tablepatch_Merge.l1 (base : Table) (left : Table) (right : Table) (y4 : (List ByteArray)) (x3 : Int) (x4 : List CellChange) (x5 : List Row) : Option (Step (Int × (List CellChange) × (List Row)) ((List CellChange) × (List Row))) :=
 if decide (x3 < (y4.length : Int)) then
(at? y4 x3).bind fun y5 =>
(tablepatch_get base y5).bind fun y6 =>
(tablepatch_get left y5).bind fun y7 =>
(tablepatch_get right y5).bind fun y8 =>
(slices_Clone_x y7).bind fun y9 =>
(slices_Equal y8 y6).bind fun y11 =>
(if y11 then some true else (slices_Equal y8 y7).bind fun y12 =>
 some y12).bind fun x11 =>
 if x11 then
 tablepatch_Merge.j3 x3 x5 y5 y9 x4
 else
(slices_Equal y7 y6).bind fun y13 =>
 if y13 then
(slices_Clone_x y8).bind fun y14 =>
 tablepatch_Merge.j3 x3 x5 y5 y14 x4
 else
(if y7.isEmpty then some true else some y8.isEmpty).bind fun x12 =>
 if x12 then
(tablepatch_change y5 (-1) y7 y8).bind fun y15 =>
(app? 72 x4 ([y15] : List CellChange)).bind fun y16 =>
 tablepatch_Merge.j3 x3 x5 y5 y9 y16
 else
(tablepatch_cells y5 y6 y7 y8).bind fun y17 =>
(app? 72 x4 y17.2).bind fun y18 =>
 tablepatch_Merge.j3 x3 x5 y5 y17.1 y18
 else
 some (Step.done (x4, x5))

noncomputable def tablepatch_Merge (base : Table) (left : Table) (right : Table) : Option (Table × (List CellChange) × Fault) :=
(tablepatch_pair base left (-20)).bind fun y1 =>
 if !(decide (y1.Code = 0) && decide (y1.Index = 0)) then
 some (({ Columns := [], Rows := [] } : Table), [], y1)
 else
(tablepatch_pair base right (-30)).bind fun y2 =>
 if !(decide (y2.Code = 0) && decide (y2.Index = 0)) then
 some (({ Columns := [], Rows := [] } : Table), [], y2)
 else
(slices_Clone base.Columns).bind fun y3 =>
(tablepatch_keys ([base, left, right] : List Table)).bind fun y4 =>
(iter (fun s => tablepatch_Merge.l1 base left right y4 s.1 s.2.1 s.2.2) (0, [], [])).bind fun r1 =>
 tablepatch_Merge.j1 y3 r1.1 r1.2

noncomputable def changeforgeref1_At (code : Int) (index : Int) : Option Fault :=
 some ({ Code := code, Index := index } : Fault)

noncomputable def changeforgeref1_LinesFault.j1 : Option Fault :=
 some ({ Code := 0, Index := 0 } : Fault)

noncomputable def changeforgeref1_LinesFault.j2 (x1 : Int) : Option (Step Int (Fault ⊕ Unit)) :=
(ckK .i64 (x1 + 1)).bind fun z1 =>
 some (Step.next z1)

noncomputable def changeforgeref1_LinesFault.j3 (x1 : Int) : Option (Step Int (Fault ⊕ Unit)) :=
 changeforgeref1_LinesFault.j2 x1

noncomputable def changeforgeref1_LinesFault.l2 (l_ : (List ByteArray)) (x1 : Int) (x3 : Int) : Option (Step Int (Fault ⊕ Unit)) :=
(at? l_ x1).bind fun y4 =>
 if decide (x3 < (y4.size : Int)) then
(at? l_ x1).bind fun y5 =>
(sAt? y5 x3).bind fun y6 =>
 if decide (y6 = 10) then
(changeforgeref1_At 5 x1).bind fun y7 =>
 some (Step.done (Sum.inl y7))
 else
(ckK .i64 (x3 + 1)).bind fun z2 =>
 some (Step.next z2)
 else
 some (Step.done (Sum.inr ()))

noncomputable def changeforgeref1_LinesFault.l1 (l_ : (List ByteArray)) (x1 : Int) : Option (Step Int (Fault ⊕ Unit)) :=
 if decide (x1 < (l_.length : Int)) then
(at? l_ x1).bind fun y2 =>
 if decide ((y2.size : Int) > 80) then
(changeforgeref1_At 2 x1).bind fun y3 =>
 some (Step.done (Sum.inl y3))
 else
(iter (fun s => changeforgeref1_LinesFault.l2 l_ x1 s) 0).bind fun r2 =>
(match r2 with
| .inl p => some (Step.done (Sum.inl p))
| .inr _ => changeforgeref1_LinesFault.j3 x1)
 else
 some (Step.done (Sum.inr ()))

noncomputable def changeforgeref1_LinesFault (l_ : (List ByteArray)) : Option Fault :=
 if decide ((l_.length : Int) > 120) then
(changeforgeref1_At 2 (-1)).bind fun y1 =>
 some y1
 else
(iter (fun s => changeforgeref1_LinesFault.l1 l_ s) 0).bind fun r1 =>
(match r1 with
| .inl p => some p
| .inr _ => changeforgeref1_LinesFault.j1)

noncomputable def changeforgeref1_LinesCode (l_ : (List ByteArray)) : Option Int :=
(changeforgeref1_LinesFault l_).bind fun y1 =>
 some y1.Code

noncomputable def changeforgeref1_One (s_ : ByteArray) : Option Int :=
(changeforgeref1_LinesCode ([s_] : List ByteArray)).bind fun y1 =>
 some y1

noncomputable def changeforgeref2_nameCode (s_ : ByteArray) : Option Int :=
 if decide (s_ = (⟨#[]⟩ : ByteArray)) then
 some 12
 else
(changeforgeref1_One s_).bind fun y1 =>
 some y1

noncomputable def changeforgeref2_TableFault.j2 : Option Fault :=
 some ({ Code := 0, Index := 0 } : Fault)

noncomputable def changeforgeref2_TableFault.j5 (x2 : Int) (x6 : Int) : Option (Step Int (Fault ⊕ Unit)) :=
 if !decide (x6 = 0) then
(changeforgeref1_At x6 x2).bind fun y5 =>
 some (Step.done (Sum.inl y5))
 else
(ckK .i64 (x2 + 1)).bind fun z1 =>
 some (Step.next z1)

noncomputable def changeforgeref2_TableFault.j4 (t_ : Table) (x2 : Int) (y3 : Row) (x5 : Int) : Option (Step Int (Fault ⊕ Unit)) :=
(if decide (x5 = 0) then some (decide (x2 > 0)) else some false).bind fun x7 =>
(if x7 then (ckK .i64 (x2 - 1)).bind fun z2 =>
(at? t_.Rows z2).bind fun y6 =>
 some (sLt y3.Key y6.Key || decide (y3.Key = y6.Key)) else some false).bind fun x8 =>
 if x8 then
 changeforgeref2_TableFault.j5 x2 5
 else
 changeforgeref2_TableFault.j5 x2 x5

noncomputable def changeforgeref2_TableFault.j3 (t_ : Table) (x2 : Int) (y3 : Row) (x4 : Int) : Option (Step Int (Fault ⊕ Unit)) :=
 if decide (x4 = 0) then
(changeforgeref1_LinesCode y3.Cells).bind fun y7 =>
 changeforgeref2_TableFault.j4 t_ x2 y3 y7
 else
 changeforgeref2_TableFault.j4 t_ x2 y3 x4

noncomputable def changeforgeref2_TableFault.l1 (t_ : Table) (x2 : Int) : Option (Step Int (Fault ⊕ Unit)) :=
 if decide (x2 < (t_.Rows.length : Int)) then
(at? t_.Rows x2).bind fun y3 =>
(changeforgeref2_nameCode y3.Key).bind fun y4 =>
(if decide (y4 = 0) then some (!decide ((y3.Cells.length : Int) = (t_.Columns.length : Int))) else some false).bind fun x9 =>
 if x9 then
 changeforgeref2_TableFault.j3 t_ x2 y3 9
 else
 changeforgeref2_TableFault.j3 t_ x2 y3 y4
 else
 some (Step.done (Sum.inr ()))

noncomputable def changeforgeref2_TableFault.j1 (t_ : Table) : Option Fault :=
(iter (fun s => changeforgeref2_TableFault.l1 t_ s) 0).bind fun r1 =>
(match r1 with
| .inl p => some p
| .inr _ => changeforgeref2_TableFault.j2)

noncomputable def changeforgeref2_TableFault.j6 (x10 : Int) : Option (Step Int (Fault ⊕ Unit)) :=
(ckK .i64 (x10 + 1)).bind fun z3 =>
 some (Step.next z3)

noncomputable def changeforgeref2_TableFault.j7 (x10 : Int) : Option (Step Int (Fault ⊕ Unit)) :=
 changeforgeref2_TableFault.j6 x10

noncomputable def changeforgeref2_TableFault.l3 (t_ : Table) (x10 : Int) (x12 : Int) : Option (Step Int (Fault ⊕ Unit)) :=
 if decide (x12 < x10) then
(at? t_.Columns x12).bind fun y11 =>
(at? t_.Columns x10).bind fun y12 =>
 if decide (y11 = y12) then
(ckK .i64 ((-2) - x10)).bind fun z5 =>
(changeforgeref1_At 7 z5).bind fun y13 =>
 some (Step.done (Sum.inl y13))
 else
(ckK .i64 (x12 + 1)).bind fun z6 =>
 some (Step.next z6)
 else
 some (Step.done (Sum.inr ()))

noncomputable def changeforgeref2_TableFault.l2 (t_ : Table) (x10 : Int) : Option (Step Int (Fault ⊕ Unit)) :=
 if decide (x10 < (t_.Columns.length : Int)) then
(at? t_.Columns x10).bind fun y8 =>
(changeforgeref2_nameCode y8).bind fun y9 =>
 if !decide (y9 = 0) then
(ckK .i64 ((-2) - x10)).bind fun z4 =>
(changeforgeref1_At y9 z4).bind fun y10 =>
 some (Step.done (Sum.inl y10))
 else
(iter (fun s => changeforgeref2_TableFault.l3 t_ x10 s) 0).bind fun r3 =>
(match r3 with
| .inl p => some (Step.done (Sum.inl p))
| .inr _ => changeforgeref2_TableFault.j7 x10)
 else
 some (Step.done (Sum.inr ()))

noncomputable def changeforgeref2_TableFault (t_ : Table) : Option Fault :=
 if decide ((t_.Columns.length : Int) = 0) then
(changeforgeref1_At 5 (-1)).bind fun y1 =>
 some y1
 else
(if decide ((t_.Columns.length : Int) > 8) then some true else some (decide ((t_.Rows.length : Int) > 30))).bind fun x1 =>
 if x1 then
(changeforgeref1_At 2 (-1)).bind fun y2 =>
 some y2
 else
(iter (fun s => changeforgeref2_TableFault.l2 t_ s) 0).bind fun r2 =>
(match r2 with
| .inl p => some p
| .inr _ => changeforgeref2_TableFault.j1 t_)

noncomputable def changeforgeref1_Equal.j1 : Option Bool :=
 some true

noncomputable def changeforgeref1_Equal.l1 (a_ : (List ByteArray)) (b_ : (List ByteArray)) (x1 : Int) : Option (Step Int (Bool ⊕ Unit)) :=
 if decide (x1 < (a_.length : Int)) then
(at? a_ x1).bind fun y1 =>
(at? b_ x1).bind fun y2 =>
 if !decide (y1 = y2) then
 some (Step.done (Sum.inl false))
 else
(ckK .i64 (x1 + 1)).bind fun z1 =>
 some (Step.next z1)
 else
 some (Step.done (Sum.inr ()))

noncomputable def changeforgeref1_Equal (a_ : (List ByteArray)) (b_ : (List ByteArray)) : Option Bool :=
 if !decide ((a_.length : Int) = (b_.length : Int)) then
 some false
 else
(iter (fun s => changeforgeref1_Equal.l1 a_ b_ s) 0).bind fun r1 =>
(match r1 with
| .inl p => some p
| .inr _ => changeforgeref1_Equal.j1)

noncomputable def changeforgeref2_TwoTables.j2 (x3 : Int) (x4 : Int) : Option Fault :=
 some ({ Code := x3, Index := x4 } : Fault)

noncomputable def changeforgeref2_TwoTables.j1 (a_ : Table) (b_ : Table) (at_ : Int) (x1 : Int) (x2 : Int) : Option Fault :=
(if decide (x1 = 0) then (changeforgeref1_Equal a_.Columns b_.Columns).bind fun y2 =>
 some !y2 else some false).bind fun x5 =>
 if x5 then
(changeforgeref1_At 8 at_).bind fun y3 =>
 changeforgeref2_TwoTables.j2 y3.Code y3.Index
 else
 changeforgeref2_TwoTables.j2 x1 x2

noncomputable def changeforgeref2_TwoTables (a_ : Table) (b_ : Table) (at_ : Int) : Option Fault :=
(changeforgeref2_TableFault a_).bind fun y1 =>
(if decide (y1.Code = 0) then (changeforgeref2_TableFault b_).bind fun y4 =>
 some (!decide (y4.Code = 0)) else some false).bind fun x6 =>
 if x6 then
(changeforgeref2_TableFault b_).bind fun y5 =>
(changeforgeref1_At y5.Code at_).bind fun y6 =>
 changeforgeref2_TwoTables.j1 a_ b_ at_ y6.Code y6.Index
 else
 changeforgeref2_TwoTables.j1 a_ b_ at_ y1.Code y1.Index

noncomputable def changeforgeref2_Keys.j1 (x1 : List ByteArray) : Option (List ByteArray) :=
 some x1

noncomputable def changeforgeref2_Keys.j2 (x4 : List ByteArray) (x7 : Int) (x8 : ByteArray) (x9 : Int) : Option (Step (Int × Int × (List ByteArray)) (List ByteArray)) :=
(if decide ((x4.length : Int) = 0) then some true else (ckK .i64 ((x4.length : Int) - 1)).bind fun z1 =>
(at? x4 z1).bind fun y1 =>
 some (!decide (y1 = x8))).bind fun x10 =>
 if x10 then
(app? 16 x4 ([x8] : List ByteArray)).bind fun y2 =>
 some (Step.next (x9, x7, y2))
 else
 some (Step.next (x9, x7, x4))

noncomputable def changeforgeref2_Keys.l1 (a_ : (List Row)) (b_ : (List Row)) (x2 : Int) (x3 : Int) (x4 : List ByteArray) : Option (Step (Int × Int × (List ByteArray)) (List ByteArray)) :=
(if decide (x3 < (a_.length : Int)) then some true else some (decide (x2 < (b_.length : Int)))).bind fun x6 =>
 if x6 then
(if decide (x2 = (b_.length : Int)) then some true else (if decide (x3 < (a_.length : Int)) then (at? a_ x3).bind fun y3 =>
(at? b_ x2).bind fun y4 =>
 some (sLt y3.Key y4.Key || decide (y3.Key = y4.Key)) else some false).bind fun x12 =>
 some x12).bind fun x11 =>
 if x11 then
(at? a_ x3).bind fun y5 =>
(ckK .i64 (x3 + 1)).bind fun z2 =>
 changeforgeref2_Keys.j2 x4 z2 y5.Key x2
 else
(at? b_ x2).bind fun y6 =>
(ckK .i64 (x2 + 1)).bind fun z3 =>
 changeforgeref2_Keys.j2 x4 x3 y6.Key z3
 else
 some (Step.done x4)

noncomputable def changeforgeref2_Keys (a_ : (List Row)) (b_ : (List Row)) : Option (List ByteArray) :=
(iter (fun s => changeforgeref2_Keys.l1 a_ b_ s.1 s.2.1 s.2.2) (0, 0, [])).bind fun r1 =>
 changeforgeref2_Keys.j1 r1

noncomputable def changeforgeref2_RowAt.j1 : Option Int :=
 some (-1)

noncomputable def changeforgeref2_RowAt.l1 (t_ : Table) (key : ByteArray) (x1 : Int) : Option (Step Int (Int ⊕ Unit)) :=
 if decide (x1 < (t_.Rows.length : Int)) then
(at? t_.Rows x1).bind fun y1 =>
 if decide (y1.Key = key) then
 some (Step.done (Sum.inl x1))
 else
(ckK .i64 (x1 + 1)).bind fun z1 =>
 some (Step.next z1)
 else
 some (Step.done (Sum.inr ()))

noncomputable def changeforgeref2_RowAt (t_ : Table) (key : ByteArray) : Option Int :=
(iter (fun s => changeforgeref2_RowAt.l1 t_ key s) 0).bind fun r1 =>
(match r1 with
| .inl p => some p
| .inr _ => changeforgeref2_RowAt.j1)

noncomputable def changeforgeref2_cellsOf (t_ : Table) (key : ByteArray) : Option (List ByteArray) :=
(changeforgeref2_RowAt t_ key).bind fun y1 =>
 if decide (y1 ≥ 0) then
(at? t_.Rows y1).bind fun y2 =>
 some y2.Cells
 else
 some []

noncomputable def changeforgeref2_MergeTables.j1 (base : Table) (x1 : List CellChange) (x2 : List Row) : Option (Table × (List CellChange) × Fault) :=
 if decide ((x2.length : Int) > 30) then
(changeforgeref1_At 10 (-1)).bind fun y4 =>
 some (({ Columns := [], Rows := [] } : Table), [], y4)
 else
 some (({ Columns := base.Columns, Rows := x2 } : Table), x1, ({ Code := 0, Index := 0 } : Fault))

noncomputable def changeforgeref2_MergeTables.j2 (x3 : Int) (x7 : List CellChange) (x8 : List Row) : Option (Step (Int × (List CellChange) × (List Row)) ((List CellChange) × (List Row))) :=
(ckK .i64 (x3 + 1)).bind fun z1 =>
 some (Step.next (z1, x7, x8))

noncomputable def changeforgeref2_MergeTables.j4 (x3 : Int) (y12 : List CellChange) (x13 : List Row) : Option (Step (Int × (List CellChange) × (List Row)) ((List CellChange) × (List Row))) :=
 changeforgeref2_MergeTables.j2 x3 y12 x13

noncomputable def changeforgeref2_MergeTables.j5 (y3 : (List ByteArray)) (x3 : Int) (x5 : List Row) (x14 : List ByteArray) (x15 : List CellChange) : Option (Step (Int × (List CellChange) × (List Row)) ((List CellChange) × (List Row))) :=
(at? y3 x3).bind fun y15 =>
(app? 40 x5 ([({ Key := y15, Cells := x14 } : Row)] : List Row)).bind fun y16 =>
 changeforgeref2_MergeTables.j2 x3 x15 y16

noncomputable def changeforgeref2_MergeTables.j6 (x16 : Int) (x20 : List ByteArray) (x21 : List CellChange) : Option (Step (Int × (List ByteArray) × (List CellChange)) ((List ByteArray) × (List CellChange))) :=
(ckK .i64 (x16 + 1)).bind fun z2 =>
 some (Step.next (z2, x20, x21))

noncomputable def changeforgeref2_MergeTables.l2 (y3 : (List ByteArray)) (x3 : Int) (y6 : (List ByteArray)) (x9 : List ByteArray) (x10 : List ByteArray) (x16 : Int) (x17 : List ByteArray) (x18 : List CellChange) : Option (Step (Int × (List ByteArray) × (List CellChange)) ((List ByteArray) × (List CellChange))) :=
 if decide (x16 < (x10.length : Int)) then
(at? x10 x16).bind fun y17 =>
(at? x9 x16).bind fun y18 =>
(if decide (y17 = y18) then some true else (if !(decide ((y6.length : Int) = 0)) then (at? x9 x16).bind fun y19 =>
(at? y6 x16).bind fun y20 =>
 some (decide (y19 = y20)) else some false).bind fun x23 =>
 some x23).bind fun x22 =>
 if x22 then
(at? x10 x16).bind fun y21 =>
(app? 16 x17 ([y21] : List ByteArray)).bind fun y22 =>
 changeforgeref2_MergeTables.j6 x16 y22 x18
 else
(if !(decide ((y6.length : Int) = 0)) then (at? x10 x16).bind fun y23 =>
(at? y6 x16).bind fun y24 =>
 some (decide (y23 = y24)) else some false).bind fun x24 =>
 if x24 then
(at? x9 x16).bind fun y25 =>
(app? 16 x17 ([y25] : List ByteArray)).bind fun y26 =>
 changeforgeref2_MergeTables.j6 x16 y26 x18
 else
(at? x10 x16).bind fun y27 =>
(app? 16 x17 ([y27] : List ByteArray)).bind fun y28 =>
(at? y3 x3).bind fun y29 =>
(ckK .i64 (x16 + 1)).bind fun z3 =>
(cut? x10 x16 z3).bind fun y30 =>
(ckK .i64 (x16 + 1)).bind fun z4 =>
(cut? x9 x16 z4).bind fun y31 =>
(app? 72 x18 ([({ Key := y29, Column := x16, Old := y30, New := y31 } : CellChange)] : List CellChange)).bind fun y32 =>
 changeforgeref2_MergeTables.j6 x16 y28 y32
 else
 some (Step.done (x17, x18))

noncomputable def changeforgeref2_MergeTables.j3 (y3 : (List ByteArray)) (x3 : Int) (x4 : List CellChange) (x5 : List Row) (y6 : (List ByteArray)) (x9 : List ByteArray) (x10 : List ByteArray) : Option (Step (Int × (List CellChange) × (List Row)) ((List CellChange) × (List Row))) :=
(if decide ((x10.length : Int) = 0) then some (decide ((x9.length : Int) = 0)) else some false).bind fun x11 =>
 if x11 then
 changeforgeref2_MergeTables.j2 x3 x4 x5
 else
(if decide ((x10.length : Int) = 0) then some true else some (decide ((x9.length : Int) = 0))).bind fun x12 =>
 if x12 then
(at? y3 x3).bind fun y11 =>
(app? 72 x4 ([({ Key := y11, Column := (-1), Old := x10, New := x9 } : CellChange)] : List CellChange)).bind fun y12 =>
 if decide ((x10.length : Int) > 0) then
(at? y3 x3).bind fun y13 =>
(app? 40 x5 ([({ Key := y13, Cells := x10 } : Row)] : List Row)).bind fun y14 =>
 changeforgeref2_MergeTables.j4 x3 y12 y14
 else
 changeforgeref2_MergeTables.j4 x3 y12 x5
 else
(iter (fun s => changeforgeref2_MergeTables.l2 y3 x3 y6 x9 x10 s.1 s.2.1 s.2.2) (0, [], x4)).bind fun r2 =>
 changeforgeref2_MergeTables.j5 y3 x3 x5 r2.1 r2.2

noncomputable def changeforgeref2_MergeTables.l1 (base : Table) (left : Table) (right : Table) (y3 : (List ByteArray)) (x3 : Int) (x4 : List CellChange) (x5 : List Row) : Option (Step (Int × (List CellChange) × (List Row)) ((List CellChange) × (List Row))) :=
 if decide (x3 < (y3.length : Int)) then
(at? y3 x3).bind fun y5 =>
(changeforgeref2_cellsOf base y5).bind fun y6 =>
(at? y3 x3).bind fun y7 =>
(changeforgeref2_cellsOf left y7).bind fun y8 =>
(at? y3 x3).bind fun y9 =>
(changeforgeref2_cellsOf right y9).bind fun y10 =>
(changeforgeref1_Equal y10 y6).bind fun y33 =>
(if y33 then some true else (changeforgeref1_Equal y8 y10).bind fun y34 =>
 some y34).bind fun x25 =>
 if x25 then
 changeforgeref2_MergeTables.j3 y3 x3 x4 x5 y6 y8 y8
 else
(changeforgeref1_Equal y8 y6).bind fun y35 =>
 if y35 then
 changeforgeref2_MergeTables.j3 y3 x3 x4 x5 y6 y10 y10
 else
 changeforgeref2_MergeTables.j3 y3 x3 x4 x5 y6 y10 y8
 else
 some (Step.done (x4, x5))

noncomputable def changeforgeref2_MergeTables (base : Table) (left : Table) (right : Table) : Option (Table × (List CellChange) × Fault) :=
(changeforgeref2_TwoTables base left (-20)).bind fun y1 =>
 if !decide (y1.Code = 0) then
 some (({ Columns := [], Rows := [] } : Table), [], y1)
 else
(changeforgeref2_TwoTables base right (-30)).bind fun y2 =>
 if !decide (y2.Code = 0) then
 some (({ Columns := [], Rows := [] } : Table), [], y2)
 else
(changeforgeref2_Keys left.Rows right.Rows).bind fun y3 =>
(iter (fun s => changeforgeref2_MergeTables.l1 base left right y3 s.1 s.2.1 s.2.2) (0, [], [])).bind fun r1 =>
 changeforgeref2_MergeTables.j1 base r1.1 r1.2

noncomputable def changeforgeequal_Strings.j1 : Option Bool :=
 some true

noncomputable def changeforgeequal_Strings.l1 (a_ : (List ByteArray)) (b_ : (List ByteArray)) (x1 : Int) : Option (Step Int (Bool ⊕ Unit)) :=
 if decide (x1 < (a_.length : Int)) then
(at? a_ x1).bind fun y1 =>
(at? b_ x1).bind fun y2 =>
 if !decide (y1 = y2) then
 some (Step.done (Sum.inl false))
 else
(ckK .i64 (x1 + 1)).bind fun z1 =>
 some (Step.next z1)
 else
 some (Step.done (Sum.inr ()))

noncomputable def changeforgeequal_Strings (a_ : (List ByteArray)) (b_ : (List ByteArray)) : Option Bool :=
 if !decide ((a_.length : Int) = (b_.length : Int)) then
 some false
 else
(iter (fun s => changeforgeequal_Strings.l1 a_ b_ s) 0).bind fun r1 =>
(match r1 with
| .inl p => some p
| .inr _ => changeforgeequal_Strings.j1)

noncomputable def changeforgeequal_Table.j1 : Option Bool :=
 some true

noncomputable def changeforgeequal_Table.l1 (a_ : Table) (b_ : Table) (x2 : Int) : Option (Step Int (Bool ⊕ Unit)) :=
 if decide (x2 < (a_.Rows.length : Int)) then
(at? a_.Rows x2).bind fun y2 =>
(at? b_.Rows x2).bind fun y3 =>
(if !decide (y2.Key = y3.Key) then some true else (at? a_.Rows x2).bind fun y4 =>
(at? b_.Rows x2).bind fun y5 =>
(changeforgeequal_Strings y4.Cells y5.Cells).bind fun y6 =>
 some !y6).bind fun x4 =>
 if x4 then
 some (Step.done (Sum.inl false))
 else
(ckK .i64 (x2 + 1)).bind fun z1 =>
 some (Step.next z1)
 else
 some (Step.done (Sum.inr ()))

noncomputable def changeforgeequal_Table (a_ : Table) (b_ : Table) : Option Bool :=
(changeforgeequal_Strings a_.Columns b_.Columns).bind fun y1 =>
(if !y1 then some true else some (!decide ((a_.Rows.length : Int) = (b_.Rows.length : Int)))).bind fun x1 =>
 if x1 then
 some false
 else
(iter (fun s => changeforgeequal_Table.l1 a_ b_ s) 0).bind fun r1 =>
(match r1 with
| .inl p => some p
| .inr _ => changeforgeequal_Table.j1)

noncomputable def changeforgeequal_Cells.j1 : Option Bool :=
 some true

noncomputable def changeforgeequal_Cells.l1 (a_ : (List CellChange)) (b_ : (List CellChange)) (x1 : Int) : Option (Step Int (Bool ⊕ Unit)) :=
 if decide (x1 < (a_.length : Int)) then
(at? a_ x1).bind fun y1 =>
(at? b_ x1).bind fun y2 =>
(if !decide (y1.Key = y2.Key) then some true else (at? a_ x1).bind fun y3 =>
(at? b_ x1).bind fun y4 =>
 some (!decide (y3.Column = y4.Column))).bind fun x3 =>
(if x3 then some true else (at? a_ x1).bind fun y5 =>
(at? b_ x1).bind fun y6 =>
(changeforgeequal_Strings y5.Old y6.Old).bind fun y7 =>
 some !y7).bind fun x4 =>
(if x4 then some true else (at? a_ x1).bind fun y8 =>
(at? b_ x1).bind fun y9 =>
(changeforgeequal_Strings y8.New y9.New).bind fun y10 =>
 some !y10).bind fun x5 =>
 if x5 then
 some (Step.done (Sum.inl false))
 else
(ckK .i64 (x1 + 1)).bind fun z1 =>
 some (Step.next z1)
 else
 some (Step.done (Sum.inr ()))

noncomputable def changeforgeequal_Cells (a_ : (List CellChange)) (b_ : (List CellChange)) : Option Bool :=
 if !decide ((a_.length : Int) = (b_.length : Int)) then
 some false
 else
(iter (fun s => changeforgeequal_Cells.l1 a_ b_ s) 0).bind fun r1 =>
(match r1 with
| .inl p => some p
| .inr _ => changeforgeequal_Cells.j1)

noncomputable def changeforgelaw2_table (a_ : ByteArray) (b_ : ByteArray) : Option Table :=
 some ({ Columns := ([(⟨#[99]⟩ : ByteArray), (⟨#[100]⟩ : ByteArray)] : List ByteArray), Rows := ([({ Key := (⟨#[107]⟩ : ByteArray), Cells := ([a_, b_] : List ByteArray) } : Row)] : List Row) } : Table)

noncomputable def changeforgelaw2_both.j1 (x1 : Bool) : Option Bool :=
 some x1

noncomputable def changeforgelaw2_both : Option Bool :=
(changeforgelaw2_table (⟨#[49]⟩ : ByteArray) (⟨#[50]⟩ : ByteArray)).bind fun y1 =>
(changeforgelaw2_table (⟨#[51]⟩ : ByteArray) (⟨#[50]⟩ : ByteArray)).bind fun y2 =>
(changeforgelaw2_table (⟨#[49]⟩ : ByteArray) (⟨#[52]⟩ : ByteArray)).bind fun y3 =>
(tablepatch_Merge y1 y2 y3).bind fun y4 =>
 if decide (y4.2.2.Code = 0) then
 if decide ((y4.2.1.length : Int) = 0) then
(changeforgelaw2_table (⟨#[51]⟩ : ByteArray) (⟨#[52]⟩ : ByteArray)).bind fun y5 =>
(changeforgeequal_Table y4.1 y5).bind fun y6 =>
 changeforgelaw2_both.j1 y6
 else
 changeforgelaw2_both.j1 false
 else
 changeforgelaw2_both.j1 false

noncomputable def changeforgelaw2_TablepatchMergeMatchesSpec (base : Table) (left : Table) (right : Table) : Option Bool :=
(tablepatch_Merge base left right).bind fun y1 =>
(changeforgeref2_MergeTables base left right).bind fun y2 =>
(changeforgeequal_Table y1.1 y2.1).bind fun y3 =>
(if y3 then (changeforgeequal_Cells y1.2.1 y2.2.1).bind fun y4 =>
 some y4 else some false).bind fun x1 =>
(if x1 then some (decide (y1.2.2.Code = y2.2.2.Code) && decide (y1.2.2.Index = y2.2.2.Index)) else some false).bind fun x2 =>
(if x2 then (changeforgelaw2_both).bind fun y5 =>
 some y5 else some false).bind fun x3 =>
 some x3

noncomputable def changeforgelaw2_TablepatchMergeSymmetric.j1 (y1 : Table × (List CellChange) × Fault) (y2 : Table × (List CellChange) × Fault) : Option Bool :=
(if decide ((y1.2.1.length : Int) > 0) then some true else (changeforgeequal_Table y1.1 y2.1).bind fun y4 =>
 some y4).bind fun x2 =>
(if x2 then (changeforgelaw2_both).bind fun y5 =>
 some y5 else some false).bind fun x3 =>
 some x3

noncomputable def changeforgelaw2_TablepatchMergeSymmetric.l1 (y1 : Table × (List CellChange) × Fault) (y2 : Table × (List CellChange) × Fault) (x4 : Int) : Option (Step Int (Bool ⊕ Unit)) :=
 if decide (x4 < (y1.2.1.length : Int)) then
(at? y1.2.1 x4).bind fun y6 =>
(at? y2.2.1 x4).bind fun y7 =>
(if !decide (y6.Key = y7.Key) then some true else (at? y1.2.1 x4).bind fun y8 =>
(at? y2.2.1 x4).bind fun y9 =>
 some (!decide (y8.Column = y9.Column))).bind fun x6 =>
(if x6 then some true else (at? y1.2.1 x4).bind fun y10 =>
(at? y2.2.1 x4).bind fun y11 =>
(changeforgeequal_Strings y10.Old y11.New).bind fun y12 =>
 some !y12).bind fun x7 =>
(if x7 then some true else (at? y1.2.1 x4).bind fun y13 =>
(at? y2.2.1 x4).bind fun y14 =>
(changeforgeequal_Strings y13.New y14.Old).bind fun y15 =>
 some !y15).bind fun x8 =>
 if x8 then
 some (Step.done (Sum.inl false))
 else
(ckK .i64 (x4 + 1)).bind fun z1 =>
 some (Step.next z1)
 else
 some (Step.done (Sum.inr ()))

noncomputable def changeforgelaw2_TablepatchMergeSymmetric (base : Table) (left : Table) (right : Table) : Option Bool :=
(tablepatch_Merge base left right).bind fun y1 =>
(tablepatch_Merge base right left).bind fun y2 =>
(if !decide (y1.2.2.Code = 0) then some true else some (!decide (y2.2.2.Code = 0))).bind fun x1 =>
 if x1 then
(changeforgelaw2_both).bind fun y3 =>
 some y3
 else
 if !decide ((y1.2.1.length : Int) = (y2.2.1.length : Int)) then
 some false
 else
(iter (fun s => changeforgelaw2_TablepatchMergeSymmetric.l1 y1 y2 s) 0).bind fun r1 =>
(match r1 with
| .inl p => some p
| .inr _ => changeforgelaw2_TablepatchMergeSymmetric.j1 y1 y2)

noncomputable def changeforgelaw2_TablepatchMergeOneSided (base : Table) (other : Table) : Option Bool :=
(tablepatch_Merge base base other).bind fun y1 =>
(tablepatch_Merge base other base).bind fun y2 =>
(tablepatch_Merge base other other).bind fun y3 =>
(if !decide (y1.2.2.Code = 0) then some true else some (!decide (y2.2.2.Code = 0))).bind fun x1 =>
(if x1 then some true else some (!decide (y3.2.2.Code = 0))).bind fun x2 =>
 if x2 then
(if !decide (y1.2.2.Code = 0) then some (!decide (y2.2.2.Code = 0)) else some false).bind fun x3 =>
(if x3 then some (!decide (y3.2.2.Code = 0)) else some false).bind fun x4 =>
(if x4 then (changeforgelaw2_both).bind fun y4 =>
 some y4 else some false).bind fun x5 =>
 some x5
 else
(changeforgeequal_Table y1.1 other).bind fun y5 =>
(if y5 then (changeforgeequal_Table y2.1 other).bind fun y6 =>
 some y6 else some false).bind fun x6 =>
(if x6 then (changeforgeequal_Table y3.1 other).bind fun y7 =>
 some y7 else some false).bind fun x7 =>
(if x7 then (ckK .i64 ((y1.2.1.length : Int) + (y2.2.1.length : Int))).bind fun z1 =>
(ckK .i64 (z1 + (y3.2.1.length : Int))).bind fun z2 =>
 some (decide (z2 = 0)) else some false).bind fun x8 =>
(if x8 then (changeforgelaw2_both).bind fun y8 =>
 some y8 else some false).bind fun x9 =>
 some x9

noncomputable def changeforgelaw2_TablepatchMergeValid.j1 (base : Table) (y1 : Table × (List CellChange) × Fault) : Option Bool :=
(tablepatch_Validate y1.1).bind fun y3 =>
(if decide (y3.Code = 0) then (changeforgeequal_Strings y1.1.Columns base.Columns).bind fun y4 =>
 some y4 else some false).bind fun x1 =>
(if x1 then (changeforgelaw2_both).bind fun y5 =>
 some y5 else some false).bind fun x2 =>
 some x2

noncomputable def changeforgelaw2_TablepatchMergeValid.l1 (y1 : Table × (List CellChange) × Fault) (x3 : Int) : Option (Step Int (Bool ⊕ Unit)) :=
 if decide (x3 < (y1.2.1.length : Int)) then
(at? y1.2.1 x3).bind fun y6 =>
(at? y1.2.1 x3).bind fun y7 =>
(changeforgeequal_Strings y6.Old y7.New).bind fun y8 =>
 if y8 then
 some (Step.done (Sum.inl false))
 else
(ckK .i64 (x3 + 1)).bind fun z1 =>
 some (Step.next z1)
 else
 some (Step.done (Sum.inr ()))

noncomputable def changeforgelaw2_TablepatchMergeValid (base : Table) (left : Table) (right : Table) : Option Bool :=
(tablepatch_Merge base left right).bind fun y1 =>
 if !decide (y1.2.2.Code = 0) then
(changeforgelaw2_both).bind fun y2 =>
 some y2
 else
(iter (fun s => changeforgelaw2_TablepatchMergeValid.l1 y1 s) 0).bind fun r1 =>
(match r1 with
| .inl p => some p
| .inr _ => changeforgelaw2_TablepatchMergeValid.j1 base y1)

noncomputable def slices_Concat.j2 (x2 : List ByteArray) : Option (List ByteArray) :=
 some x2

noncomputable def slices_Concat.l1 (slices : (List (List ByteArray))) (x3 : Int) (x4 : List ByteArray) : Option (Step (Int × (List ByteArray)) (List ByteArray)) :=
 if decide (x3 < (slices.length : Int)) then
(at? slices x3).bind fun y2 =>
(app? 16 x4 y2).bind fun y3 =>
(ckK .i64 (x3 + 1)).bind fun z1 =>
 some (Step.next (z1, y3))
 else
 some (Step.done x4)

noncomputable def slices_Concat.j1 (slices : (List (List ByteArray))) (x1 : Int) : Option (List ByteArray) :=
(grow0 ByteArray 16 x1).bind fun y1 =>
(iter (fun s => slices_Concat.l1 slices s.1 s.2) (0, y1)).bind fun r1 =>
 slices_Concat.j2 r1

noncomputable def slices_Concat.j3 (x6 : Int) (x9 : Int) : Option (Step (Int × Int) Int) :=
(ckK .i64 (x6 + 1)).bind fun z2 =>
 some (Step.next (z2, x9))

noncomputable def slices_Concat.l2 (slices : (List (List ByteArray))) (x6 : Int) (x7 : Int) : Option (Step (Int × Int) Int) :=
 if decide (x6 < (slices.length : Int)) then
(at? slices x6).bind fun y4 =>
(ckK .i64 (x7 + (y4.length : Int))).bind fun z3 =>
 if decide (z3 < 0) then
 Option.none
 else
 slices_Concat.j3 x6 z3
 else
 some (Step.done x7)

noncomputable def slices_Concat (slices : (List (List ByteArray))) : Option (List ByteArray) :=
(iter (fun s => slices_Concat.l2 slices s.1 s.2) (0, 0)).bind fun r2 =>
 slices_Concat.j1 slices r2

noncomputable def tablepatch_check.j1 (c_ : CellChange) (x2 : Int) : Option Int :=
(if decide (c_.Column = (-1)) then some (decide (decide ((c_.Old.length : Int) = 0) = decide ((c_.New.length : Int) = 0))) else some false).bind fun x3 =>
 if x3 then
 some 9
 else
(if decide (c_.Column ≥ 0) then (if decide ((c_.Old.length : Int) = 0) then some true else some (decide ((c_.New.length : Int) = 0))).bind fun x5 =>
 some x5 else some false).bind fun x4 =>
 if x4 then
 some 9
 else
(if !decide ((c_.Old.length : Int) = 0) then some (!decide ((c_.Old.length : Int) = x2)) else some false).bind fun x6 =>
(if x6 then some true else (if !decide ((c_.New.length : Int) = 0) then some (!decide ((c_.New.length : Int) = x2)) else some false).bind fun x8 =>
 some x8).bind fun x7 =>
 if x7 then
 some 9
 else
(slices_Concat ([c_.Old, c_.New] : List (List ByteArray))).bind fun y2 =>
(tablepatch_text y2).bind fun y3 =>
 some y3

noncomputable def tablepatch_check (c_ : CellChange) (columns : Int) : Option Int :=
 if decide (c_.Key = (⟨#[]⟩ : ByteArray)) then
 some 12
 else
(tablepatch_text ([c_.Key] : List ByteArray)).bind fun y1 =>
 if !decide (y1 = 0) then
 some y1
 else
(if decide (c_.Column < (-1)) then some true else some (decide (c_.Column ≥ columns))).bind fun x1 =>
 if x1 then
 some 3
 else
 if decide (c_.Column = (-1)) then
 tablepatch_check.j1 c_ columns
 else
 tablepatch_check.j1 c_ 1

noncomputable def tablepatch_clone.j1 (y1 : (List ByteArray)) (x1 : List Row) : Option Table :=
 some ({ Columns := y1, Rows := x1 } : Table)

noncomputable def tablepatch_clone.l1 (t_ : Table) (x2 : Int) (x3 : List Row) : Option (Step (Int × (List Row)) (List Row)) :=
 if decide (x2 < (t_.Rows.length : Int)) then
(at? t_.Rows x2).bind fun y2 =>
(slices_Clone y2.Cells).bind fun y3 =>
(app? 40 x3 ([({ Key := y2.Key, Cells := y3 } : Row)] : List Row)).bind fun y4 =>
(ckK .i64 (x2 + 1)).bind fun z1 =>
 some (Step.next (z1, y4))
 else
 some (Step.done x3)

noncomputable def tablepatch_clone (t_ : Table) : Option Table :=
(slices_Clone t_.Columns).bind fun y1 =>
(iter (fun s => tablepatch_clone.l1 t_ s.1 s.2) (0, [])).bind fun r1 =>
 tablepatch_clone.j1 y1 r1

noncomputable def tablepatch_Apply.j2 (y2 : Table) (x1 : List Row) : Option (Table × Fault) :=
 some (({ Columns := y2.Columns, Rows := x1 } : Table), ({ Code := 0, Index := 0 } : Fault))

noncomputable def tablepatch_Apply.j3 (x2 : Int) (x5 : Int) (x6 : List Row) : Option (Step (Int × (List Row)) ((Table × Fault) ⊕ (List Row))) :=
 if !decide (x5 = 0) then
 some (Step.done (Sum.inl (({ Columns := [], Rows := [] } : Table), ({ Code := x5, Index := x2 } : Fault))))
 else
(ckK .i64 (x2 + 1)).bind fun z1 =>
 some (Step.next (z1, x6))

noncomputable def tablepatch_Apply.l1 (changes : (List CellChange)) (x2 : Int) (x3 : List Row) : Option (Step (Int × (List Row)) ((Table × Fault) ⊕ (List Row))) :=
 if decide (x2 < (changes.length : Int)) then
(at? changes x2).bind fun y3 =>
(tablepatch_find x3 y3.Key).bind fun y4 =>
(if decide (y3.Column = (-1)) then some (decide ((y3.Old.length : Int) = 0)) else some false).bind fun x7 =>
 if x7 then
 if y4.2 then
 tablepatch_Apply.j3 x2 7 x3
 else
 if decide ((x3.length : Int) ≥ 30) then
 tablepatch_Apply.j3 x2 14 x3
 else
(slices_Clone y3.New).bind fun y5 =>
(ins? 40 x3 y4.1 ([({ Key := y3.Key, Cells := y5 } : Row)] : List Row)).bind fun y6 =>
 tablepatch_Apply.j3 x2 0 y6
 else
 if !y4.2 then
 tablepatch_Apply.j3 x2 6 x3
 else
(at? x3 y4.1).bind fun y7 =>
 if decide (y3.Column = (-1)) then
(slices_Equal y7.Cells y3.Old).bind fun y8 =>
 if !y8 then
 tablepatch_Apply.j3 x2 19 x3
 else
(ckK .i64 (y4.1 + 1)).bind fun z2 =>
(del? x3 y4.1 z2).bind fun y9 =>
 tablepatch_Apply.j3 x2 0 y9
 else
(at? y7.Cells y3.Column).bind fun y10 =>
(at? y3.Old 0).bind fun y11 =>
 if !decide (y10 = y11) then
 tablepatch_Apply.j3 x2 19 x3
 else
(at? y3.New 0).bind fun y12 =>
(at? y7.Cells y3.Column).bind fun y13 =>
(some (y7.Cells.set y3.Column.toNat y12)).bind fun y14 =>
(some (x3.set y4.1.toNat ({ Key := y7.Key, Cells := y14 } : Row))).bind fun y15 =>
 tablepatch_Apply.j3 x2 0 y15
 else
 some (Step.done (Sum.inr x3))

noncomputable def tablepatch_Apply.j1 (changes : (List CellChange)) (t_ : Table) : Option (Table × Fault) :=
(tablepatch_clone t_).bind fun y2 =>
(iter (fun s => tablepatch_Apply.l1 changes s.1 s.2) (0, y2.Rows)).bind fun r1 =>
(match r1 with
| .inl p => some p
| .inr p => tablepatch_Apply.j2 y2 p)

noncomputable def tablepatch_Apply.l2 (changes : (List CellChange)) (t_ : Table) (x8 : Int) : Option (Step Int ((Table × Fault) ⊕ Unit)) :=
 if decide (x8 < (changes.length : Int)) then
(at? changes x8).bind fun y16 =>
(tablepatch_check y16 (t_.Columns.length : Int)).bind fun y17 =>
 if !decide (y17 = 0) then
 some (Step.done (Sum.inl (({ Columns := [], Rows := [] } : Table), ({ Code := y17, Index := x8 } : Fault))))
 else
(ckK .i64 (x8 + 1)).bind fun z3 =>
 some (Step.next z3)
 else
 some (Step.done (Sum.inr ()))

noncomputable def tablepatch_Apply (changes : (List CellChange)) (t_ : Table) : Option (Table × Fault) :=
(tablepatch_Validate t_).bind fun y1 =>
 if !(decide (y1.Code = 0) && decide (y1.Index = 0)) then
 some (({ Columns := [], Rows := [] } : Table), ({ Code := y1.Code, Index := (-2) } : Fault))
 else
 if decide ((changes.length : Int) > 300) then
 some (({ Columns := [], Rows := [] } : Table), ({ Code := 2, Index := (-1) } : Fault))
 else
(iter (fun s => tablepatch_Apply.l2 changes t_ s) 0).bind fun r2 =>
(match r2 with
| .inl p => some p
| .inr _ => tablepatch_Apply.j1 changes t_)

noncomputable def changeforgelaw2_undone.j1 (x1 : List CellChange) : Option (List CellChange) :=
 some x1

noncomputable def changeforgelaw2_undone.l1 (l_ : (List CellChange)) (x2 : Int) (x3 : List CellChange) : Option (Step (Int × (List CellChange)) (List CellChange)) :=
 if decide (x2 ≥ 0) then
(at? l_ x2).bind fun y1 =>
(at? l_ x2).bind fun y2 =>
(at? l_ x2).bind fun y3 =>
(at? l_ x2).bind fun y4 =>
(app? 72 x3 ([({ Key := y1.Key, Column := y2.Column, Old := y3.New, New := y4.Old } : CellChange)] : List CellChange)).bind fun y5 =>
(ckK .i64 (x2 - 1)).bind fun z2 =>
 some (Step.next (z2, y5))
 else
 some (Step.done x3)

noncomputable def changeforgelaw2_undone (l_ : (List CellChange)) : Option (List CellChange) :=
(ckK .i64 ((l_.length : Int) - 1)).bind fun z1 =>
(iter (fun s => changeforgelaw2_undone.l1 l_ s.1 s.2) (z1, [])).bind fun r1 =>
 changeforgelaw2_undone.j1 r1

noncomputable def changeforgelaw2_TablepatchUndo.j1 (t_ : Table) (y4 : Table × Fault) : Option Bool :=
(if decide (y4.2.Code = 0) then (changeforgeequal_Table y4.1 t_).bind fun y5 =>
 some y5 else some false).bind fun x3 =>
(if x3 then (changeforgelaw2_both).bind fun y6 =>
 some y6 else some false).bind fun x4 =>
 some x4

noncomputable def changeforgelaw2_TablepatchUndo (l_ : (List CellChange)) (t_ : Table) : Option Bool :=
(tablepatch_Apply l_ t_).bind fun y1 =>
 if !decide (y1.2.Code = 0) then
(changeforgelaw2_both).bind fun y2 =>
 some y2
 else
(changeforgelaw2_undone l_).bind fun y3 =>
(tablepatch_Apply y3 y1.1).bind fun y4 =>
 changeforgelaw2_TablepatchUndo.j1 t_ y4

noncomputable def tablepatch_Diff.j1 (x1 : List CellChange) : Option ((List CellChange) × Fault) :=
 some (x1, ({ Code := 0, Index := 0 } : Fault))

noncomputable def tablepatch_Diff.j2 (x2 : Int) (x5 : List CellChange) : Option (Step (Int × (List CellChange)) (List CellChange)) :=
(ckK .i64 (x2 + 1)).bind fun z1 =>
 some (Step.next (z1, x5))

noncomputable def tablepatch_Diff.j3 (x2 : Int) (x7 : List CellChange) : Option (Step (Int × (List CellChange)) (List CellChange)) :=
 tablepatch_Diff.j2 x2 x7

noncomputable def tablepatch_Diff.j4 (x8 : Int) (x11 : List CellChange) : Option (Step (Int × (List CellChange)) (List CellChange)) :=
(ckK .i64 (x8 + 1)).bind fun z2 =>
 some (Step.next (z2, x11))

noncomputable def tablepatch_Diff.l2 (y3 : ByteArray) (y4 : (List ByteArray)) (y5 : (List ByteArray)) (x8 : Int) (x9 : List CellChange) : Option (Step (Int × (List CellChange)) (List CellChange)) :=
 if decide (x8 < (y4.length : Int)) then
(at? y4 x8).bind fun y8 =>
(at? y5 x8).bind fun y9 =>
 if !decide (y8 = y9) then
(ckK .i64 (x8 + 1)).bind fun z3 =>
(cut? y4 x8 z3).bind fun y10 =>
(ckK .i64 (x8 + 1)).bind fun z4 =>
(cut? y5 x8 z4).bind fun y11 =>
(tablepatch_change y3 x8 y10 y11).bind fun y12 =>
(app? 72 x9 ([y12] : List CellChange)).bind fun y13 =>
 tablepatch_Diff.j4 x8 y13
 else
 tablepatch_Diff.j4 x8 x9
 else
 some (Step.done x9)

noncomputable def tablepatch_Diff.l1 (old_ : Table) (newer : Table) (y2 : (List ByteArray)) (x2 : Int) (x3 : List CellChange) : Option (Step (Int × (List CellChange)) (List CellChange)) :=
 if decide (x2 < (y2.length : Int)) then
(at? y2 x2).bind fun y3 =>
(tablepatch_get old_ y3).bind fun y4 =>
(tablepatch_get newer y3).bind fun y5 =>
(if y4.isEmpty then some true else some y5.isEmpty).bind fun x6 =>
 if x6 then
(tablepatch_change y3 (-1) y4 y5).bind fun y6 =>
(app? 72 x3 ([y6] : List CellChange)).bind fun y7 =>
 tablepatch_Diff.j2 x2 y7
 else
(iter (fun s => tablepatch_Diff.l2 y3 y4 y5 s.1 s.2) (0, x3)).bind fun r2 =>
 tablepatch_Diff.j3 x2 r2
 else
 some (Step.done x3)

noncomputable def tablepatch_Diff (old_ : Table) (newer : Table) : Option ((List CellChange) × Fault) :=
(tablepatch_pair old_ newer (-20)).bind fun y1 =>
 if !(decide (y1.Code = 0) && decide (y1.Index = 0)) then
 some ([], y1)
 else
(tablepatch_keys ([old_, newer] : List Table)).bind fun y2 =>
(iter (fun s => tablepatch_Diff.l1 old_ newer y2 s.1 s.2) (0, [])).bind fun r1 =>
 tablepatch_Diff.j1 r1

noncomputable def changeforgeref2_DiffTables.j1 (x1 : List CellChange) : Option ((List CellChange) × Fault) :=
 some (x1, ({ Code := 0, Index := 0 } : Fault))

noncomputable def changeforgeref2_DiffTables.j2 (x2 : Int) (x5 : List CellChange) : Option (Step (Int × (List CellChange)) (List CellChange)) :=
(ckK .i64 (x2 + 1)).bind fun z1 =>
 some (Step.next (z1, x5))

noncomputable def changeforgeref2_DiffTables.j3 (x2 : Int) (x7 : List CellChange) : Option (Step (Int × (List CellChange)) (List CellChange)) :=
 changeforgeref2_DiffTables.j2 x2 x7

noncomputable def changeforgeref2_DiffTables.j4 (x8 : Int) (x11 : List CellChange) : Option (Step (Int × (List CellChange)) (List CellChange)) :=
(ckK .i64 (x8 + 1)).bind fun z2 =>
 some (Step.next (z2, x11))

noncomputable def changeforgeref2_DiffTables.l2 (y2 : (List ByteArray)) (x2 : Int) (y4 : (List ByteArray)) (y6 : (List ByteArray)) (x8 : Int) (x9 : List CellChange) : Option (Step (Int × (List CellChange)) (List CellChange)) :=
 if decide (x8 < (y4.length : Int)) then
(at? y4 x8).bind fun y9 =>
(at? y6 x8).bind fun y10 =>
 if !decide (y9 = y10) then
(at? y2 x2).bind fun y11 =>
(ckK .i64 (x8 + 1)).bind fun z3 =>
(cut? y4 x8 z3).bind fun y12 =>
(ckK .i64 (x8 + 1)).bind fun z4 =>
(cut? y6 x8 z4).bind fun y13 =>
(app? 72 x9 ([({ Key := y11, Column := x8, Old := y12, New := y13 } : CellChange)] : List CellChange)).bind fun y14 =>
 changeforgeref2_DiffTables.j4 x8 y14
 else
 changeforgeref2_DiffTables.j4 x8 x9
 else
 some (Step.done x9)

noncomputable def changeforgeref2_DiffTables.l1 (a_ : Table) (b_ : Table) (y2 : (List ByteArray)) (x2 : Int) (x3 : List CellChange) : Option (Step (Int × (List CellChange)) (List CellChange)) :=
 if decide (x2 < (y2.length : Int)) then
(at? y2 x2).bind fun y3 =>
(changeforgeref2_cellsOf a_ y3).bind fun y4 =>
(at? y2 x2).bind fun y5 =>
(changeforgeref2_cellsOf b_ y5).bind fun y6 =>
(if decide ((y4.length : Int) = 0) then some true else some (decide ((y6.length : Int) = 0))).bind fun x6 =>
 if x6 then
(at? y2 x2).bind fun y7 =>
(app? 72 x3 ([({ Key := y7, Column := (-1), Old := y4, New := y6 } : CellChange)] : List CellChange)).bind fun y8 =>
 changeforgeref2_DiffTables.j2 x2 y8
 else
(iter (fun s => changeforgeref2_DiffTables.l2 y2 x2 y4 y6 s.1 s.2) (0, x3)).bind fun r2 =>
 changeforgeref2_DiffTables.j3 x2 r2
 else
 some (Step.done x3)

noncomputable def changeforgeref2_DiffTables (a_ : Table) (b_ : Table) : Option ((List CellChange) × Fault) :=
(changeforgeref2_TwoTables a_ b_ (-20)).bind fun y1 =>
 if !decide (y1.Code = 0) then
 some ([], y1)
 else
(changeforgeref2_Keys a_.Rows b_.Rows).bind fun y2 =>
(iter (fun s => changeforgeref2_DiffTables.l1 a_ b_ y2 s.1 s.2) (0, [])).bind fun r1 =>
 changeforgeref2_DiffTables.j1 r1

noncomputable def changeforgeref2_cellCode.j1 (x_ : CellChange) : Option Int :=
(changeforgeref1_LinesCode x_.Old).bind fun y2 =>
 if !decide (y2 = 0) then
 some y2
 else
(changeforgeref1_LinesCode x_.New).bind fun y3 =>
 some y3

noncomputable def changeforgeref2_cellCode (t_ : Table) (x_ : CellChange) : Option Int :=
(changeforgeref2_nameCode x_.Key).bind fun y1 =>
 if !decide (y1 = 0) then
 some y1
 else
(if decide (x_.Column < (-1)) then some true else some (decide (x_.Column ≥ (t_.Columns.length : Int)))).bind fun x1 =>
 if x1 then
 some 3
 else
 if decide (x_.Column = (-1)) then
(if !decide ((x_.Old.length : Int) = 0) then some true else some (!decide ((x_.New.length : Int) = (t_.Columns.length : Int)))).bind fun x2 =>
(if x2 then (if !decide ((x_.New.length : Int) = 0) then some true else some (!decide ((x_.Old.length : Int) = (t_.Columns.length : Int)))).bind fun x4 =>
 some x4 else some false).bind fun x3 =>
 if x3 then
 some 9
 else
 changeforgeref2_cellCode.j1 x_
 else
(if !decide ((x_.Old.length : Int) = 1) then some true else some (!decide ((x_.New.length : Int) = 1))).bind fun x5 =>
 if x5 then
 some 9
 else
 changeforgeref2_cellCode.j1 x_

noncomputable def changeforgeref2_ordered.j1 (x1 : List Row) : Option (List Row) :=
 some x1

noncomputable def changeforgeref2_ordered.j2 (x2 : Int) (x5 : List Row) : Option (Step (Int × (List Row)) (List Row)) :=
(ckK .i64 (x2 + 1)).bind fun z1 =>
 some (Step.next (z1, x5))

noncomputable def changeforgeref2_ordered.j3 (l_ : (List Row)) (x2 : Int) (x6 : List Row) (x7 : Int) : Option (Step (Int × (List Row)) (List Row)) :=
(at? l_ x2).bind fun y3 =>
(at? x6 x7).bind fun y4 =>
(some (x6.set x7.toNat y3)).bind fun y5 =>
 changeforgeref2_ordered.j2 x2 y5

noncomputable def changeforgeref2_ordered.l2 (l_ : (List Row)) (x2 : Int) (x8 : List Row) (x9 : Int) : Option (Step ((List Row) × Int) ((List Row) × Int)) :=
(if decide (x9 > 0) then (at? l_ x2).bind fun y6 =>
(ckK .i64 (x9 - 1)).bind fun z2 =>
(at? x8 z2).bind fun y7 =>
 some (sLt y6.Key y7.Key) else some false).bind fun x11 =>
 if x11 then
(ckK .i64 (x9 - 1)).bind fun z3 =>
(at? x8 z3).bind fun y8 =>
(at? x8 x9).bind fun y9 =>
(some (x8.set x9.toNat y8)).bind fun y10 =>
(ckK .i64 (x9 - 1)).bind fun z4 =>
 some (Step.next (y10, z4))
 else
 some (Step.done (x8, x9))

noncomputable def changeforgeref2_ordered.l1 (l_ : (List Row)) (x2 : Int) (x3 : List Row) : Option (Step (Int × (List Row)) (List Row)) :=
 if decide (x2 < (l_.length : Int)) then
(at? l_ x2).bind fun y1 =>
(app? 40 x3 ([y1] : List Row)).bind fun y2 =>
(iter (fun s => changeforgeref2_ordered.l2 l_ x2 s.1 s.2) (y2, (x3.length : Int))).bind fun r2 =>
 changeforgeref2_ordered.j3 l_ x2 r2.1 r2.2
 else
 some (Step.done x3)

noncomputable def changeforgeref2_ordered (l_ : (List Row)) : Option (List Row) :=
(iter (fun s => changeforgeref2_ordered.l1 l_ s.1 s.2) (0, [])).bind fun r1 =>
 changeforgeref2_ordered.j1 r1

noncomputable def changeforgeref2_cellChange.j1 (y2 : List Row) (x2 : List Row) : Option ((List Row) × Int) :=
(app? 40 y2 x2).bind fun y3 =>
(changeforgeref2_ordered y3).bind fun y4 =>
 some (y4, 0)

noncomputable def changeforgeref2_cellChange (rows : (List Row)) (x_ : CellChange) : Option ((List Row) × Int) :=
(changeforgeref2_RowAt ({ Columns := [], Rows := rows } : Table) x_.Key).bind fun y1 =>
(if decide (x_.Column = (-1)) then some (decide ((x_.Old.length : Int) = 0)) else some false).bind fun x1 =>
 if x1 then
 if decide (y1 ≥ 0) then
 some ([], 7)
 else
 if decide ((rows.length : Int) ≥ 30) then
 some ([], 14)
 else
(app? 40 ([] : List Row) rows).bind fun y2 =>
 changeforgeref2_cellChange.j1 y2 ([({ Key := x_.Key, Cells := x_.New } : Row)] : List Row)
 else
 if decide (y1 < 0) then
 some ([], 6)
 else
(cut? rows 0 y1).bind fun y5 =>
(app? 40 ([] : List Row) y5).bind fun y6 =>
(at? rows y1).bind fun y7 =>
 if decide (x_.Column = (-1)) then
(changeforgeref1_Equal y7.Cells x_.Old).bind fun y8 =>
 if !y8 then
 some ([], 19)
 else
(ckK .i64 (y1 + 1)).bind fun z1 =>
(cut? rows z1 (rows.length : Int)).bind fun y9 =>
(app? 40 y6 y9).bind fun y10 =>
 some (y10, 0)
 else
(at? y7.Cells x_.Column).bind fun y11 =>
(at? x_.Old 0).bind fun y12 =>
 if !decide (y11 = y12) then
 some ([], 19)
 else
(app? 16 ([] : List ByteArray) y7.Cells).bind fun y13 =>
(at? x_.New 0).bind fun y14 =>
(at? y13 x_.Column).bind fun y15 =>
(some (y13.set x_.Column.toNat y14)).bind fun y16 =>
(ckK .i64 (y1 + 1)).bind fun z2 =>
(cut? rows z2 (rows.length : Int)).bind fun y17 =>
(app? 40 y6 ([({ Key := x_.Key, Cells := y16 } : Row)] : List Row)).bind fun y18 =>
(app? 40 y18 y17).bind fun y19 =>
 some (y19, 0)

noncomputable def changeforgeref2_ApplyCells.j2 (t_ : Table) (x1 : List Row) : Option (Table × Fault) :=
 some (({ Columns := t_.Columns, Rows := x1 } : Table), ({ Code := 0, Index := 0 } : Fault))

noncomputable def changeforgeref2_ApplyCells.l1 (l_ : (List CellChange)) (x2 : Int) (x3 : List Row) : Option (Step (Int × (List Row)) ((Table × Fault) ⊕ (List Row))) :=
 if decide (x2 < (l_.length : Int)) then
(at? l_ x2).bind fun y4 =>
(changeforgeref2_cellChange x3 y4).bind fun y5 =>
 if !decide (y5.2 = 0) then
(changeforgeref1_At y5.2 x2).bind fun y6 =>
 some (Step.done (Sum.inl (({ Columns := [], Rows := [] } : Table), y6)))
 else
(ckK .i64 (x2 + 1)).bind fun z1 =>
 some (Step.next (z1, y5.1))
 else
 some (Step.done (Sum.inr x3))

noncomputable def changeforgeref2_ApplyCells.j1 (l_ : (List CellChange)) (t_ : Table) : Option (Table × Fault) :=
(iter (fun s => changeforgeref2_ApplyCells.l1 l_ s.1 s.2) (0, t_.Rows)).bind fun r1 =>
(match r1 with
| .inl p => some p
| .inr p => changeforgeref2_ApplyCells.j2 t_ p)

noncomputable def changeforgeref2_ApplyCells.l2 (l_ : (List CellChange)) (t_ : Table) (x5 : Int) : Option (Step Int ((Table × Fault) ⊕ Unit)) :=
 if decide (x5 < (l_.length : Int)) then
(at? l_ x5).bind fun y7 =>
(changeforgeref2_cellCode t_ y7).bind fun y8 =>
 if !decide (y8 = 0) then
(changeforgeref1_At y8 x5).bind fun y9 =>
 some (Step.done (Sum.inl (({ Columns := [], Rows := [] } : Table), y9)))
 else
(ckK .i64 (x5 + 1)).bind fun z2 =>
 some (Step.next z2)
 else
 some (Step.done (Sum.inr ()))

noncomputable def changeforgeref2_ApplyCells (l_ : (List CellChange)) (t_ : Table) : Option (Table × Fault) :=
(changeforgeref2_TableFault t_).bind fun y1 =>
 if !decide (y1.Code = 0) then
(changeforgeref1_At y1.Code (-2)).bind fun y2 =>
 some (({ Columns := [], Rows := [] } : Table), y2)
 else
 if decide ((l_.length : Int) > 300) then
(changeforgeref1_At 2 (-1)).bind fun y3 =>
 some (({ Columns := [], Rows := [] } : Table), y3)
 else
(iter (fun s => changeforgeref2_ApplyCells.l2 l_ t_ s) 0).bind fun r2 =>
(match r2 with
| .inl p => some p
| .inr _ => changeforgeref2_ApplyCells.j1 l_ t_)

noncomputable def changeforgelaw2_TablepatchMatchesSpec (a_ : Table) (b_ : Table) (changes : (List CellChange)) : Option Bool :=
(tablepatch_Diff a_ b_).bind fun y1 =>
(changeforgeref2_DiffTables a_ b_).bind fun y2 =>
(tablepatch_Apply changes a_).bind fun y3 =>
(changeforgeref2_ApplyCells changes a_).bind fun y4 =>
(tablepatch_Validate a_).bind fun y5 =>
(changeforgeref2_TableFault a_).bind fun y6 =>
(if decide (y5.Code = y6.Code) && decide (y5.Index = y6.Index) then (changeforgeequal_Cells y1.1 y2.1).bind fun y7 =>
 some y7 else some false).bind fun x1 =>
(if x1 then some (decide (y1.2.Code = y2.2.Code) && decide (y1.2.Index = y2.2.Index)) else some false).bind fun x2 =>
(if x2 then (changeforgeequal_Table y3.1 y4.1).bind fun y8 =>
 some y8 else some false).bind fun x3 =>
(if x3 then some (decide (y3.2.Code = y4.2.Code) && decide (y3.2.Index = y4.2.Index)) else some false).bind fun x4 =>
(if x4 then (changeforgelaw2_both).bind fun y9 =>
 some y9 else some false).bind fun x5 =>
 some x5

noncomputable def changeforgelaw2_TablepatchDiffApplies (a_ : Table) (b_ : Table) : Option Bool :=
(tablepatch_Diff a_ b_).bind fun y1 =>
 if !decide (y1.2.Code = 0) then
(changeforgelaw2_both).bind fun y2 =>
 some y2
 else
(tablepatch_Apply y1.1 a_).bind fun y3 =>
 if decide (y3.2.Code = 14) then
(ckK .i64 ((a_.Rows.length : Int) + (b_.Rows.length : Int))).bind fun z1 =>
(if decide (z1 > 30) then (changeforgelaw2_both).bind fun y4 =>
 some y4 else some false).bind fun x1 =>
 some x1
 else
(if decide (y3.2.Code = 0) then (changeforgeequal_Table y3.1 b_).bind fun y5 =>
 some y5 else some false).bind fun x2 =>
(if x2 then (changeforgelaw2_both).bind fun y6 =>
 some y6 else some false).bind fun x3 =>
 some x3
end Go.Dc
