/- Walks: each function comes to what its model says. -/
import Derived.Test.YthknfnjdnclphaaDcTab
import Derived.Test.YthknfnjdnclphaaDcM
import Derived.Test.YthknfnjdnclphaaDcW4
namespace Go.Dc
open Go Go.Proofs
set_option maxRecDepth 100000
set_option maxHeartbeats 4000000
set_option linter.unusedVariables false
theorem changeforgeref2_DiffTables_ok {g : Gh} {fr : Hl} {w : World} {r : (List CellChange) × Fault} (a_ : Table) (va_1 : Value) (ha_1 : RepSl g a_.Columns va_1) (va_2 : Value) (ha_2 : RepSl g a_.Rows va_2) (b_ : Table) (vb_1 : Value) (hb_1 : RepSl g b_.Columns vb_1) (vb_2 : Value) (hb_2 : RepSl g b_.Rows vb_2) (S : St g [] fr w) (hm : changeforgeref2_DiffTables a_ b_ = some r) :
  Calls Try.prog 20 [.agg #[va_1, va_2], .agg #[vb_1, vb_2]].toArray w (fun en w' => ∃ v, en = .returned v ∧ ∃ (g' : Gh) (v1 : Value) (c1 : Hl), Le g g' ∧ St g' [c1] fr w' ∧ OwnS g' r.1 v1 c1 ∧ .tuple #[v1, .agg #[.i6 r.2.Code, .i6 r.2.Index]] = v) := by
 unfold changeforgeref2_DiffTables at hm
 refine calls_enter (fn := Try.f20) Try.func20 rfl Try.ntmps20 (lb rfl) ?_
 intro a F
 replace F : Fr 97 a [(0, .agg #[va_1, va_2]), (1, .agg #[vb_1, vb_2])] := F
 refine wp_seq ?_
 refine wp_region_lit ?_
 refine wl_boxC (wn rfl) rfl rfl rfl F S rfl rfl ?_; clear F a S; rintro b1 a w F S
 refine wl_boxC (wn rfl) rfl rfl rfl F S rfl rfl ?_; clear F a S; rintro b2 a w F S
 refine wE (ev_assign rfl) F S rfl fun a F=>?_
 refine wl_alloc (wn rfl) rfl tz28 (cs := [.i6 0, .i6 0]) rfl F S rfl rfl ?_; clear F a S; rintro b3 a w F S
 refine wpList_nil ?_
 refine then_n ?_
 refine wp_seq ?_
 refine wp_seq ?_
 refine wp_region_lit ?_
 refine wE (ev_loadA tu25 rfl (cs := [va_1, va_2]) ts25 rfl (box_ptr (cells := [va_1, va_2]) 2 rfl 0 rfl (lb rfl))) F S rfl fun a F=>?_
 refine wE (ev_loadA tu25 rfl (cs := [vb_1, vb_2]) ts25 rfl (box_ptr (cells := [vb_1, vb_2]) 1 rfl 0 rfl (lb rfl))) F S rfl fun a F=>?_
 obtain ⟨y1, hy1, hm⟩ := bind_some hm
 refine wl_call0 (wn rfl) rfl F rfl (changeforgeref2_TwoTables_ok (fr := (fl [[bx b3 #[.i6 0, .i6 0] 28], [bx b2 #[vb_1, vb_2] 25], [bx b1 #[va_1, va_2] 25]] fr)) a_ va_1 ha_1 va_2 ha_2 b_ vb_1 hb_1 vb_2 hb_2 (-20) S hy1) rfl tc30 rfl rfl ?_; clear F a S
 rintro _ a w ⟨g1, l1, S, rfl⟩ F; replace S : St g1 [[bx b3 #[.i6 0, .i6 0] 28], [bx b2 #[vb_1, vb_2] 25], [bx b1 #[va_1, va_2] 25]] fr w := S
 refine wl_alloc (wn rfl) rfl tz28 (cs := [.i6 0, .i6 0]) rfl F S rfl rfl ?_; clear F a S; rintro b4 a w F S
 refine wl_storeC (wn rfl) rfl F S rfl rfl (vs := [.i6 y1.Code, .i6 y1.Index]) rfl ts28 (one_cons rfl (one_cons rfl one_nil)) (k := 0) rfl (lb rfl) (c' := #[.i6 y1.Code, .i6 y1.Index]) rfl rfl ?_; clear S; intro w S
 refine wpList_nil ?_
 refine then_n ?_
 refine wp_seq ?_
 refine wp_region_lit ?_
 refine wE (ev_fieldAddr' tu28 tf28_0 (z := 0) ts3 rfl ⟨_, rfl⟩ rfl) F S rfl fun a F=>?_
 refine wE (ev_load1 tu3 rfl rfl (box_ptr (cells := [.i6 y1.Code]) 0 rfl 0 rfl (lb rfl))) F S rfl fun a F=>?_
 refine wE (ev_int rfl rfl (bo_neq _ _ _ _)) F S rfl fun a F=>?_
 refine wpList_nil ?_
 refine then_n ?_
 obtain ⟨hc1, hm⟩ | ⟨hc1, hm⟩ := ite_or hm
 ·refine wp_condT F rfl hc1 ?_
  refine wp_seq ?_
  refine wp_dv [] mo S ?_; clear S; intro ok1 w S
  refine dv_ev ok1 0 rfl (ev_loadA tu28 rfl (cs := [.i6 y1.Code, .i6 y1.Index]) ts28 rfl (box_ptr (cells := [.i6 y1.Code, .i6 y1.Index]) 0 rfl 0 rfl (lb rfl))) F S rfl fun a F=>?_
  refine dv_et ok1 1 rfl (ev_assign rfl) F rfl fun a F=>?_
  refine dv_op ok1 2 rfl [] ?_
  refine wl_storeC (wn rfl) rfl F S rfl rfl (vs := [.i6 y1.Code, .i6 y1.Index]) rfl ts28 (one_cons rfl (one_cons rfl one_nil)) (k := 1) rfl (lb rfl) (c' := #[.i6 y1.Code, .i6 y1.Index]) rfl rfl ?_; clear S; intro w S
  refine dv_nx trivial ?_
  refine dv_fin ok1 ?_
  refine then_n ?_
  refine wp_ret ?_
  refine then_r ?_
  obtain rfl := sinj hm
  replace S : St g1 [[], [bx b4 #[.i6 y1.Code, .i6 y1.Index] 28], [bx b3 #[.i6 y1.Code, .i6 y1.Index] 28], [bx b2 #[vb_1, vb_2] 25], [bx b1 #[va_1, va_2] 25]] fr w := S
  refine post_r _ F rfl (ar_cons (resT rfl) (ar_cons (resA rfl tu28 rfl (box_ptr (cells := [.i6 y1.Code, .i6 y1.Index]) 2 rfl 0 rfl (lb rfl) w S) ts28) ar_nil)) ?_
  replace S : St g1 [[]] fr w := St.tail [[]] _ (S.frontC 0 rfl)
  exact ⟨_, rfl, g1, (nilS), [], l1, S, (OwnS.nil _), rfl⟩
 ·refine wp_condF F rfl hc1 ?_
  refine wp_skip ?_
  refine then_n ?_
  refine wp_seq ?_
  refine wp_region_lit ?_
  refine wE (ev_assign rfl) F S rfl fun a F=>?_
  refine wpList_nil ?_
  refine then_n ?_
  refine wp_seq ?_
  refine wp_region_lit ?_
  refine wE (ev_fieldAddr' tu25 tf25_1 (z := 0) ts23 rfl ⟨_, rfl⟩ rfl) F S rfl fun a F=>?_
  refine wE (ev_load1 tu23 rfl rfl (box_ptr (cells := [va_2]) 3 rfl 1 rfl (lb rfl))) F S rfl fun a F=>?_
  refine wE (ev_fieldAddr' tu25 tf25_1 (z := 0) ts23 rfl ⟨_, rfl⟩ rfl) F S rfl fun a F=>?_
  refine wE (ev_load1 tu23 rfl rfl (box_ptr (cells := [vb_2]) 2 rfl 1 rfl (lb rfl))) F S rfl fun a F=>?_
  obtain ⟨y2, hy2, hm⟩ := bind_some hm
  refine wl_call0 (wn rfl) rfl F rfl (changeforgeref2_Keys_ok (fr := (fl [[bx b4 #[.i6 y1.Code, .i6 y1.Index] 28], [bx b3 #[.i6 0, .i6 0] 28], [bx b2 #[vb_1, vb_2] 25], [bx b1 #[va_1, va_2] 25]] fr)) a_.Rows va_2 (ha_2.mono l1) b_.Rows vb_2 (hb_2.mono l1) S hy2) rfl tc31 rfl rfl ?_; clear F a S
  rintro _ a w ⟨g2, v1, c1, l2, S, h1, rfl⟩ F; replace S : St g2 [c1, [bx b4 #[.i6 y1.Code, .i6 y1.Index] 28], [bx b3 #[.i6 0, .i6 0] 28], [bx b2 #[vb_1, vb_2] 25], [bx b1 #[va_1, va_2] 25]] fr w := S
  refine wE (ev_assign rfl) F S rfl fun a F=>?_
  refine wpList_nil ?_
  refine then_n ?_
  refine wp_cut (fun a w => ∃ (x1 : List CellChange) (v2 : Value) (c2 : Hl) (g3 : Gh), Fr 97 a [(7, v2), (5, bp b3 0)] ∧ Le g2 g3 ∧ St g3 [c2, [bx b3 #[.i6 0, .i6 0] 28]] fr w ∧ OwnS g3 x1 v2 c2 ∧ changeforgeref2_DiffTables.j1 x1 = some r) ?_ ?_
  ·refine wp_seq ?_
   refine wp_region_lit ?_
   refine wE (ev_assign rfl) F S rfl fun a F=>?_
   refine wpList_nil ?_
   refine then_n ?_
   refine wp_block ?_
   obtain ⟨r1, hr1, hm⟩ := bind_some hm
   have hmo1 := hm; clear hm
   refine wp_iter (σ := Int × (List CellChange)) (ρ := (List CellChange)) (m := fun s => changeforgeref2_DiffTables.l1 a_ b_ y2 s.1 s.2) (I := fun s a w => match s with | (x2, x3) => ∃ (v3 : Value) (c3 : Hl) (g4 : Gh), Fr 97 a [(9, .i6 x2), (8, v1), (7, v3), (5, bp b3 0), (3, bp b2 0), (2, bp b1 0)] ∧ Le g2 g4 ∧ St g4 [c1, c3, [bx b3 #[.i6 0, .i6 0] 28], [bx b2 #[vb_1, vb_2] 25], [bx b1 #[va_1, va_2] 25]] fr w ∧ OwnS g4 x3 v3 c3) hr1 ?_ ?_
   ·dsimp only
    replace S : St g2 [[], c1, [bx b4 #[.i6 y1.Code, .i6 y1.Index] 28], [bx b3 #[.i6 0, .i6 0] 28], [bx b2 #[vb_1, vb_2] 25], [bx b1 #[va_1, va_2] 25]] fr w := S
    replace S : St g2 [c1, [], [bx b3 #[.i6 0, .i6 0] 28], [bx b2 #[vb_1, vb_2] 25], [bx b1 #[va_1, va_2] 25]] fr w := St.tail [c1, [], [bx b3 #[.i6 0, .i6 0] 28], [bx b2 #[vb_1, vb_2] 25], [bx b1 #[va_1, va_2] 25]] _ (((((S.frontC 5 rfl).frontC 5 rfl).frontC 5 rfl).frontC 3 rfl).frontC 5 rfl)
    exact ⟨(nilS), [], g2, F.sub ⟨rfl, rfl, rfl, rfl, rfl, rfl, trivial⟩, (Le.refl _), S, (OwnS.nil _)⟩
   ·clear F S; rintro ⟨x2, x3⟩ a w x4 ⟨v3, c3, g4, F, l4, S, h3⟩ hx1 hfin1
    have hm : changeforgeref2_DiffTables.l1 a_ b_ y2 x2 x3 = some x4 := hx1; clear hx1
    unfold changeforgeref2_DiffTables.l1 at hm
    refine wp_seq ?_
    refine wp_seq ?_
    refine wp_region_lit ?_
    refine wE (ev_move rfl) F S rfl fun a F=>?_
    refine wE (ev_move rfl) F S rfl fun a F=>?_
    refine wE (ev_lenOw h1 rfl tu22) F S rfl fun a F=>?_
    refine wE (ev_int rfl rfl (bo_lss _ _ _ _)) F S rfl fun a F=>?_
    refine wpList_nil ?_
    refine then_n ?_
    obtain ⟨hc2, hm⟩ | ⟨hc2, hm⟩ := ite_or hm
    ·refine wp_condT F rfl hc2 ?_
     refine wp_skip ?_
     refine then_n ?_
     refine wp_cut (fun a w => ∃ (x5 : List CellChange) (v4 : Value) (c4 : Hl) (g5 : Gh), Fr 97 a [(7, v4), (9, .i6 x2), (8, v1), (5, bp b3 0), (3, bp b2 0), (2, bp b1 0)] ∧ Le g4 g5 ∧ St g5 [c4, c1, [bx b3 #[.i6 0, .i6 0] 28], [bx b2 #[vb_1, vb_2] 25], [bx b1 #[va_1, va_2] 25]] fr w ∧ OwnS g5 x5 v4 c4 ∧ changeforgeref2_DiffTables.j2 x2 x5 = some x4) ?_ ?_
     ·refine wp_block ?_
      refine wp_seq ?_
      refine wp_dv [] mo S ?_; clear S; intro ok2 w S
      refine dv_ev ok2 0 rfl (ev_loadA tu25 rfl (cs := [va_1, va_2]) ts25 rfl (box_ptr (cells := [va_1, va_2]) 4 rfl 0 rfl (lb rfl))) F S rfl fun a F=>?_
      refine dv_et ok2 1 rfl (ev_move rfl) F rfl fun a F=>?_
      refine dv_et ok2 2 rfl (ev_move rfl) F rfl fun a F=>?_
      obtain ⟨y3, hy3, hm⟩ := bind_some hm
      refine dv_et ok2 3 rfl (ev_idxO (h1.mono l4) hy3 tu22 ts9 rfl rfl) F rfl fun a F=>?_
      obtain ⟨cs1, hr2, hq1⟩ := elemO (h1.mono l4) hy3
      obtain rfl := rep_str hr2
      refine dv_ev ok2 4 rfl (ev_load1 tu9 rfl rfl (hq1 _ _ 0 rfl)) F S rfl fun a F=>?_
      refine dv_op ok2 5 rfl [] ?_
      obtain ⟨y4, hy4, hm⟩ := bind_some hm
      refine wl_call0 (wn rfl) rfl F rfl (changeforgeref2_cellsOf_ok (fr := (fl [c1, c3, [bx b3 #[.i6 0, .i6 0] 28], [bx b2 #[vb_1, vb_2] 25], [bx b1 #[va_1, va_2] 25]] fr)) a_ va_1 (ha_1.mono ((l1.trans l2).trans l4)) va_2 (ha_2.mono ((l1.trans l2).trans l4)) y3 S hy4) rfl tc32 rfl rfl ?_; clear F a S
      rintro _ a w ⟨g6, v5, l6, S, h5, rfl⟩ F; replace S : St g6 [c1, c3, [bx b3 #[.i6 0, .i6 0] 28], [bx b2 #[vb_1, vb_2] 25], [bx b1 #[va_1, va_2] 25]] fr w := S
      refine dv_nx trivial ?_
      refine dv_et ok2 6 rfl (ev_assign rfl) F rfl fun a F=>?_
      refine dv_fin ok2 ?_
      refine then_n ?_
      refine wp_seq ?_
      refine wp_dv [] mo S ?_; clear S; intro ok3 w S
      refine dv_ev ok3 0 rfl (ev_loadA tu25 rfl (cs := [vb_1, vb_2]) ts25 rfl (box_ptr (cells := [vb_1, vb_2]) 3 rfl 0 rfl (lb rfl))) F S rfl fun a F=>?_
      refine dv_et ok3 1 rfl (ev_move rfl) F rfl fun a F=>?_
      refine dv_et ok3 2 rfl (ev_move rfl) F rfl fun a F=>?_
      obtain ⟨y5, hy5, hm⟩ := bind_some hm
      refine dv_et ok3 3 rfl (ev_idxO (h1.mono (l4.trans l6)) hy5 tu22 ts9 rfl rfl) F rfl fun a F=>?_
      obtain ⟨cs2, hr3, hq2⟩ := elemO (h1.mono (l4.trans l6)) hy5
      obtain rfl := rep_str hr3
      refine dv_ev ok3 4 rfl (ev_load1 tu9 rfl rfl (hq2 _ _ 0 rfl)) F S rfl fun a F=>?_
      refine dv_op ok3 5 rfl [] ?_
      obtain ⟨y6, hy6, hm⟩ := bind_some hm
      refine wl_call0 (wn rfl) rfl F rfl (changeforgeref2_cellsOf_ok (fr := (fl [c1, c3, [bx b3 #[.i6 0, .i6 0] 28], [bx b2 #[vb_1, vb_2] 25], [bx b1 #[va_1, va_2] 25]] fr)) b_ vb_1 (hb_1.mono (((l1.trans l2).trans l4).trans l6)) vb_2 (hb_2.mono (((l1.trans l2).trans l4).trans l6)) y5 S hy6) rfl tc32 rfl rfl ?_; clear F a S
      rintro _ a w ⟨g7, v6, l7, S, h6, rfl⟩ F; replace S : St g7 [c1, c3, [bx b3 #[.i6 0, .i6 0] 28], [bx b2 #[vb_1, vb_2] 25], [bx b1 #[va_1, va_2] 25]] fr w := S
      refine dv_nx trivial ?_
      refine dv_et ok3 6 rfl (ev_assign rfl) F rfl fun a F=>?_
      refine dv_fin ok3 ?_
      refine then_n ?_
      refine wp_seq ?_
      refine wp_seq ?_
      refine wp_region_lit ?_
      refine wE (ev_move rfl) F S rfl fun a F=>?_
      refine wE (ev_lenSh h5 rfl tu22) F S rfl fun a F=>?_
      refine wE (ev_int rfl rfl (bo_eql _ _ _ _)) F S rfl fun a F=>?_
      refine wE (ev_move rfl) F S rfl fun a F=>?_
      obtain ⟨x6, hx2, hm⟩ := bind_some hm
      refine wl_cut 4 (fun a w' => w = w' ∧ Fr 97 a [(50, .bool x6), (11, v6), (10, v5), (9, .i6 x2), (8, v1), (7, v3), (5, bp b3 0), (3, bp b2 0), (2, bp b1 0)]) ?_ ?_
      ·clear hm; obtain ⟨hc3, hm⟩ | ⟨hc3, hm⟩ := ite_or hx2
       ·refine wl_skip rfl rfl rfl rfl (ne_ft hc3) F rfl rfl ?_; clear F a; intro a F
        refine wl_skip rfl rfl rfl rfl (ne_ft hc3) F rfl rfl ?_; clear F a; intro a F
        refine wl_skip rfl rfl rfl rfl (ne_ft hc3) F rfl rfl ?_; clear F a; intro a F
        refine wE (ev_pickT rfl hc3 rfl) F S rfl fun a F=>?_
        obtain rfl := sinj hm
        refine wpList_nil (then_n ?_); exact ⟨rfl, F.sub ⟨rfl, rfl, rfl, rfl, rfl, rfl, rfl, rfl, rfl, trivial⟩⟩
       ·refine wl_ev (wg F rfl rfl rfl rfl hc3) (ev_move rfl) F S rfl rfl ?_; clear F a; intro a F
        refine wl_ev (wg F rfl rfl rfl rfl hc3) (ev_lenSh h6 rfl tu22) F S rfl rfl ?_; clear F a; intro a F
        refine wl_ev (wg F rfl rfl rfl rfl hc3) (ev_int rfl rfl (bo_eql _ _ _ _)) F S rfl rfl ?_; clear F a; intro a F
        refine wE (ev_pickF rfl hc3 rfl) F S rfl fun a F=>?_
        obtain rfl := sinj hm
        refine wpList_nil (then_n ?_); exact ⟨rfl, F.sub ⟨rfl, rfl, rfl, rfl, rfl, rfl, rfl, rfl, rfl, trivial⟩⟩
      clear F; rintro a w' ⟨rfl, F⟩
      refine wpList_nil ?_
      refine then_n ?_
      obtain ⟨hc4, hm⟩ | ⟨hc4, hm⟩ := ite_or hm
      ·refine wp_condT F rfl hc4 ?_
       refine wp_seq ?_
       refine wp_region_lit ?_
       refine wE (ev_move rfl) F S rfl fun a F=>?_
       refine wE (ev_move rfl) F S rfl fun a F=>?_
       refine wE (ev_move rfl) F S rfl fun a F=>?_
       obtain ⟨y7, hy7, hm⟩ := bind_some hm
       refine wE (ev_idxO (h1.mono ((l4.trans l6).trans l7)) hy7 tu22 ts9 rfl rfl) F S rfl fun a F=>?_
       obtain ⟨cs3, hr4, hq3⟩ := elemO (h1.mono ((l4.trans l6).trans l7)) hy7
       obtain rfl := rep_str hr4
       refine wE (ev_load1 tu9 rfl rfl (hq3 _ _ 0 rfl)) F S rfl fun a F=>?_
       refine wE (ev_move rfl) F S rfl fun a F=>?_
       refine wE (ev_move rfl) F S rfl fun a F=>?_
       refine wE (ev_build (parts := [(0, .tmp 55), (1, .const (.i6 (-1))), (2, .tmp 56), (3, .tmp 57)]) (vs := [(0, .string y7), (1, .i6 (-1)), (2, v5), (3, v6)]) rfl (fun w => tb36_0_1_2_3 y7 (-1) v5 (RepSl.isSl h5) v6 (RepSl.isSl h6) w)) F S rfl fun a F=>?_
       refine wl_lit (l := ([({ Key := y7, Column := (-1), Old := y4, New := y6 } : CellChange)] : List CellChange)) (vs := [.agg #[.string y7, .i6 (-1), v5, v6]]) (parts := [(0, .tmp 58)]) (wn rfl) rfl rfl rfl tu26 te36 (sz_cons rfl sz_nil) rfl (Cat.cons (rep_CellChange_mk (x := ({ Key := y7, Column := (-1), Old := y4, New := y6 } : CellChange)) (h5.mono l7) h6) (Cat.nil _)) (coa_cons rfl coa_nil) rfl F S rfl rfl ?_; clear F a S
       rintro v7 c5 a w h7 F S
       obtain ⟨cs4, hk1, hr5⟩ := OwnS.reads h7
       obtain ⟨y8, hy8, hm⟩ := bind_some hm
       refine wl_append (wn rfl) rfl tu26 tu26 te36 (by decide) (by decide) F S rfl rfl (k := 2) rfl (h3.mono (l6.trans l7)) hk1 rfl (hr5 _ _ _ 0 rfl S) hy8 rfl rfl ?_; clear F a S
       rintro v8 c6 a w h8 S F; replace S : St g7 [c5, c1, c6, [bx b3 #[.i6 0, .i6 0] 28], [bx b2 #[vb_1, vb_2] 25], [bx b1 #[va_1, va_2] 25]] fr w := S
       refine wE (ev_assign rfl) F S rfl fun a F=>?_
       refine wpList_nil ?_
       refine then_n ?_
       refine wp_exit ?_
       refine then_e ?_
       refine inb_x ?_
       refine then_n ?_
       replace S : St g7 [c6, c1, [bx b3 #[.i6 0, .i6 0] 28], [bx b2 #[vb_1, vb_2] 25], [bx b1 #[va_1, va_2] 25]] fr w := St.tail [c6, c1, [bx b3 #[.i6 0, .i6 0] 28], [bx b2 #[vb_1, vb_2] 25], [bx b1 #[va_1, va_2] 25]] _ (((((S.frontC 5 rfl).frontC 5 rfl).frontC 5 rfl).frontC 4 rfl).frontC 6 rfl)
       exact ⟨y8, v8, c6, g7, F.sub ⟨rfl, rfl, rfl, rfl, rfl, rfl, trivial⟩, (l6.trans l7), S, h8, hm⟩
      ·refine wp_condF F rfl hc4 ?_
       refine wp_skip ?_
       refine then_n ?_
       refine wp_seq ?_
       refine wp_region_lit ?_
       refine wE (ev_assign rfl) F S rfl fun a F=>?_
       refine wpList_nil ?_
       refine then_n ?_
       refine wp_cut1 (fun a w => ∃ (x7 : List CellChange) (v9 : Value) (c7 : Hl) (g8 : Gh), Fr 97 a [(9, .i6 x2), (8, v1), (7, v9), (5, bp b3 0), (3, bp b2 0), (2, bp b1 0)] ∧ Le g7 g8 ∧ St g8 [c1, c7, [bx b3 #[.i6 0, .i6 0] 28], [bx b2 #[vb_1, vb_2] 25], [bx b1 #[va_1, va_2] 25]] fr w ∧ OwnS g8 x7 v9 c7 ∧ changeforgeref2_DiffTables.j3 x2 x7 = some x4) ?_ ?_
       ·refine wp_block ?_
        obtain ⟨r2, hr6, hm⟩ := bind_some hm
        have hmo2 := hm; clear hm
        refine wp_iter (σ := Int × (List CellChange)) (ρ := (List CellChange)) (m := fun s => changeforgeref2_DiffTables.l2 y2 x2 y4 y6 s.1 s.2) (I := fun s a w => match s with | (x8, x9) => ∃ (v10 : Value) (c8 : Hl) (g9 : Gh), Fr 97 a [(12, .i6 x8), (11, v6), (10, v5), (9, .i6 x2), (8, v1), (7, v10), (5, bp b3 0), (3, bp b2 0), (2, bp b1 0)] ∧ Le g7 g9 ∧ St g9 [c1, c8, [bx b3 #[.i6 0, .i6 0] 28], [bx b2 #[vb_1, vb_2] 25], [bx b1 #[va_1, va_2] 25]] fr w ∧ OwnS g9 x9 v10 c8) hr6 ?_ ?_
        ·dsimp only
         exact ⟨v3, c3, g7, F.sub ⟨rfl, rfl, rfl, rfl, rfl, rfl, rfl, rfl, rfl, trivial⟩, (Le.refl _), S, (h3.mono (l6.trans l7))⟩
        ·clear F S; rintro ⟨x8, x9⟩ a w x10 ⟨v10, c8, g9, F, l9, S, h10⟩ hx3 hfin2
         have hm : changeforgeref2_DiffTables.l2 y2 x2 y4 y6 x8 x9 = some x10 := hx3; clear hx3
         unfold changeforgeref2_DiffTables.l2 at hm
         refine wp_seq ?_
         refine wp_seq ?_
         refine wp_region_lit ?_
         refine wE (ev_move rfl) F S rfl fun a F=>?_
         refine wE (ev_move rfl) F S rfl fun a F=>?_
         refine wE (ev_lenSh h5 rfl tu22) F S rfl fun a F=>?_
         refine wE (ev_int rfl rfl (bo_lss _ _ _ _)) F S rfl fun a F=>?_
         refine wpList_nil ?_
         refine then_n ?_
         obtain ⟨hc5, hm⟩ | ⟨hc5, hm⟩ := ite_or hm
         ·refine wp_condT F rfl hc5 ?_
          refine wp_skip ?_
          refine then_n ?_
          refine wp_cut (fun a w => ∃ (x11 : List CellChange) (v11 : Value) (c9 : Hl) (g10 : Gh), Fr 97 a [(7, v11), (12, .i6 x8), (11, v6), (10, v5), (9, .i6 x2), (8, v1), (5, bp b3 0), (3, bp b2 0), (2, bp b1 0)] ∧ Le g9 g10 ∧ St g10 [c9, c1, [bx b3 #[.i6 0, .i6 0] 28], [bx b2 #[vb_1, vb_2] 25], [bx b1 #[va_1, va_2] 25]] fr w ∧ OwnS g10 x11 v11 c9 ∧ changeforgeref2_DiffTables.j4 x8 x11 = some x10) ?_ ?_
          ·refine wp_block ?_
           refine wp_seq ?_
           refine wp_quiet mo (by kernel_rfl) S ?_
           refine wq_ev (wn rfl) (ev_move rfl) F rfl rfl ?_; clear F a; intro a F
           refine wq_ev (wn rfl) (ev_move rfl) F rfl rfl ?_; clear F a; intro a F
           obtain ⟨y9, hy9, hm⟩ := bind_some hm
           obtain ⟨cs5, hr7, hp1⟩ := elemS (h5.mono (l7.trans l9)) hy9
           obtain rfl := rep_str hr7
           refine wq_ev (wn rfl) (ev_idxS (h5.mono (l7.trans l9)) hy9 tu22 ts9 rfl rfl) F rfl rfl ?_; clear F a; intro a F
           refine wq_ev (wn rfl) (ev_load1 tu9 rfl rfl (ptr_mono (cks := [c1, c8, [bx b3 #[.i6 0, .i6 0] 28], [bx b2 #[vb_1, vb_2] 25], [bx b1 #[va_1, va_2] 25]]) (fr := fr) hp1 (Le.refl _))) F rfl rfl ?_; clear F a; intro a F
           refine wq_ev (wn rfl) (ev_move rfl) F rfl rfl ?_; clear F a; intro a F
           refine wq_ev (wn rfl) (ev_move rfl) F rfl rfl ?_; clear F a; intro a F
           obtain ⟨y10, hy10, hm⟩ := bind_some hm
           obtain ⟨cs6, hr8, hp2⟩ := elemS (h6.mono l9) hy10
           obtain rfl := rep_str hr8
           refine wq_ev (wn rfl) (ev_idxS (h6.mono l9) hy10 tu22 ts9 rfl rfl) F rfl rfl ?_; clear F a; intro a F
           refine wq_ev (wn rfl) (ev_load1 tu9 rfl rfl (ptr_mono (cks := [c1, c8, [bx b3 #[.i6 0, .i6 0] 28], [bx b2 #[vb_1, vb_2] 25], [bx b1 #[va_1, va_2] 25]]) (fr := fr) hp2 (Le.refl _))) F rfl rfl ?_; clear F a; intro a F
           refine wq_ev (wn rfl) (ev_str rfl rfl (bs_neq _ _ _)) F rfl rfl ?_; clear F a; intro a F
           refine wq_nil ?_; clear S; intro w S
           refine then_n ?_
           obtain ⟨hc6, hm⟩ | ⟨hc6, hm⟩ := ite_or hm
           ·refine wp_condT F rfl hc6 ?_
            refine wp_dv [19] mo S ?_; clear S; intro ok4 w S
            refine dv_et ok4 0 rfl (ev_move rfl) F rfl fun a F=>?_
            refine dv_et ok4 1 rfl (ev_move rfl) F rfl fun a F=>?_
            refine dv_et ok4 2 rfl (ev_move rfl) F rfl fun a F=>?_
            obtain ⟨y11, hy11, hm⟩ := bind_some hm
            refine dv_et ok4 3 rfl (ev_idxO (h1.mono (((l4.trans l6).trans l7).trans l9)) hy11 tu22 ts9 rfl rfl) F rfl fun a F=>?_
            obtain ⟨cs7, hr9, hq4⟩ := elemO (h1.mono (((l4.trans l6).trans l7).trans l9)) hy11
            obtain rfl := rep_str hr9
            refine dv_ev ok4 4 rfl (ev_load1 tu9 rfl rfl (hq4 _ _ 0 rfl)) F S rfl fun a F=>?_
            refine dv_et ok4 5 rfl (ev_move rfl) F rfl fun a F=>?_
            refine dv_et ok4 6 rfl (ev_move rfl) F rfl fun a F=>?_
            refine dv_et ok4 7 rfl (ev_move rfl) F rfl fun a F=>?_
            refine dv_et ok4 8 rfl (ev_move rfl) F rfl fun a F=>?_
            obtain ⟨z3, hz3, hm⟩ := bind_some hm
            refine dv_et ok4 9 rfl (ev_int rfl rfl (bo_add hz3)) F rfl fun a F=>?_
            obtain ⟨y12, hy12, hm⟩ := bind_some hm
            obtain ⟨v12, h12, he1⟩ := ev_cut (P := Try.prog) (n := 97) (e := [(85, .i6 z3), (84, .i6 x8), (83, .i6 x8), (82, v5), (81, .i6 x8), (80, .string y11), (79, elemP v1 x2 1), (78, .i6 x2), (77, v1), (76, v10), (75, .bool (!decide (y9 = y10))), (74, .string y10), (73, (elemP v6 x8 1)), (72, .i6 x8), (71, v6), (70, .string y9), (69, (elemP v5 x8 1)), (68, .i6 x8), (67, v5), (64, .bool (decide (x8 < (y4.length : Int)))), (63, .i6 (y4.length : Int)), (62, v5), (61, .i6 x8), (12, .i6 x8), (11, v6), (10, v5), (9, .i6 x2), (8, v1), (7, v10), (5, bp b3 0), (3, bp b2 0), (2, bp b1 0)]) (C := fun _ => True) (x := .tmp 82) (lo := some (.tmp 83)) (hi := some (.tmp 85)) (h5.mono (l7.trans l9)) hy12 tu22 ts9 rfl (bndV rfl) (bndV rfl)
            refine dv_et ok4 10 rfl he1 F rfl fun a F=>?_
            refine dv_et ok4 11 rfl (ev_move rfl) F rfl fun a F=>?_
            refine dv_et ok4 12 rfl (ev_move rfl) F rfl fun a F=>?_
            refine dv_et ok4 13 rfl (ev_move rfl) F rfl fun a F=>?_
            obtain ⟨z4, hz4, hm⟩ := bind_some hm
            refine dv_et ok4 14 rfl (ev_int rfl rfl (bo_add hz4)) F rfl fun a F=>?_
            obtain ⟨y13, hy13, hm⟩ := bind_some hm
            obtain ⟨v13, h13, he2⟩ := ev_cut (P := Try.prog) (n := 97) (e := [(90, .i6 z4), (89, .i6 x8), (88, .i6 x8), (87, v6), (86, v12), (85, .i6 z3), (84, .i6 x8), (83, .i6 x8), (82, v5), (81, .i6 x8), (80, .string y11), (79, elemP v1 x2 1), (78, .i6 x2), (77, v1), (76, v10), (75, .bool (!decide (y9 = y10))), (74, .string y10), (73, (elemP v6 x8 1)), (72, .i6 x8), (71, v6), (70, .string y9), (69, (elemP v5 x8 1)), (68, .i6 x8), (67, v5), (64, .bool (decide (x8 < (y4.length : Int)))), (63, .i6 (y4.length : Int)), (62, v5), (61, .i6 x8), (12, .i6 x8), (11, v6), (10, v5), (9, .i6 x2), (8, v1), (7, v10), (5, bp b3 0), (3, bp b2 0), (2, bp b1 0)]) (C := fun _ => True) (x := .tmp 87) (lo := some (.tmp 88)) (hi := some (.tmp 90)) (h6.mono l9) hy13 tu22 ts9 rfl (bndV rfl) (bndV rfl)
            refine dv_et ok4 15 rfl he2 F rfl fun a F=>?_
            refine dv_et ok4 16 rfl (ev_build (parts := [(0, .tmp 80), (1, .tmp 81), (2, .tmp 86), (3, .tmp 91)]) (vs := [(0, .string y11), (1, .i6 x8), (2, v12), (3, v13)]) rfl (fun w => tb36_0_1_2_3 y11 x8 v12 (RepSl.isSl h12) v13 (RepSl.isSl h13) w)) F rfl fun a F=>?_
            refine dv_op ok4 17 rfl [] ?_
            refine wl_lit (l := ([({ Key := y11, Column := x8, Old := y12, New := y13 } : CellChange)] : List CellChange)) (vs := [.agg #[.string y11, .i6 x8, v12, v13]]) (parts := [(0, .tmp 92)]) (wn rfl) rfl rfl rfl tu26 te36 (sz_cons rfl sz_nil) rfl (Cat.cons (rep_CellChange_mk (x := ({ Key := y11, Column := x8, Old := y12, New := y13 } : CellChange)) h12 h13) (Cat.nil _)) (coa_cons rfl coa_nil) rfl F S rfl rfl ?_; clear F a S
            rintro v14 c10 a w h14 F S
            refine dv_nx trivial ?_
            refine dv_op ok4 18 rfl [] ?_
            obtain ⟨cs8, hk2, hr10⟩ := OwnS.reads h14
            obtain ⟨y14, hy14, hm⟩ := bind_some hm
            refine wl_append (wn rfl) rfl tu26 tu26 te36 (by decide) (by decide) F S rfl rfl (k := 2) rfl h10 hk2 rfl (hr10 _ _ _ 0 rfl S) hy14 rfl rfl ?_; clear F a S
            rintro v15 c11 a w h15 S F; replace S : St g9 [c10, c1, c11, [bx b3 #[.i6 0, .i6 0] 28], [bx b2 #[vb_1, vb_2] 25], [bx b1 #[va_1, va_2] 25]] fr w := S
            refine dv_nx trivial ?_
            refine dv_op ok4 19 rfl [] ?_
            refine wE (ev_assign rfl) F S rfl fun a F=>?_
            refine dv_nx trivial ?_
            refine dv_fin ok4 ?_
            replace F := F.sub (e' := [(7, v15), (12, .i6 x8), (11, v6), (10, v5), (9, .i6 x2), (8, v1), (5, bp b3 0), (3, bp b2 0), (2, bp b1 0)]) ⟨rfl, rfl, rfl, rfl, rfl, rfl, rfl, rfl, rfl, trivial⟩
            refine inb_n ?_
            refine then_n ?_
            replace S : St g9 [c11, c1, [bx b3 #[.i6 0, .i6 0] 28], [bx b2 #[vb_1, vb_2] 25], [bx b1 #[va_1, va_2] 25]] fr w := St.tail [c11, c1, [bx b3 #[.i6 0, .i6 0] 28], [bx b2 #[vb_1, vb_2] 25], [bx b1 #[va_1, va_2] 25]] _ (((((S.frontC 5 rfl).frontC 5 rfl).frontC 5 rfl).frontC 4 rfl).frontC 6 rfl)
            exact ⟨y14, v15, c11, g9, F.sub ⟨rfl, rfl, rfl, rfl, rfl, rfl, rfl, rfl, rfl, trivial⟩, (Le.refl _), S, h15, hm⟩
           ·refine wp_condF F rfl hc6 ?_
            refine wp_skip ?_
            refine inb_n ?_
            refine then_n ?_
            replace S : St g9 [c8, c1, [bx b3 #[.i6 0, .i6 0] 28], [bx b2 #[vb_1, vb_2] 25], [bx b1 #[va_1, va_2] 25]] fr w := St.tail [c8, c1, [bx b3 #[.i6 0, .i6 0] 28], [bx b2 #[vb_1, vb_2] 25], [bx b1 #[va_1, va_2] 25]] _ (((((S.frontC 4 rfl).frontC 4 rfl).frontC 4 rfl).frontC 3 rfl).frontC 5 rfl)
            exact ⟨x9, v10, c8, g9, F.sub ⟨rfl, rfl, rfl, rfl, rfl, rfl, rfl, rfl, rfl, trivial⟩, (Le.refl _), S, h10, hm⟩
          ·clear F S hm; rintro a w ⟨x11, v11, c9, g10, F, l10, S, h11, hm⟩
           refine wp_region_lit ?_
           refine wE (ev_move rfl) F S rfl fun a F=>?_
           obtain ⟨z2, hz2, hm⟩ := bind_some hm
           refine wE (ev_int rfl rfl (bo_add hz2)) F S rfl fun a F=>?_
           refine wE (ev_assign rfl) F S rfl fun a F=>?_
           refine wpList_nil ?_
           refine then_n ?_
           obtain rfl := sinj hm
           refine ⟨_, rfl, ?_⟩
           dsimp only
           replace S : St g10 [c1, c9, [bx b3 #[.i6 0, .i6 0] 28], [bx b2 #[vb_1, vb_2] 25], [bx b1 #[va_1, va_2] 25]] fr w := St.tail [c1, c9, [bx b3 #[.i6 0, .i6 0] 28], [bx b2 #[vb_1, vb_2] 25], [bx b1 #[va_1, va_2] 25]] _ (((((S.frontC 4 rfl).frontC 4 rfl).frontC 4 rfl).frontC 3 rfl).frontC 5 rfl)
           exact ⟨v11, c9, g10, F.sub ⟨rfl, rfl, rfl, rfl, rfl, rfl, rfl, rfl, rfl, trivial⟩, (l9.trans l10), S, h11⟩
         ·refine wp_condF F rfl hc5 ?_
          refine wp_exit ?_
          refine then_e ?_
          refine then_e ?_
          refine inb_x ?_
          refine then_n ?_
          obtain rfl := sinj hm
          obtain rfl := hfin2 _ rfl
          clear hm
          have hm : (changeforgeref2_DiffTables.j3 x2 x9 : Option (Step (Int × (List CellChange)) (List CellChange))) = some _ := hmo2
          exact ⟨x9, v10, c8, g9, F.sub ⟨rfl, rfl, rfl, rfl, rfl, rfl, trivial⟩, l9, S, h10, hm⟩
       ·clear F S hm; rintro a w ⟨x7, v9, c7, g8, F, l8, S, h9, hm⟩
        refine inb_n ?_
        refine then_n ?_
        replace S : St g8 [c7, c1, [bx b3 #[.i6 0, .i6 0] 28], [bx b2 #[vb_1, vb_2] 25], [bx b1 #[va_1, va_2] 25]] fr w := St.tail [c7, c1, [bx b3 #[.i6 0, .i6 0] 28], [bx b2 #[vb_1, vb_2] 25], [bx b1 #[va_1, va_2] 25]] _ (((((S.frontC 4 rfl).frontC 4 rfl).frontC 4 rfl).frontC 3 rfl).frontC 5 rfl)
        exact ⟨x7, v9, c7, g8, F.sub ⟨rfl, rfl, rfl, rfl, rfl, rfl, trivial⟩, ((l6.trans l7).trans l8), S, h9, hm⟩
     ·clear F S hm; rintro a w ⟨x5, v4, c4, g5, F, l5, S, h4, hm⟩
      refine wp_region_lit ?_
      refine wE (ev_move rfl) F S rfl fun a F=>?_
      obtain ⟨z1, hz1, hm⟩ := bind_some hm
      refine wE (ev_int rfl rfl (bo_add hz1)) F S rfl fun a F=>?_
      refine wE (ev_assign rfl) F S rfl fun a F=>?_
      refine wpList_nil ?_
      refine then_n ?_
      obtain rfl := sinj hm
      refine ⟨_, rfl, ?_⟩
      dsimp only
      replace S : St g5 [c1, c4, [bx b3 #[.i6 0, .i6 0] 28], [bx b2 #[vb_1, vb_2] 25], [bx b1 #[va_1, va_2] 25]] fr w := St.tail [c1, c4, [bx b3 #[.i6 0, .i6 0] 28], [bx b2 #[vb_1, vb_2] 25], [bx b1 #[va_1, va_2] 25]] _ (((((S.frontC 4 rfl).frontC 4 rfl).frontC 4 rfl).frontC 3 rfl).frontC 5 rfl)
      exact ⟨v4, c4, g5, F.sub ⟨rfl, rfl, rfl, rfl, rfl, rfl, trivial⟩, (l4.trans l5), S, h4⟩
    ·refine wp_condF F rfl hc2 ?_
     refine wp_exit ?_
     refine then_e ?_
     refine then_e ?_
     refine inb_x ?_
     refine then_n ?_
     obtain rfl := sinj hm
     obtain rfl := hfin1 _ rfl
     clear hm
     have hm : (changeforgeref2_DiffTables.j1 x3 : Option ((List CellChange) × Fault)) = some _ := hmo1
     replace S : St g4 [c3, [bx b3 #[.i6 0, .i6 0] 28]] fr w := St.tail [c3, [bx b3 #[.i6 0, .i6 0] 28]] _ ((S.frontC 2 rfl).frontC 2 rfl)
     exact ⟨x3, v3, c3, g4, F.sub ⟨rfl, rfl, trivial⟩, l4, S, h3, hm⟩
  ·clear F S hm; rintro a w ⟨x1, v2, c2, g3, F, l3, S, h2, hm⟩
   refine wp_seq ?_
   refine wp_region_lit ?_
   refine wE (ev_move rfl) F S rfl fun a F=>?_
   refine wE (ev_build (parts := []) (vs := []) rfl (fun w => tb28_  w)) F S rfl fun a F=>?_
   refine wE (ev_assign rfl) F S rfl fun a F=>?_
   refine wl_storeC (wn rfl) rfl F S rfl rfl (vs := [.i6 0, .i6 0]) rfl ts28 (one_cons rfl (one_cons rfl one_nil)) (k := 1) rfl (lb rfl) (c' := #[.i6 0, .i6 0]) rfl rfl ?_; clear S; intro w S
   refine wpList_nil ?_
   refine then_n ?_
   refine wp_ret ?_
   obtain rfl := sinj hm
   refine post_r _ F rfl (ar_cons (resT rfl) (ar_cons (resA rfl tu28 rfl (box_ptr (cells := [.i6 0, .i6 0]) 1 rfl 0 rfl (lb rfl) w S) ts28) ar_nil)) ?_
   replace S : St g3 [c2] fr w := St.tail [c2] _ (S.frontC 0 rfl)
   exact ⟨_, rfl, g3, v2, c2, ((l1.trans l2).trans l3), S, h2, rfl⟩

theorem changeforgeref2_cellCode_ok {g : Gh} {fr : Hl} {w : World} {r : Int} (t_ : Table) (vt_1 : Value) (ht_1 : RepSl g t_.Columns vt_1) (vt_2 : Value) (ht_2 : RepSl g t_.Rows vt_2) (x_ : CellChange) (vx_1 : Value) (hx_1 : RepSl g x_.Old vx_1) (vx_2 : Value) (hx_2 : RepSl g x_.New vx_2) (S : St g [] fr w) (hm : changeforgeref2_cellCode t_ x_ = some r) :
  Calls Try.prog 41 [.agg #[vt_1, vt_2], .agg #[.string x_.Key, .i6 x_.Column, vx_1, vx_2]].toArray w (fun en w' => ∃ v, en = .returned v ∧ ∃ (g' : Gh), Le g g' ∧ St g' [] fr w' ∧ .i6 r = v) := by
 unfold changeforgeref2_cellCode at hm
 refine calls_enter (fn := Try.f41) Try.func41 rfl Try.ntmps41 (lb rfl) ?_
 intro a F
 replace F : Fr 70 a [(0, .agg #[vt_1, vt_2]), (1, .agg #[.string x_.Key, .i6 x_.Column, vx_1, vx_2])] := F
 refine wp_seq ?_
 refine wp_region_lit ?_
 refine wl_boxC (wn rfl) rfl rfl rfl F S rfl rfl ?_; clear F a S; rintro b1 a w F S
 refine wl_boxC (wn rfl) rfl rfl rfl F S rfl rfl ?_; clear F a S; rintro b2 a w F S
 refine wE (ev_assign rfl) F S rfl fun a F=>?_
 refine wpList_nil ?_
 refine then_n ?_
 refine wp_seq ?_
 refine wp_seq ?_
 refine wp_region_lit ?_
 refine wE (ev_fieldAddr' tu36 tf36_0 (z := 0) ts9 rfl ⟨_, rfl⟩ rfl) F S rfl fun a F=>?_
 refine wE (ev_load1 tu9 rfl rfl (box_ptr (cells := [.string x_.Key]) 0 rfl 0 rfl (lb rfl))) F S rfl fun a F=>?_
 obtain ⟨y1, hy1, hm⟩ := bind_some hm
 refine wl_call0 (wn rfl) rfl F rfl (changeforgeref2_nameCode_ok (fr := (fl [[bx b2 #[.string x_.Key, .i6 x_.Column, vx_1, vx_2] 36], [bx b1 #[vt_1, vt_2] 25]] fr)) x_.Key S hy1) rfl tc43 rfl rfl ?_; clear F a S
 rintro _ a w ⟨g1, l1, S, rfl⟩ F; replace S : St g1 [[bx b2 #[.string x_.Key, .i6 x_.Column, vx_1, vx_2] 36], [bx b1 #[vt_1, vt_2] 25]] fr w := S
 refine wE (ev_assign rfl) F S rfl fun a F=>?_
 refine wpList_nil ?_
 refine then_n ?_
 refine wp_seq ?_
 refine wp_region_lit ?_
 refine wE (ev_move rfl) F S rfl fun a F=>?_
 refine wE (ev_int rfl rfl (bo_neq _ _ _ _)) F S rfl fun a F=>?_
 refine wpList_nil ?_
 refine then_n ?_
 obtain ⟨hc1, hm⟩ | ⟨hc1, hm⟩ := ite_or hm
 ·refine wp_condT F rfl hc1 ?_
  refine wp_seq ?_
  refine wp_region_lit ?_
  refine wE (ev_move rfl) F S rfl fun a F=>?_
  refine wE (ev_assign rfl) F S rfl fun a F=>?_
  refine wpList_nil ?_
  refine then_n ?_
  refine wp_ret ?_
  refine then_r ?_
  obtain rfl := sinj hm
  refine post_r _ F rfl (ar_cons (resT rfl) ar_nil) ?_
  replace S : St g1 [] fr w := St.tail [] _ S
  exact ⟨_, rfl, g1, l1, S, rfl⟩
 ·refine wp_condF F rfl hc1 ?_
  refine wp_skip ?_
  refine then_n ?_
  refine wp_seq ?_
  refine wp_seq ?_
  refine wp_region_lit ?_
  refine wE (ev_fieldAddr' tu36 tf36_1 (z := 0) ts3 rfl ⟨_, rfl⟩ rfl) F S rfl fun a F=>?_
  refine wE (ev_load1 tu3 rfl rfl (box_ptr (cells := [.i6 x_.Column]) 0 rfl 1 rfl (lb rfl))) F S rfl fun a F=>?_
  refine wE (ev_int rfl rfl (bo_lss _ _ _ _)) F S rfl fun a F=>?_
  refine wE (ev_move rfl) F S rfl fun a F=>?_
  obtain ⟨x1, hx1, hm⟩ := bind_some hm
  refine wl_cut 7 (fun a w' => w = w' ∧ Fr 70 a [(25, .bool x1), (3, bp b2 0), (2, bp b1 0)]) ?_ ?_
  ·clear hm; obtain ⟨hc2, hm⟩ | ⟨hc2, hm⟩ := ite_or hx1
   ·refine wl_skip rfl rfl rfl rfl (ne_ft hc2) F rfl rfl ?_; clear F a; intro a F
    refine wl_skip rfl rfl rfl rfl (ne_ft hc2) F rfl rfl ?_; clear F a; intro a F
    refine wl_skip rfl rfl rfl rfl (ne_ft hc2) F rfl rfl ?_; clear F a; intro a F
    refine wl_skip rfl rfl rfl rfl (ne_ft hc2) F rfl rfl ?_; clear F a; intro a F
    refine wl_skip rfl rfl rfl rfl (ne_ft hc2) F rfl rfl ?_; clear F a; intro a F
    refine wl_skip rfl rfl rfl rfl (ne_ft hc2) F rfl rfl ?_; clear F a; intro a F
    refine wE (ev_pickT rfl hc2 rfl) F S rfl fun a F=>?_
    obtain rfl := sinj hm
    refine wpList_nil (then_n ?_); exact ⟨rfl, F.sub ⟨rfl, rfl, rfl, trivial⟩⟩
   ·refine wl_ev (wg F rfl rfl rfl rfl hc2) (ev_fieldAddr' tu36 tf36_1 (z := 0) ts3 rfl ⟨_, rfl⟩ rfl) F S rfl rfl ?_; clear F a; intro a F
    refine wl_ev (wg F rfl rfl rfl rfl hc2) (ev_load1 tu3 rfl rfl (box_ptr (cells := [.i6 x_.Column]) 0 rfl 1 rfl (lb rfl))) F S rfl rfl ?_; clear F a; intro a F
    refine wl_ev (wg F rfl rfl rfl rfl hc2) (ev_fieldAddr' tu25 tf25_0 (z := 0) ts22 rfl ⟨_, rfl⟩ rfl) F S rfl rfl ?_; clear F a; intro a F
    refine wl_ev (wg F rfl rfl rfl rfl hc2) (ev_load1 tu22 rfl rfl (box_ptr (cells := [vt_1]) 1 rfl 0 rfl (lb rfl))) F S rfl rfl ?_; clear F a; intro a F
    refine wl_ev (wg F rfl rfl rfl rfl hc2) (ev_lenSh ht_1 rfl tu22) F S rfl rfl ?_; clear F a; intro a F
    refine wl_ev (wg F rfl rfl rfl rfl hc2) (ev_int rfl rfl (bo_geq _ _ _ _)) F S rfl rfl ?_; clear F a; intro a F
    refine wE (ev_pickF rfl hc2 rfl) F S rfl fun a F=>?_
    obtain rfl := sinj hm
    refine wpList_nil (then_n ?_); exact ⟨rfl, F.sub ⟨rfl, rfl, rfl, trivial⟩⟩
  clear F; rintro a w' ⟨rfl, F⟩
  refine wpList_nil ?_
  refine then_n ?_
  obtain ⟨hc3, hm⟩ | ⟨hc3, hm⟩ := ite_or hm
  ·refine wp_condT F rfl hc3 ?_
   refine wp_seq ?_
   refine wp_region_lit ?_
   refine wE (ev_assign rfl) F S rfl fun a F=>?_
   refine wpList_nil ?_
   refine then_n ?_
   refine wp_ret ?_
   refine then_r ?_
   obtain rfl := sinj hm
   refine post_r _ F rfl (ar_cons (resT rfl) ar_nil) ?_
   replace S : St g1 [] fr w := St.tail [] _ S
   exact ⟨_, rfl, g1, l1, S, rfl⟩
  ·refine wp_condF F rfl hc3 ?_
   refine wp_skip ?_
   refine then_n ?_
   refine wp_seq ?_
   refine wp_region_lit ?_
   refine wE (ev_fieldAddr' tu36 tf36_2 (z := 0) ts22 rfl ⟨_, rfl⟩ rfl) F S rfl fun a F=>?_
   refine wE (ev_load1 tu22 rfl rfl (box_ptr (cells := [vx_1]) 0 rfl 2 rfl (lb rfl))) F S rfl fun a F=>?_
   refine wE (ev_lenSh hx_1 rfl tu22) F S rfl fun a F=>?_
   refine wE (ev_assign rfl) F S rfl fun a F=>?_
   refine wpList_nil ?_
   refine then_n ?_
   refine wp_seq ?_
   refine wp_region_lit ?_
   refine wE (ev_fieldAddr' tu36 tf36_3 (z := 0) ts22 rfl ⟨_, rfl⟩ rfl) F S rfl fun a F=>?_
   refine wE (ev_load1 tu22 rfl rfl (box_ptr (cells := [vx_2]) 0 rfl 3 rfl (lb rfl))) F S rfl fun a F=>?_
   refine wE (ev_lenSh hx_2 rfl tu22) F S rfl fun a F=>?_
   refine wE (ev_assign rfl) F S rfl fun a F=>?_
   refine wpList_nil ?_
   refine then_n ?_
   refine wp_cut (fun a w => ∃ (g2 : Gh), Fr 70 a [(3, bp b2 0)] ∧ Le g1 g2 ∧ St g2 [[bx b2 #[.string x_.Key, .i6 x_.Column, vx_1, vx_2] 36]] fr w ∧ changeforgeref2_cellCode.j1 x_ = some r) ?_ ?_
   ·refine wp_seq ?_
    refine wp_region_lit ?_
    refine wE (ev_fieldAddr' tu36 tf36_1 (z := 0) ts3 rfl ⟨_, rfl⟩ rfl) F S rfl fun a F=>?_
    refine wE (ev_load1 tu3 rfl rfl (box_ptr (cells := [.i6 x_.Column]) 0 rfl 1 rfl (lb rfl))) F S rfl fun a F=>?_
    refine wE (ev_int rfl rfl (bo_eql _ _ _ _)) F S rfl fun a F=>?_
    refine wpList_nil ?_
    refine then_n ?_
    obtain ⟨hc5, hm⟩ | ⟨hc5, hm⟩ := ite_or hm
    ·refine wp_condT F rfl hc5 ?_
     refine wp_seq ?_
     refine wp_region_lit ?_
     refine wE (ev_move rfl) F S rfl fun a F=>?_
     refine wE (ev_int rfl rfl (bo_neq _ _ _ _)) F S rfl fun a F=>?_
     refine wE (ev_move rfl) F S rfl fun a F=>?_
     obtain ⟨x2, hx2, hm⟩ := bind_some hm
     refine wl_cut 6 (fun a w' => w = w' ∧ Fr 70 a [(43, .bool x2), (7, .i6 (x_.New.length : Int)), (6, .i6 (x_.Old.length : Int)), (3, bp b2 0), (2, bp b1 0)]) ?_ ?_
     ·clear hm; obtain ⟨hc6, hm⟩ | ⟨hc6, hm⟩ := ite_or hx2
      ·refine wl_skip rfl rfl rfl rfl (ne_ft hc6) F rfl rfl ?_; clear F a; intro a F
       refine wl_skip rfl rfl rfl rfl (ne_ft hc6) F rfl rfl ?_; clear F a; intro a F
       refine wl_skip rfl rfl rfl rfl (ne_ft hc6) F rfl rfl ?_; clear F a; intro a F
       refine wl_skip rfl rfl rfl rfl (ne_ft hc6) F rfl rfl ?_; clear F a; intro a F
       refine wl_skip rfl rfl rfl rfl (ne_ft hc6) F rfl rfl ?_; clear F a; intro a F
       refine wE (ev_pickT rfl hc6 rfl) F S rfl fun a F=>?_
       obtain rfl := sinj hm
       refine wpList_nil (then_n ?_); exact ⟨rfl, F.sub ⟨rfl, rfl, rfl, rfl, rfl, trivial⟩⟩
      ·refine wl_ev (wg F rfl rfl rfl rfl hc6) (ev_move rfl) F S rfl rfl ?_; clear F a; intro a F
       refine wl_ev (wg F rfl rfl rfl rfl hc6) (ev_fieldAddr' tu25 tf25_0 (z := 0) ts22 rfl ⟨_, rfl⟩ rfl) F S rfl rfl ?_; clear F a; intro a F
       refine wl_ev (wg F rfl rfl rfl rfl hc6) (ev_load1 tu22 rfl rfl (box_ptr (cells := [vt_1]) 1 rfl 0 rfl (lb rfl))) F S rfl rfl ?_; clear F a; intro a F
       refine wl_ev (wg F rfl rfl rfl rfl hc6) (ev_lenSh ht_1 rfl tu22) F S rfl rfl ?_; clear F a; intro a F
       refine wl_ev (wg F rfl rfl rfl rfl hc6) (ev_int rfl rfl (bo_neq _ _ _ _)) F S rfl rfl ?_; clear F a; intro a F
       refine wE (ev_pickF rfl hc6 rfl) F S rfl fun a F=>?_
       obtain rfl := sinj hm
       refine wpList_nil (then_n ?_); exact ⟨rfl, F.sub ⟨rfl, rfl, rfl, rfl, rfl, trivial⟩⟩
     clear F; rintro a w' ⟨rfl, F⟩
     refine wE (ev_move rfl) F S rfl fun a F=>?_
     obtain ⟨x3, hx3, hm⟩ := bind_some hm
     refine wl_cut 10 (fun a w' => w = w' ∧ Fr 70 a [(54, .bool x3), (3, bp b2 0)]) ?_ ?_
     ·clear hm; obtain ⟨hc7, hm⟩ | ⟨hc7, hm⟩ := ite_or hx3
      ·refine wl_ev (wg F rfl rfl rfl rfl hc7) (ev_move rfl) F S rfl rfl ?_; clear F a; intro a F
       refine wl_ev (wg F rfl rfl rfl rfl hc7) (ev_int rfl rfl (bo_neq _ _ _ _)) F S rfl rfl ?_; clear F a; intro a F
       refine wl_ev (wg F rfl rfl rfl rfl hc7) (ev_move rfl) F S rfl rfl ?_; clear F a; intro a F
       obtain ⟨x4, hx4, hm⟩ := bind_some hm
       refine wl_cut 6 (fun a w' => w = w' ∧ Fr 70 a [(53, .bool x4), (44, .bool x2), (3, bp b2 0)]) ?_ ?_
       ·clear hm; obtain ⟨hc8, hm⟩ | ⟨hc8, hm⟩ := ite_or hx4
        ·refine wl_skip rfl rfl rfl rfl (ne_ft hc8) F rfl rfl ?_; clear F a; intro a F
         refine wl_skip rfl rfl rfl rfl (ne_ft hc8) F rfl rfl ?_; clear F a; intro a F
         refine wl_skip rfl rfl rfl rfl (ne_ft hc8) F rfl rfl ?_; clear F a; intro a F
         refine wl_skip rfl rfl rfl rfl (ne_ft hc8) F rfl rfl ?_; clear F a; intro a F
         refine wl_skip rfl rfl rfl rfl (ne_ft hc8) F rfl rfl ?_; clear F a; intro a F
         refine wl_ev (wg F rfl rfl rfl rfl hc7) (ev_pickT rfl hc8 rfl) F S rfl rfl ?_; clear F a; intro a F
         obtain rfl := sinj hm
         refine wpList_nil (then_n ?_); exact ⟨rfl, F.sub ⟨rfl, rfl, rfl, trivial⟩⟩
        ·refine wl_ev (wg F rfl rfl rfl rfl hc8) (ev_move rfl) F S rfl rfl ?_; clear F a; intro a F
         refine wl_ev (wg F rfl rfl rfl rfl hc8) (ev_fieldAddr' tu25 tf25_0 (z := 0) ts22 rfl ⟨_, rfl⟩ rfl) F S rfl rfl ?_; clear F a; intro a F
         refine wl_ev (wg F rfl rfl rfl rfl hc8) (ev_load1 tu22 rfl rfl (box_ptr (cells := [vt_1]) 1 rfl 0 rfl (lb rfl))) F S rfl rfl ?_; clear F a; intro a F
         refine wl_ev (wg F rfl rfl rfl rfl hc8) (ev_lenSh ht_1 rfl tu22) F S rfl rfl ?_; clear F a; intro a F
         refine wl_ev (wg F rfl rfl rfl rfl hc8) (ev_int rfl rfl (bo_neq _ _ _ _)) F S rfl rfl ?_; clear F a; intro a F
         refine wl_ev (wg F rfl rfl rfl rfl hc7) (ev_pickF rfl hc8 rfl) F S rfl rfl ?_; clear F a; intro a F
         obtain rfl := sinj hm
         refine wpList_nil (then_n ?_); exact ⟨rfl, F.sub ⟨rfl, rfl, rfl, trivial⟩⟩
       clear F; rintro a w' ⟨rfl, F⟩
       refine wE (ev_pickT rfl hc7 rfl) F S rfl fun a F=>?_
       obtain rfl := sinj hm
       refine wpList_nil (then_n ?_); exact ⟨rfl, F.sub ⟨rfl, rfl, trivial⟩⟩
      ·refine wl_skip rfl rfl rfl rfl (ne_tf hc7) F rfl rfl ?_; clear F a; intro a F
       refine wl_skip rfl rfl rfl rfl (ne_tf hc7) F rfl rfl ?_; clear F a; intro a F
       refine wl_skip rfl rfl rfl rfl (ne_tf hc7) F rfl rfl ?_; clear F a; intro a F
       refine wl_skipu rfl rfl rfl rfl F rfl rfl ?_; clear F a; intro a F
       refine wl_skipu rfl rfl rfl rfl F rfl rfl ?_; clear F a; intro a F
       refine wl_skipu rfl rfl rfl rfl F rfl rfl ?_; clear F a; intro a F
       refine wl_skipu rfl rfl rfl rfl F rfl rfl ?_; clear F a; intro a F
       refine wl_skipu rfl rfl rfl rfl F rfl rfl ?_; clear F a; intro a F
       refine wl_skip rfl rfl rfl rfl (ne_tf hc7) F rfl rfl ?_; clear F a; intro a F
       refine wE (ev_pickF rfl hc7 rfl) F S rfl fun a F=>?_
       obtain rfl := sinj hm
       refine wpList_nil (then_n ?_); exact ⟨rfl, F.sub ⟨rfl, rfl, trivial⟩⟩
     clear F; rintro a w' ⟨rfl, F⟩
     refine wpList_nil ?_
     refine then_n ?_
     obtain ⟨hc9, hm⟩ | ⟨hc9, hm⟩ := ite_or hm
     ·refine wp_condT F rfl hc9 ?_
      refine wp_seq ?_
      refine wp_region_lit ?_
      refine wE (ev_assign rfl) F S rfl fun a F=>?_
      refine wpList_nil ?_
      refine then_n ?_
      refine wp_ret ?_
      refine then_r ?_
      obtain rfl := sinj hm
      refine post_r _ F rfl (ar_cons (resT rfl) ar_nil) ?_
      replace S : St g1 [] fr w := St.tail [] _ S
      exact ⟨_, rfl, g1, l1, S, rfl⟩
     ·refine wp_condF F rfl hc9 ?_
      refine wp_skip ?_
      refine then_n ?_
      replace S : St g1 [[bx b2 #[.string x_.Key, .i6 x_.Column, vx_1, vx_2] 36]] fr w := St.tail [[bx b2 #[.string x_.Key, .i6 x_.Column, vx_1, vx_2] 36]] _ (S.frontC 0 rfl)
      exact ⟨g1, F.sub ⟨rfl, trivial⟩, (Le.refl _), S, hm⟩
    ·refine wp_condF F rfl hc5 ?_
     refine wp_seq ?_
     refine wp_region_lit ?_
     refine wE (ev_move rfl) F S rfl fun a F=>?_
     refine wE (ev_int rfl rfl (bo_neq _ _ _ _)) F S rfl fun a F=>?_
     refine wE (ev_move rfl) F S rfl fun a F=>?_
     obtain ⟨x5, hx5, hm⟩ := bind_some hm
     refine wl_cut 3 (fun a w' => w = w' ∧ Fr 70 a [(60, .bool x5), (3, bp b2 0)]) ?_ ?_
     ·clear hm; obtain ⟨hc10, hm⟩ | ⟨hc10, hm⟩ := ite_or hx5
      ·refine wl_skip rfl rfl rfl rfl (ne_ft hc10) F rfl rfl ?_; clear F a; intro a F
       refine wl_skip rfl rfl rfl rfl (ne_ft hc10) F rfl rfl ?_; clear F a; intro a F
       refine wE (ev_pickT rfl hc10 rfl) F S rfl fun a F=>?_
       obtain rfl := sinj hm
       refine wpList_nil (then_n ?_); exact ⟨rfl, F.sub ⟨rfl, rfl, trivial⟩⟩
      ·refine wl_ev (wg F rfl rfl rfl rfl hc10) (ev_move rfl) F S rfl rfl ?_; clear F a; intro a F
       refine wl_ev (wg F rfl rfl rfl rfl hc10) (ev_int rfl rfl (bo_neq _ _ _ _)) F S rfl rfl ?_; clear F a; intro a F
       refine wE (ev_pickF rfl hc10 rfl) F S rfl fun a F=>?_
       obtain rfl := sinj hm
       refine wpList_nil (then_n ?_); exact ⟨rfl, F.sub ⟨rfl, rfl, trivial⟩⟩
     clear F; rintro a w' ⟨rfl, F⟩
     refine wpList_nil ?_
     refine then_n ?_
     obtain ⟨hc11, hm⟩ | ⟨hc11, hm⟩ := ite_or hm
     ·refine wp_condT F rfl hc11 ?_
      refine wp_seq ?_
      refine wp_region_lit ?_
      refine wE (ev_assign rfl) F S rfl fun a F=>?_
      refine wpList_nil ?_
      refine then_n ?_
      refine wp_ret ?_
      refine then_r ?_
      obtain rfl := sinj hm
      refine post_r _ F rfl (ar_cons (resT rfl) ar_nil) ?_
      replace S : St g1 [] fr w := St.tail [] _ S
      exact ⟨_, rfl, g1, l1, S, rfl⟩
     ·refine wp_condF F rfl hc11 ?_
      refine wp_skip ?_
      refine then_n ?_
      replace S : St g1 [[bx b2 #[.string x_.Key, .i6 x_.Column, vx_1, vx_2] 36]] fr w := St.tail [[bx b2 #[.string x_.Key, .i6 x_.Column, vx_1, vx_2] 36]] _ (S.frontC 0 rfl)
      exact ⟨g1, F.sub ⟨rfl, trivial⟩, (Le.refl _), S, hm⟩
   ·clear F S hm; rintro a w ⟨g2, F, l2, S, hm⟩
    refine wp_seq ?_
    refine wp_seq ?_
    refine wp_region_lit ?_
    refine wE (ev_fieldAddr' tu36 tf36_2 (z := 0) ts22 rfl ⟨_, rfl⟩ rfl) F S rfl fun a F=>?_
    refine wE (ev_load1 tu22 rfl rfl (box_ptr (cells := [vx_1]) 0 rfl 2 rfl (lb rfl))) F S rfl fun a F=>?_
    obtain ⟨y2, hy2, hm⟩ := bind_some hm
    refine wl_call0 (wn rfl) rfl F rfl (changeforgeref1_LinesCode_ok (fr := (fl [[bx b2 #[.string x_.Key, .i6 x_.Column, vx_1, vx_2] 36]] fr)) x_.Old vx_1 (hx_1.mono (l1.trans l2)) S hy2) rfl tc44 rfl rfl ?_; clear F a S
    rintro _ a w ⟨g3, l3, S, rfl⟩ F; replace S : St g3 [[bx b2 #[.string x_.Key, .i6 x_.Column, vx_1, vx_2] 36]] fr w := S
    refine wE (ev_assign rfl) F S rfl fun a F=>?_
    refine wpList_nil ?_
    refine then_n ?_
    refine wp_seq ?_
    refine wp_region_lit ?_
    refine wE (ev_move rfl) F S rfl fun a F=>?_
    refine wE (ev_int rfl rfl (bo_neq _ _ _ _)) F S rfl fun a F=>?_
    refine wpList_nil ?_
    refine then_n ?_
    obtain ⟨hc4, hm⟩ | ⟨hc4, hm⟩ := ite_or hm
    ·refine wp_condT F rfl hc4 ?_
     refine wp_seq ?_
     refine wp_region_lit ?_
     refine wE (ev_move rfl) F S rfl fun a F=>?_
     refine wE (ev_assign rfl) F S rfl fun a F=>?_
     refine wpList_nil ?_
     refine then_n ?_
     refine wp_ret ?_
     refine then_r ?_
     obtain rfl := sinj hm
     refine post_r _ F rfl (ar_cons (resT rfl) ar_nil) ?_
     replace S : St g3 [] fr w := St.tail [] _ S
     exact ⟨_, rfl, g3, ((l1.trans l2).trans l3), S, rfl⟩
    ·refine wp_condF F rfl hc4 ?_
     refine wp_skip ?_
     refine then_n ?_
     refine wp_seq ?_
     refine wp_region_lit ?_
     refine wE (ev_fieldAddr' tu36 tf36_3 (z := 0) ts22 rfl ⟨_, rfl⟩ rfl) F S rfl fun a F=>?_
     refine wE (ev_load1 tu22 rfl rfl (box_ptr (cells := [vx_2]) 0 rfl 3 rfl (lb rfl))) F S rfl fun a F=>?_
     obtain ⟨y3, hy3, hm⟩ := bind_some hm
     refine wl_call0 (wn rfl) rfl F rfl (changeforgeref1_LinesCode_ok (fr := (fl [[bx b2 #[.string x_.Key, .i6 x_.Column, vx_1, vx_2] 36]] fr)) x_.New vx_2 (hx_2.mono ((l1.trans l2).trans l3)) S hy3) rfl tc44 rfl rfl ?_; clear F a S
     rintro _ a w ⟨g4, l4, S, rfl⟩ F; replace S : St g4 [[bx b2 #[.string x_.Key, .i6 x_.Column, vx_1, vx_2] 36]] fr w := S
     refine wE (ev_assign rfl) F S rfl fun a F=>?_
     refine wpList_nil ?_
     refine then_n ?_
     refine wp_ret ?_
     obtain rfl := sinj hm
     refine post_r _ F rfl (ar_cons (resT rfl) ar_nil) ?_
     replace S : St g4 [] fr w := St.tail [] _ S
     exact ⟨_, rfl, g4, (((l1.trans l2).trans l3).trans l4), S, rfl⟩

theorem changeforgeref2_ordered_ok {g : Gh} {fr : Hl} {w : World} {r : (List Row)} (l_ : (List Row)) (vl_1 : Value) (hl_1 : RepSl g l_ vl_1) (S : St g [] fr w) (hm : changeforgeref2_ordered l_ = some r) :
  Calls Try.prog 54 [vl_1].toArray w (fun en w' => ∃ v, en = .returned v ∧ ∃ (g' : Gh) (v1 : Value) (c1 : Hl), Le g g' ∧ St g' [c1] fr w' ∧ OwnS g' r v1 c1 ∧ v1 = v) := by
 unfold changeforgeref2_ordered at hm
 refine calls_enter (fn := Try.f54) Try.func54 rfl Try.ntmps54 (lb rfl) ?_
 intro a F
 replace F : Fr 55 a [(0, vl_1)] := F
 refine wp_seq ?_
 refine wp_region_lit ?_
 refine wE (ev_assign rfl) F S rfl fun a F=>?_
 refine wpList_nil ?_
 refine then_n ?_
 refine wp_seq ?_
 refine wp_region_lit ?_
 refine wE (ev_assign rfl) F S rfl fun a F=>?_
 refine wpList_nil ?_
 refine then_n ?_
 refine wp_cut (fun a w => ∃ (x1 : List Row) (v1 : Value) (c1 : Hl) (g1 : Gh), Fr 55 a [(3, v1)] ∧ Le g g1 ∧ St g1 [c1] fr w ∧ OwnS g1 x1 v1 c1 ∧ changeforgeref2_ordered.j1 x1 = some r) ?_ ?_
 ·refine wp_seq ?_
  refine wp_region_lit ?_
  refine wE (ev_assign rfl) F S rfl fun a F=>?_
  refine wpList_nil ?_
  refine then_n ?_
  refine wp_block ?_
  obtain ⟨r1, hr1, hm⟩ := bind_some hm
  have hmo1 := hm; clear hm
  refine wp_iter (σ := Int × (List Row)) (ρ := (List Row)) (m := fun s => changeforgeref2_ordered.l1 l_ s.1 s.2) (I := fun s a w => match s with | (x2, x3) => ∃ (v2 : Value) (c2 : Hl) (g2 : Gh), Fr 55 a [(4, .i6 x2), (3, v2), (0, vl_1)] ∧ Le g g2 ∧ St g2 [c2] fr w ∧ OwnS g2 x3 v2 c2) hr1 ?_ ?_
  ·dsimp only
   replace S : St g [[]] fr w := S
   exact ⟨(nilS), [], g, F.sub ⟨rfl, rfl, rfl, trivial⟩, (Le.refl _), S, (OwnS.nil _)⟩
  ·clear F S; rintro ⟨x2, x3⟩ a w x4 ⟨v2, c2, g2, F, l2, S, h2⟩ hx1 hfin1
   have hm : changeforgeref2_ordered.l1 l_ x2 x3 = some x4 := hx1; clear hx1
   unfold changeforgeref2_ordered.l1 at hm
   refine wp_seq ?_
   refine wp_seq ?_
   refine wp_region_lit ?_
   refine wE (ev_move rfl) F S rfl fun a F=>?_
   refine wE (ev_move rfl) F S rfl fun a F=>?_
   refine wE (ev_lenSh hl_1 rfl tu23) F S rfl fun a F=>?_
   refine wE (ev_int rfl rfl (bo_lss _ _ _ _)) F S rfl fun a F=>?_
   refine wpList_nil ?_
   refine then_n ?_
   obtain ⟨hc1, hm⟩ | ⟨hc1, hm⟩ := ite_or hm
   ·refine wp_condT F rfl hc1 ?_
    refine wp_skip ?_
    refine then_n ?_
    refine wp_cut (fun a w => ∃ (x5 : List Row) (v3 : Value) (c3 : Hl) (g3 : Gh), Fr 55 a [(3, v3), (4, .i6 x2), (0, vl_1)] ∧ Le g2 g3 ∧ St g3 [c3] fr w ∧ OwnS g3 x5 v3 c3 ∧ changeforgeref2_ordered.j2 x2 x5 = some x4) ?_ ?_
    ·refine wp_block ?_
     refine wp_seq ?_
     refine wp_region_lit ?_
     refine wE (ev_move rfl) F S rfl fun a F=>?_
     refine wE (ev_lenOw h2 rfl tu23) F S rfl fun a F=>?_
     refine wE (ev_assign rfl) F S rfl fun a F=>?_
     refine wpList_nil ?_
     refine then_n ?_
     refine wp_seq ?_
     refine wp_region_lit ?_
     refine wE (ev_move rfl) F S rfl fun a F=>?_
     refine wE (ev_move rfl) F S rfl fun a F=>?_
     refine wE (ev_move rfl) F S rfl fun a F=>?_
     obtain ⟨y1, hy1, hm⟩ := bind_some hm
     obtain ⟨cs1, hr2, hp1⟩ := elemS (hl_1.mono l2) hy1
     obtain ⟨v4, rfl, h4⟩ := rep_Row hr2
     refine wE (ev_idxS (hl_1.mono l2) hy1 tu23 ts54 rfl rfl) F S rfl fun a F=>?_
     refine wE (ev_loadA tu54 rfl (cs := [.string y1.Key, v4]) ts54 rfl (ptr_mono (cks := [c2]) (fr := fr) hp1 (Le.refl _))) F S rfl fun a F=>?_
     refine wl_lit (l := ([y1] : List Row)) (vs := [.agg #[.string y1.Key, v4]]) (parts := [(0, .tmp 18)]) (wn rfl) rfl rfl rfl tu23 te54 (sz_cons rfl sz_nil) rfl (Cat.cons (rep_Row_mk (x := y1) h4) (Cat.nil _)) (coa_cons rfl coa_nil) rfl F S rfl rfl ?_; clear F a S
     rintro v5 c4 a w h5 F S
     obtain ⟨cs2, hk1, hr3⟩ := OwnS.reads h5
     obtain ⟨y2, hy2, hm⟩ := bind_some hm
     refine wl_append (wn rfl) rfl tu23 tu23 te54 (by decide) (by decide) F S rfl rfl (k := 1) rfl h2 hk1 rfl (hr3 _ _ _ 0 rfl S) hy2 rfl rfl ?_; clear F a S
     rintro v6 c5 a w h6 S F; replace S : St g2 [c4, c5] fr w := S
     refine wE (ev_assign rfl) F S rfl fun a F=>?_
     refine wpList_nil ?_
     refine then_n ?_
     refine wp_cut (fun a w => ∃ (x6 : List Row) (x7 : Int) (v7 : Value) (c6 : Hl) (g4 : Gh), Fr 55 a [(3, v7), (5, .i6 x7), (4, .i6 x2), (0, vl_1)] ∧ Le g2 g4 ∧ St g4 [c6] fr w ∧ OwnS g4 x6 v7 c6 ∧ changeforgeref2_ordered.j3 l_ x2 x6 x7 = some x4) ?_ ?_
     ·refine wp_block ?_
      obtain ⟨r2, hr5, hm⟩ := bind_some hm
      have hmo2 := hm; clear hm
      refine wp_iter (σ := (List Row) × Int) (ρ := (List Row) × Int) (m := fun s => changeforgeref2_ordered.l2 l_ x2 s.1 s.2) (I := fun s a w => match s with | (x8, x9) => ∃ (v9 : Value) (c8 : Hl) (g5 : Gh), Fr 55 a [(3, v9), (5, .i6 x9), (4, .i6 x2), (0, vl_1)] ∧ Le g2 g5 ∧ St g5 [c8] fr w ∧ OwnS g5 x8 v9 c8) hr5 ?_ ?_
      ·dsimp only
       replace S : St g2 [c5] fr w := St.tail [c5] _ (S.frontC 1 rfl)
       exact ⟨v6, c5, g2, F.sub ⟨rfl, rfl, rfl, rfl, trivial⟩, (Le.refl _), S, h6⟩
      ·clear F S; rintro ⟨x8, x9⟩ a w x10 ⟨v9, c8, g5, F, l5, S, h10⟩ hx2 hfin2
       have hm : changeforgeref2_ordered.l2 l_ x2 x8 x9 = some x10 := hx2; clear hx2
       unfold changeforgeref2_ordered.l2 at hm
       refine wp_seq ?_
       refine wp_seq ?_
       refine wp_quiet mo (by kernel_rfl) S ?_
       refine wq_ev (wn rfl) (ev_move rfl) F rfl rfl ?_; clear F a; intro a F
       refine wq_ev (wn rfl) (ev_int rfl rfl (bo_gtr _ _ _ _)) F rfl rfl ?_; clear F a; intro a F
       refine wq_ev (wn rfl) (ev_move rfl) F rfl rfl ?_; clear F a; intro a F
       obtain ⟨x11, hx3, hm⟩ := bind_some hm
       refine wq_cut 13 (fun a => Fr 55 a [(36, .bool x11), (3, v9), (5, .i6 x9), (4, .i6 x2), (0, vl_1)]) ?_ ?_
       ·clear hm; obtain ⟨hc2, hm⟩ | ⟨hc2, hm⟩ := ite_or hx3
        ·refine wq_ev (wg F rfl rfl rfl rfl hc2) (ev_move rfl) F rfl rfl ?_; clear F a; intro a F
         refine wq_ev (wg F rfl rfl rfl rfl hc2) (ev_move rfl) F rfl rfl ?_; clear F a; intro a F
         obtain ⟨y6, hy6, hm⟩ := bind_some hm
         obtain ⟨cs4, hr6, hp3⟩ := elemS (hl_1.mono (l2.trans l5)) hy6
         obtain ⟨v10, rfl, h11⟩ := rep_Row hr6
         refine wq_ev (wg F rfl rfl rfl rfl hc2) (ev_idxS (hl_1.mono (l2.trans l5)) hy6 tu23 ts54 rfl rfl) F rfl rfl ?_; clear F a; intro a F
         have hp4 := PtrC.field hp3 0 1 (lb rfl)
         have hp4 : PtrC g5 (addP (elemP vl_1 x2 2) 0) [.string y6.Key] := hp4
         refine wq_ev (wg F rfl rfl rfl rfl hc2) (ev_fieldAddr' tu54 tf54_0 (z := 0) ts9 rfl hp3.ptr rfl) F rfl rfl ?_; clear F a; intro a F
         refine wq_ev (wg F rfl rfl rfl rfl hc2) (ev_load1 tu9 rfl rfl (ptr_mono (cks := [c8]) (fr := fr) hp4 (Le.refl _))) F rfl rfl ?_; clear F a; intro a F
         refine wq_ev (wg F rfl rfl rfl rfl hc2) (ev_move rfl) F rfl rfl ?_; clear F a; intro a F
         refine wq_ev (wg F rfl rfl rfl rfl hc2) (ev_move rfl) F rfl rfl ?_; clear F a; intro a F
         obtain ⟨z2, hz2, hm⟩ := bind_some hm
         refine wq_ev (wg F rfl rfl rfl rfl hc2) (ev_int rfl rfl (bo_sub hz2)) F rfl rfl ?_; clear F a; intro a F
         obtain ⟨y7, hy7, hm⟩ := bind_some hm
         refine wq_ev (wg F rfl rfl rfl rfl hc2) (ev_idxO h10 hy7 tu23 ts54 rfl rfl) F rfl rfl ?_; clear F a; intro a F
         refine wq_ev (wg F rfl rfl rfl rfl hc2) (ev_fieldAddr' tu54 tf54_0 (z := 0) ts9 rfl (elemO_ptr h10 hy7) addP_zero) F rfl rfl ?_; clear F a; intro a F
         obtain ⟨cs5, hr7, hq1⟩ := elemO h10 hy7
         obtain ⟨v11, rfl, h12⟩ := rep_Row hr7
         refine wq_ev (wg F rfl rfl rfl rfl hc2) (ev_load1 tu9 rfl rfl (fun w s => addP_zero ▸ fieldP (cells := [.string y7.Key]) 0 (hq1 _ _ 0 rfl w s) rfl (lb rfl))) F rfl rfl ?_; clear F a; intro a F
         refine wq_ev (wg F rfl rfl rfl rfl hc2) (ev_str rfl rfl (bs_lss _ _ _)) F rfl rfl ?_; clear F a; intro a F
         refine wq_ev (wn rfl) (ev_pickT rfl hc2 rfl) F rfl rfl ?_; clear F a; intro a F
         obtain rfl := sinj hm
         refine wq_nil ?_; exact F.sub ⟨rfl, rfl, rfl, rfl, rfl, trivial⟩
        ·refine wq_skip rfl rfl rfl rfl (ne_tf hc2) F rfl rfl ?_; clear F a; intro a F
         refine wq_skip rfl rfl rfl rfl (ne_tf hc2) F rfl rfl ?_; clear F a; intro a F
         refine wq_skip rfl rfl rfl rfl (ne_tf hc2) F rfl rfl ?_; clear F a; intro a F
         refine wq_skip rfl rfl rfl rfl (ne_tf hc2) F rfl rfl ?_; clear F a; intro a F
         refine wq_skip rfl rfl rfl rfl (ne_tf hc2) F rfl rfl ?_; clear F a; intro a F
         refine wq_skip rfl rfl rfl rfl (ne_tf hc2) F rfl rfl ?_; clear F a; intro a F
         refine wq_skip rfl rfl rfl rfl (ne_tf hc2) F rfl rfl ?_; clear F a; intro a F
         refine wq_skip rfl rfl rfl rfl (ne_tf hc2) F rfl rfl ?_; clear F a; intro a F
         refine wq_skip rfl rfl rfl rfl (ne_tf hc2) F rfl rfl ?_; clear F a; intro a F
         refine wq_skip rfl rfl rfl rfl (ne_tf hc2) F rfl rfl ?_; clear F a; intro a F
         refine wq_skip rfl rfl rfl rfl (ne_tf hc2) F rfl rfl ?_; clear F a; intro a F
         refine wq_skip rfl rfl rfl rfl (ne_tf hc2) F rfl rfl ?_; clear F a; intro a F
         refine wq_ev (wn rfl) (ev_pickF rfl hc2 rfl) F rfl rfl ?_; clear F a; intro a F
         obtain rfl := sinj hm
         refine wq_nil ?_; exact F.sub ⟨rfl, rfl, rfl, rfl, rfl, trivial⟩
       clear F; intro a F
       refine wq_nil ?_; clear S; intro w S
       refine then_n ?_
       obtain ⟨hc3, hm⟩ | ⟨hc3, hm⟩ := ite_or hm
       ·refine wp_condT F rfl hc3 ?_
        refine wp_skip ?_
        refine then_n ?_
        refine wp_block ?_
        refine wp_seq ?_
        refine wp_region_lit ?_
        refine wE (ev_move rfl) F S rfl fun a F=>?_
        refine wE (ev_move rfl) F S rfl fun a F=>?_
        refine wE (ev_move rfl) F S rfl fun a F=>?_
        refine wE (ev_move rfl) F S rfl fun a F=>?_
        obtain ⟨z3, hz3, hm⟩ := bind_some hm
        refine wE (ev_int rfl rfl (bo_sub hz3)) F S rfl fun a F=>?_
        obtain ⟨y8, hy8, hm⟩ := bind_some hm
        refine wE (ev_idxO h10 hy8 tu23 ts54 rfl rfl) F S rfl fun a F=>?_
        obtain ⟨cs6, hr8, hq2⟩ := elemO h10 hy8
        obtain ⟨v12, rfl, h13⟩ := rep_Row hr8
        refine wE (ev_loadA tu54 rfl (cs := [.string y8.Key, v12]) ts54 rfl (hq2 _ _ 0 rfl)) F S rfl fun a F=>?_
        obtain ⟨y9, hy9, hm⟩ := bind_some hm
        refine wE (ev_idxO h10 hy9 tu23 ts54 rfl rfl) F S rfl fun a F=>?_
        obtain ⟨y10, hy10, hm⟩ := bind_some hm
        refine wl_storeW (z' := y8) (wn rfl) rfl F S h10 hy9 rfl rfl (us := [.string y8.Key, v12]) rfl ts54 (one_cons rfl (one_cons h13.one one_nil)) (k := 0) rfl rfl (rep_Row_mk (x := y8) h13) rfl ?_; clear S
        rintro c9 w h14 S; replace S : St g5 [c9] fr w := S; replace h14 : OwnS g5 y10 v9 c9 := sinj hy10 ▸ h14
        replace F := F.sub (e' := [(44, elemP v9 x9 2), (43, .agg #[.string y8.Key, v12]), (41, .i6 z3), (40, .i6 x9), (39, v9), (38, .i6 x9), (37, v9), (36, .bool x11), (3, v9), (5, .i6 x9), (4, .i6 x2), (0, vl_1)]) ⟨rfl, rfl, rfl, rfl, rfl, rfl, rfl, rfl, rfl, rfl, rfl, rfl, trivial⟩
        refine wpList_nil ?_
        refine then_n ?_
        refine wp_region_lit ?_
        refine wE (ev_move rfl) F S rfl fun a F=>?_
        obtain ⟨z4, hz4, hm⟩ := bind_some hm
        refine wE (ev_int rfl rfl (bo_sub hz4)) F S rfl fun a F=>?_
        refine wE (ev_assign rfl) F S rfl fun a F=>?_
        refine wpList_nil ?_
        refine inb_n ?_
        refine then_n ?_
        obtain rfl := sinj hm
        refine ⟨_, rfl, ?_⟩
        dsimp only
        exact ⟨v9, c9, g5, F.sub ⟨rfl, rfl, rfl, rfl, trivial⟩, l5, S, h14⟩
       ·refine wp_condF F rfl hc3 ?_
        refine wp_exit ?_
        refine then_e ?_
        refine then_e ?_
        refine inb_x ?_
        refine then_n ?_
        obtain rfl := sinj hm
        obtain rfl := hfin2 _ rfl
        clear hm
        have hm : (changeforgeref2_ordered.j3 l_ x2 x8 x9 : Option (Step (Int × (List Row)) (List Row))) = some _ := hmo2
        exact ⟨x8, x9, v9, c8, g5, F.sub ⟨rfl, rfl, rfl, rfl, trivial⟩, l5, S, h10, hm⟩
     ·clear F S hm; rintro a w ⟨x6, x7, v7, c6, g4, F, l4, S, h7, hm⟩
      refine wp_region_lit ?_
      refine wE (ev_move rfl) F S rfl fun a F=>?_
      refine wE (ev_move rfl) F S rfl fun a F=>?_
      refine wE (ev_move rfl) F S rfl fun a F=>?_
      refine wE (ev_move rfl) F S rfl fun a F=>?_
      obtain ⟨y3, hy3, hm⟩ := bind_some hm
      obtain ⟨cs3, hr4, hp2⟩ := elemS (hl_1.mono (l2.trans l4)) hy3
      obtain ⟨v8, rfl, h8⟩ := rep_Row hr4
      refine wE (ev_idxS (hl_1.mono (l2.trans l4)) hy3 tu23 ts54 rfl rfl) F S rfl fun a F=>?_
      refine wE (ev_loadA tu54 rfl (cs := [.string y3.Key, v8]) ts54 rfl (ptr_mono (cks := [c6]) (fr := fr) hp2 (Le.refl _))) F S rfl fun a F=>?_
      obtain ⟨y4, hy4, hm⟩ := bind_some hm
      refine wE (ev_idxO h7 hy4 tu23 ts54 rfl rfl) F S rfl fun a F=>?_
      obtain ⟨y5, hy5, hm⟩ := bind_some hm
      refine wl_storeW (z' := y3) (wn rfl) rfl F S h7 hy4 rfl rfl (us := [.string y3.Key, v8]) rfl ts54 (one_cons rfl (one_cons h8.one one_nil)) (k := 0) rfl rfl (rep_Row_mk (x := y3) h8) rfl ?_; clear S
      rintro c7 w h9 S; replace S : St g4 [c7] fr w := S; replace h9 : OwnS g4 y5 v7 c7 := sinj hy5 ▸ h9
      refine wpList_nil ?_
      refine inb_n ?_
      refine then_n ?_
      exact ⟨y5, v7, c7, g4, F.sub ⟨rfl, rfl, rfl, trivial⟩, l4, S, h9, hm⟩
    ·clear F S hm; rintro a w ⟨x5, v3, c3, g3, F, l3, S, h3, hm⟩
     refine wp_region_lit ?_
     refine wE (ev_move rfl) F S rfl fun a F=>?_
     obtain ⟨z1, hz1, hm⟩ := bind_some hm
     refine wE (ev_int rfl rfl (bo_add hz1)) F S rfl fun a F=>?_
     refine wE (ev_assign rfl) F S rfl fun a F=>?_
     refine wpList_nil ?_
     refine then_n ?_
     obtain rfl := sinj hm
     refine ⟨_, rfl, ?_⟩
     dsimp only
     exact ⟨v3, c3, g3, F.sub ⟨rfl, rfl, rfl, trivial⟩, (l2.trans l3), S, h3⟩
   ·refine wp_condF F rfl hc1 ?_
    refine wp_exit ?_
    refine then_e ?_
    refine then_e ?_
    refine inb_x ?_
    refine then_n ?_
    obtain rfl := sinj hm
    obtain rfl := hfin1 _ rfl
    clear hm
    have hm : (changeforgeref2_ordered.j1 x3 : Option (List Row)) = some _ := hmo1
    exact ⟨x3, v2, c2, g2, F.sub ⟨rfl, trivial⟩, l2, S, h2, hm⟩
 ·clear F S hm; rintro a w ⟨x1, v1, c1, g1, F, l1, S, h1, hm⟩
  refine wp_seq ?_
  refine wp_region_lit ?_
  refine wE (ev_move rfl) F S rfl fun a F=>?_
  refine wE (ev_assign rfl) F S rfl fun a F=>?_
  refine wpList_nil ?_
  refine then_n ?_
  refine wp_ret ?_
  obtain rfl := sinj hm
  refine post_r _ F rfl (ar_cons (resT rfl) ar_nil) ?_
  exact ⟨_, rfl, g1, v1, c1, l1, S, h1, rfl⟩

theorem changeforgeref2_cellChange_ok {g : Gh} {fr : Hl} {w : World} {r : (List Row) × Int} (rows : (List Row)) (vrows1 : Value) (hrows1 : RepSl g rows vrows1) (x_ : CellChange) (vx_1 : Value) (hx_1 : RepSl g x_.Old vx_1) (vx_2 : Value) (hx_2 : RepSl g x_.New vx_2) (S : St g [] fr w) (hm : changeforgeref2_cellChange rows x_ = some r) :
  Calls Try.prog 42 [vrows1, .agg #[.string x_.Key, .i6 x_.Column, vx_1, vx_2]].toArray w (fun en w' => ∃ v, en = .returned v ∧ ∃ (g' : Gh) (v1 : Value) (c1 : Hl), Le g g' ∧ St g' [c1] fr w' ∧ OwnS g' r.1 v1 c1 ∧ .tuple #[v1, .i6 r.2] = v) := by
 unfold changeforgeref2_cellChange at hm
 refine calls_enter (fn := Try.f42) Try.func42 rfl Try.ntmps42 (lb rfl) ?_
 intro a F
 replace F : Fr 99 a [(0, vrows1), (1, .agg #[.string x_.Key, .i6 x_.Column, vx_1, vx_2])] := F
 refine wp_seq ?_
 refine wp_region_lit ?_
 refine wl_boxC (wn rfl) rfl rfl rfl F S rfl rfl ?_; clear F a S; rintro b1 a w F S
 refine wE (ev_assign rfl) F S rfl fun a F=>?_
 refine wE (ev_assign rfl) F S rfl fun a F=>?_
 refine wpList_nil ?_
 refine then_n ?_
 refine wp_seq ?_
 refine wp_region_lit ?_
 refine wE (ev_move rfl) F S rfl fun a F=>?_
 refine wE (ev_build (parts := [(1, .tmp 10)]) (vs := [(1, vrows1)]) rfl (fun w => tb25_1 vrows1 (RepSl.isSl hrows1) w)) F S rfl fun a F=>?_
 refine wE (ev_fieldAddr' tu36 tf36_0 (z := 0) ts9 rfl ⟨_, rfl⟩ rfl) F S rfl fun a F=>?_
 refine wE (ev_load1 tu9 rfl rfl (box_ptr (cells := [.string x_.Key]) 0 rfl 0 rfl (lb rfl))) F S rfl fun a F=>?_
 obtain ⟨y1, hy1, hm⟩ := bind_some hm
 refine wl_call0 (wn rfl) rfl F rfl (changeforgeref2_RowAt_ok (fr := (fl [[bx b1 #[.string x_.Key, .i6 x_.Column, vx_1, vx_2] 36]] fr)) ({ Columns := [], Rows := rows } : Table) (nilS) (RepSl.nil _) vrows1 hrows1 x_.Key S hy1) rfl tc48 rfl rfl ?_; clear F a S
 rintro _ a w ⟨g1, l1, S, rfl⟩ F; replace S : St g1 [[bx b1 #[.string x_.Key, .i6 x_.Column, vx_1, vx_2] 36]] fr w := S
 refine wE (ev_assign rfl) F S rfl fun a F=>?_
 refine wpList_nil ?_
 refine then_n ?_
 refine wp_seq ?_
 refine wp_seq ?_
 refine wp_region_lit ?_
 refine wE (ev_fieldAddr' tu36 tf36_1 (z := 0) ts3 rfl ⟨_, rfl⟩ rfl) F S rfl fun a F=>?_
 refine wE (ev_load1 tu3 rfl rfl (box_ptr (cells := [.i6 x_.Column]) 0 rfl 1 rfl (lb rfl))) F S rfl fun a F=>?_
 refine wE (ev_int rfl rfl (bo_eql _ _ _ _)) F S rfl fun a F=>?_
 refine wE (ev_move rfl) F S rfl fun a F=>?_
 obtain ⟨x1, hx1, hm⟩ := bind_some hm
 refine wl_cut 5 (fun a w' => w = w' ∧ Fr 99 a [(23, .bool x1), (6, .i6 y1), (3, bp b1 0), (0, vrows1)]) ?_ ?_
 ·clear hm; obtain ⟨hc1, hm⟩ | ⟨hc1, hm⟩ := ite_or hx1
  ·refine wl_ev (wg F rfl rfl rfl rfl hc1) (ev_fieldAddr' tu36 tf36_2 (z := 0) ts22 rfl ⟨_, rfl⟩ rfl) F S rfl rfl ?_; clear F a; intro a F
   refine wl_ev (wg F rfl rfl rfl rfl hc1) (ev_load1 tu22 rfl rfl (box_ptr (cells := [vx_1]) 0 rfl 2 rfl (lb rfl))) F S rfl rfl ?_; clear F a; intro a F
   refine wl_ev (wg F rfl rfl rfl rfl hc1) (ev_lenSh hx_1 rfl tu22) F S rfl rfl ?_; clear F a; intro a F
   refine wl_ev (wg F rfl rfl rfl rfl hc1) (ev_int rfl rfl (bo_eql _ _ _ _)) F S rfl rfl ?_; clear F a; intro a F
   refine wE (ev_pickT rfl hc1 rfl) F S rfl fun a F=>?_
   obtain rfl := sinj hm
   refine wpList_nil (then_n ?_); exact ⟨rfl, F.sub ⟨rfl, rfl, rfl, rfl, trivial⟩⟩
  ·refine wl_skip rfl rfl rfl rfl (ne_tf hc1) F rfl rfl ?_; clear F a; intro a F
   refine wl_skip rfl rfl rfl rfl (ne_tf hc1) F rfl rfl ?_; clear F a; intro a F
   refine wl_skip rfl rfl rfl rfl (ne_tf hc1) F rfl rfl ?_; clear F a; intro a F
   refine wl_skip rfl rfl rfl rfl (ne_tf hc1) F rfl rfl ?_; clear F a; intro a F
   refine wE (ev_pickF rfl hc1 rfl) F S rfl fun a F=>?_
   obtain rfl := sinj hm
   refine wpList_nil (then_n ?_); exact ⟨rfl, F.sub ⟨rfl, rfl, rfl, rfl, trivial⟩⟩
 clear F; rintro a w' ⟨rfl, F⟩
 refine wpList_nil ?_
 refine then_n ?_
 obtain ⟨hc2, hm⟩ | ⟨hc2, hm⟩ := ite_or hm
 ·refine wp_condT F rfl hc2 ?_
  refine wp_seq ?_
  refine wp_seq ?_
  refine wp_region_lit ?_
  refine wE (ev_move rfl) F S rfl fun a F=>?_
  refine wE (ev_int rfl rfl (bo_geq _ _ _ _)) F S rfl fun a F=>?_
  refine wpList_nil ?_
  refine then_n ?_
  obtain ⟨hc3, hm⟩ | ⟨hc3, hm⟩ := ite_or hm
  ·refine wp_condT F rfl hc3 ?_
   refine wp_seq ?_
   refine wp_region_lit ?_
   refine wE (ev_assign rfl) F S rfl fun a F=>?_
   refine wE (ev_assign rfl) F S rfl fun a F=>?_
   refine wpList_nil ?_
   refine then_n ?_
   refine wp_ret ?_
   refine then_r ?_
   refine then_r ?_
   obtain rfl := sinj hm
   replace S : St g1 [[], [bx b1 #[.string x_.Key, .i6 x_.Column, vx_1, vx_2] 36]] fr w := S
   refine post_r _ F rfl (ar_cons (resT rfl) (ar_cons (resT rfl) ar_nil)) ?_
   replace S : St g1 [[]] fr w := St.tail [[]] _ (S.frontC 0 rfl)
   exact ⟨_, rfl, g1, (nilS), [], l1, S, (OwnS.nil _), rfl⟩
  ·refine wp_condF F rfl hc3 ?_
   refine wp_skip ?_
   refine then_n ?_
   refine wp_seq ?_
   refine wp_seq ?_
   refine wp_region_lit ?_
   refine wE (ev_move rfl) F S rfl fun a F=>?_
   refine wE (ev_lenSh hrows1 rfl tu23) F S rfl fun a F=>?_
   refine wE (ev_int rfl rfl (bo_geq _ _ _ _)) F S rfl fun a F=>?_
   refine wpList_nil ?_
   refine then_n ?_
   obtain ⟨hc4, hm⟩ | ⟨hc4, hm⟩ := ite_or hm
   ·refine wp_condT F rfl hc4 ?_
    refine wp_seq ?_
    refine wp_region_lit ?_
    refine wE (ev_assign rfl) F S rfl fun a F=>?_
    refine wE (ev_assign rfl) F S rfl fun a F=>?_
    refine wpList_nil ?_
    refine then_n ?_
    refine wp_ret ?_
    refine then_r ?_
    refine then_r ?_
    obtain rfl := sinj hm
    replace S : St g1 [[], [bx b1 #[.string x_.Key, .i6 x_.Column, vx_1, vx_2] 36]] fr w := S
    refine post_r _ F rfl (ar_cons (resT rfl) (ar_cons (resT rfl) ar_nil)) ?_
    replace S : St g1 [[]] fr w := St.tail [[]] _ (S.frontC 0 rfl)
    exact ⟨_, rfl, g1, (nilS), [], l1, S, (OwnS.nil _), rfl⟩
   ·refine wp_condF F rfl hc4 ?_
    refine wp_skip ?_
    refine then_n ?_
    refine wp_seq ?_
    refine wp_dv [] mo S ?_; clear S; intro ok1 w S
    refine dv_et ok1 1 rfl (ev_move rfl) F rfl fun a F=>?_
    refine dv_et ok1 3 rfl (ev_fieldAddr' tu36 tf36_0 (z := 0) ts9 rfl ⟨_, rfl⟩ rfl) F rfl fun a F=>?_
    refine dv_ev ok1 4 rfl (ev_load1 tu9 rfl rfl (box_ptr (cells := [.string x_.Key]) 0 rfl 0 rfl (lb rfl))) F S rfl fun a F=>?_
    refine dv_et ok1 5 rfl (ev_fieldAddr' tu36 tf36_3 (z := 0) ts22 rfl ⟨_, rfl⟩ rfl) F rfl fun a F=>?_
    refine dv_ev ok1 6 rfl (ev_load1 tu22 rfl rfl (box_ptr (cells := [vx_2]) 0 rfl 3 rfl (lb rfl))) F S rfl fun a F=>?_
    refine dv_et ok1 7 rfl (ev_build (parts := [(0, .tmp 33), (1, .tmp 35)]) (vs := [(0, .string x_.Key), (1, vx_2)]) rfl (fun w => tb54_0_1 x_.Key vx_2 (RepSl.isSl hx_2) w)) F rfl fun a F=>?_
    obtain ⟨y2, hy2, hm⟩ := bind_some hm
    refine dv_cut [1, 3, 4, 5, 6, 7, 0, 2, 8] [] (fun a w => ∃ (x2 : List Row) (v4 v5 : Value) (c4 c5 : Hl) (g2 : Gh), Fr 99 a [(37, v4), (31, v5)] ∧ Le g1 g2 ∧ St g2 [c4, c5] fr w ∧ OwnS g2 x2 v4 c4 ∧ OwnS g2 y2 v5 c5 ∧ changeforgeref2_cellChange.j1 y2 x2 = some r) ?_ ?_
    ·intro HJ
     refine dv_fork ok1 0 [8] (fk 0 rfl [(6, vx_2), (4, .string x_.Key)] ?_ (fk 8 rfl [] ?_ trivial))
     ·refine wl_lit (l := ([] : List Row)) (vs := []) (parts := []) (wn rfl) rfl rfl rfl tu23 te54 sz_nil rfl (Cat.nil _) coa_nil rfl F S rfl rfl ?_; clear F a S
      rintro v1 c1 a w h1 F S
      refine dv_nx ⟨yl_ev rfl rfl (ev_load1 tu22 rfl rfl (box_ptr (cells := [vx_2]) 1 rfl 3 rfl (lb rfl))) F S, yl_ev rfl rfl (ev_load1 tu9 rfl rfl (box_ptr (cells := [.string x_.Key]) 1 rfl 0 rfl (lb rfl))) F S, trivial⟩ ?_
      refine dv_fork ok1 2 [8] (fk 2 rfl [(6, vx_2), (4, .string x_.Key)] ?_ (fk 8 rfl [] ?_ trivial))
      ·obtain ⟨cs1, hk1, hr1⟩ := RepSl.reads (hrows1.mono l1)
       refine wl_append (wn rfl) rfl tu23 tu23 te54 (by decide) (by decide) F S rfl rfl (k := 0) rfl h1 hk1 rfl (hr1 _ _ S) hy2 rfl rfl ?_; clear F a S
       rintro v2 c2 a w h2 S F; replace S : St g1 [c2, [bx b1 #[.string x_.Key, .i6 x_.Column, vx_1, vx_2] 36]] fr w := S
       refine dv_nx ⟨yl_ev rfl rfl (ev_load1 tu22 rfl rfl (box_ptr (cells := [vx_2]) 1 rfl 3 rfl (lb rfl))) F S, yl_ev rfl rfl (ev_load1 tu9 rfl rfl (box_ptr (cells := [.string x_.Key]) 1 rfl 0 rfl (lb rfl))) F S, trivial⟩ ?_
       refine dv_op ok1 8 rfl [] ?_
       refine wl_lit (l := ([({ Key := x_.Key, Cells := x_.New } : Row)] : List Row)) (vs := [.agg #[.string x_.Key, vx_2]]) (parts := [(0, .tmp 36)]) (wn rfl) rfl rfl rfl tu23 te54 (sz_cons rfl sz_nil) rfl (Cat.cons (rep_Row_mk (x := ({ Key := x_.Key, Cells := x_.New } : Row)) (hx_2.mono l1)) (Cat.nil _)) (coa_cons rfl coa_nil) rfl F S rfl rfl ?_; clear F a S
       rintro v3 c3 a w h3 F S
       refine dv_nx trivial ?_
       refine dv_join (HJ _ _ ?_)
       replace S : St g1 [c3, c2] fr w := St.tail [c3, c2] _ ((S.frontC 1 rfl).frontC 1 rfl)
       exact ⟨([({ Key := x_.Key, Cells := x_.New } : Row)] : List Row), v3, v2, c3, c2, g1, F.sub ⟨rfl, rfl, trivial⟩, (Le.refl _), S, h3, h2, hm⟩
      ·refine wl_lit (l := ([({ Key := x_.Key, Cells := x_.New } : Row)] : List Row)) (vs := [.agg #[.string x_.Key, vx_2]]) (parts := [(0, .tmp 36)]) (wn rfl) rfl rfl rfl tu23 te54 (sz_cons rfl sz_nil) rfl (Cat.cons (rep_Row_mk (x := ({ Key := x_.Key, Cells := x_.New } : Row)) (hx_2.mono l1)) (Cat.nil _)) (coa_cons rfl coa_nil) rfl F S rfl rfl ?_; clear F a S
       rintro v3 c3 a w h3 F S
       refine dv_nx trivial ?_
       refine dv_op ok1 2 rfl [] ?_
       obtain ⟨cs1, hk1, hr1⟩ := RepSl.reads (hrows1.mono l1)
       refine wl_append (wn rfl) rfl tu23 tu23 te54 (by decide) (by decide) F S rfl rfl (k := 1) rfl h1 hk1 rfl (hr1 _ _ S) hy2 rfl rfl ?_; clear F a S
       rintro v2 c2 a w h2 S F; replace S : St g1 [c3, c2, [bx b1 #[.string x_.Key, .i6 x_.Column, vx_1, vx_2] 36]] fr w := S
       refine dv_nx trivial ?_
       refine dv_join (HJ _ _ ?_)
       replace S : St g1 [c3, c2] fr w := St.tail [c3, c2] _ ((S.frontC 1 rfl).frontC 1 rfl)
       exact ⟨([({ Key := x_.Key, Cells := x_.New } : Row)] : List Row), v3, v2, c3, c2, g1, F.sub ⟨rfl, rfl, trivial⟩, (Le.refl _), S, h3, h2, hm⟩
     ·refine wl_lit (l := ([({ Key := x_.Key, Cells := x_.New } : Row)] : List Row)) (vs := [.agg #[.string x_.Key, vx_2]]) (parts := [(0, .tmp 36)]) (wn rfl) rfl rfl rfl tu23 te54 (sz_cons rfl sz_nil) rfl (Cat.cons (rep_Row_mk (x := ({ Key := x_.Key, Cells := x_.New } : Row)) (hx_2.mono l1)) (Cat.nil _)) (coa_cons rfl coa_nil) rfl F S rfl rfl ?_; clear F a S
      rintro v3 c3 a w h3 F S
      refine dv_nx trivial ?_
      refine dv_op ok1 0 rfl [] ?_
      refine wl_lit (l := ([] : List Row)) (vs := []) (parts := []) (wn rfl) rfl rfl rfl tu23 te54 sz_nil rfl (Cat.nil _) coa_nil rfl F S rfl rfl ?_; clear F a S
      rintro v1 c1 a w h1 F S
      refine dv_nx trivial ?_
      refine dv_op ok1 2 rfl [] ?_
      obtain ⟨cs1, hk1, hr1⟩ := RepSl.reads (hrows1.mono l1)
      refine wl_append (wn rfl) rfl tu23 tu23 te54 (by decide) (by decide) F S rfl rfl (k := 0) rfl h1 hk1 rfl (hr1 _ _ S) hy2 rfl rfl ?_; clear F a S
      rintro v2 c2 a w h2 S F; replace S : St g1 [c2, c3, [bx b1 #[.string x_.Key, .i6 x_.Column, vx_1, vx_2] 36]] fr w := S
      refine dv_nx trivial ?_
      refine dv_join (HJ _ _ ?_)
      replace S : St g1 [c3, c2] fr w := St.tail [c3, c2] _ ((S.frontC 0 rfl).frontC 2 rfl)
      exact ⟨([({ Key := x_.Key, Cells := x_.New } : Row)] : List Row), v3, v2, c3, c2, g1, F.sub ⟨rfl, rfl, trivial⟩, (Le.refl _), S, h3, h2, hm⟩
    ·clear F S hm; rintro a w ⟨x2, v4, v5, c4, c5, g2, F, l2, S, h4, h5, hm⟩
     refine dv_op ok1 9 rfl [] ?_
     obtain ⟨cs2, hk2, hr2⟩ := OwnS.reads h4
     obtain ⟨y3, hy3, hm⟩ := bind_some hm
     refine wl_append (wn rfl) rfl tu23 tu23 te54 (by decide) (by decide) F S rfl rfl (k := 1) rfl h5 hk2 rfl (hr2 _ _ _ 0 rfl S) hy3 rfl rfl ?_; clear F a S
     rintro v6 c6 a w h6 S F; replace S : St g2 [c4, c6] fr w := S
     refine dv_nx trivial ?_
     refine dv_op ok1 10 rfl [] ?_
     obtain ⟨g3, l3, S, h7⟩ : ∃ gz, Le g2 gz ∧ St gz [c4] fr w ∧ RepSl gz y3 v6 := ⟨_, Le.add _ _, S.freeze 1 rfl, OwnS.freeze (S.front 1 rfl) h6⟩
     obtain ⟨y4, hy4, hm⟩ := bind_some hm
     refine wl_call0 (wn rfl) rfl F rfl (changeforgeref2_ordered_ok (fr := (fl [c4] fr)) y3 v6 h7 S hy4) rfl tc54 rfl rfl ?_; clear F a S
     rintro _ a w ⟨g4, v7, c7, l4, S, h8, rfl⟩ F; replace S : St g4 [c7, c4] fr w := S
     refine dv_nx trivial ?_
     refine dv_et ok1 11 rfl (ev_assign rfl) F rfl fun a F=>?_
     refine dv_et ok1 12 rfl (ev_assign rfl) F rfl fun a F=>?_
     refine dv_fin ok1 ?_
     refine then_n ?_
     refine wp_ret ?_
     refine then_r ?_
     obtain rfl := sinj hm
     refine post_r _ F rfl (ar_cons (resT rfl) (ar_cons (resT rfl) ar_nil)) ?_
     replace S : St g4 [c7] fr w := St.tail [c7] _ (S.frontC 0 rfl)
     exact ⟨_, rfl, g4, v7, c7, (((l1.trans l2).trans l3).trans l4), S, h8, rfl⟩
 ·refine wp_condF F rfl hc2 ?_
  refine wp_skip ?_
  refine then_n ?_
  refine wp_seq ?_
  refine wp_seq ?_
  refine wp_region_lit ?_
  refine wE (ev_move rfl) F S rfl fun a F=>?_
  refine wE (ev_int rfl rfl (bo_lss _ _ _ _)) F S rfl fun a F=>?_
  refine wpList_nil ?_
  refine then_n ?_
  obtain ⟨hc5, hm⟩ | ⟨hc5, hm⟩ := ite_or hm
  ·refine wp_condT F rfl hc5 ?_
   refine wp_seq ?_
   refine wp_region_lit ?_
   refine wE (ev_assign rfl) F S rfl fun a F=>?_
   refine wE (ev_assign rfl) F S rfl fun a F=>?_
   refine wpList_nil ?_
   refine then_n ?_
   refine wp_ret ?_
   refine then_r ?_
   obtain rfl := sinj hm
   replace S : St g1 [[], [bx b1 #[.string x_.Key, .i6 x_.Column, vx_1, vx_2] 36]] fr w := S
   refine post_r _ F rfl (ar_cons (resT rfl) (ar_cons (resT rfl) ar_nil)) ?_
   replace S : St g1 [[]] fr w := St.tail [[]] _ (S.frontC 0 rfl)
   exact ⟨_, rfl, g1, (nilS), [], l1, S, (OwnS.nil _), rfl⟩
  ·refine wp_condF F rfl hc5 ?_
   refine wp_skip ?_
   refine then_n ?_
   refine wp_seq ?_
   refine wp_region_lit ?_
   refine wl_lit (l := ([] : List Row)) (vs := []) (parts := []) (wn rfl) rfl rfl rfl tu23 te54 sz_nil rfl (Cat.nil _) coa_nil rfl F S rfl rfl ?_; clear F a S
   rintro v8 c8 a w h9 F S
   refine wE (ev_move rfl) F S rfl fun a F=>?_
   refine wE (ev_move rfl) F S rfl fun a F=>?_
   obtain ⟨y5, hy5, hm⟩ := bind_some hm
   refine wl_cutS (wn rfl) rfl (hrows1.mono l1) hy5 tu23 ts54 rfl (bnd0 _) (bndV rfl) F rfl rfl ?_; clear F a; rintro v9 h10 a F
   obtain ⟨cs3, hk3, hr3⟩ := RepSl.reads h10
   obtain ⟨y6, hy6, hm⟩ := bind_some hm
   refine wl_append (wn rfl) rfl tu23 tu23 te54 (by decide) (by decide) F S rfl rfl (k := 0) rfl h9 hk3 rfl (hr3 _ _ S) hy6 rfl rfl ?_; clear F a S
   rintro v10 c9 a w h11 S F; replace S : St g1 [c9, [bx b1 #[.string x_.Key, .i6 x_.Column, vx_1, vx_2] 36]] fr w := S
   refine wE (ev_assign rfl) F S rfl fun a F=>?_
   refine wpList_nil ?_
   refine then_n ?_
   refine wp_seq ?_
   refine wp_region_lit ?_
   refine wE (ev_move rfl) F S rfl fun a F=>?_
   refine wE (ev_move rfl) F S rfl fun a F=>?_
   obtain ⟨y7, hy7, hm⟩ := bind_some hm
   obtain ⟨cs4, hr4, hp1⟩ := elemS (hrows1.mono l1) hy7
   obtain ⟨v11, rfl, h12⟩ := rep_Row hr4
   refine wE (ev_idxS (hrows1.mono l1) hy7 tu23 ts54 rfl rfl) F S rfl fun a F=>?_
   have hp2 := PtrC.field hp1 1 1 (lb rfl)
   have hp2 : PtrC g1 (addP (elemP vrows1 y1 2) 1) [v11] := hp2
   refine wE (ev_fieldAddr' tu54 tf54_1 (z := 0) ts22 rfl hp1.ptr rfl) F S rfl fun a F=>?_
   refine wE (ev_load1 tu22 rfl rfl (ptr_mono (cks := [c9, [bx b1 #[.string x_.Key, .i6 x_.Column, vx_1, vx_2] 36]]) (fr := fr) hp2 (Le.refl _))) F S rfl fun a F=>?_
   refine wE (ev_assign rfl) F S rfl fun a F=>?_
   refine wpList_nil ?_
   refine then_n ?_
   refine wp_seq ?_
   refine wp_seq ?_
   refine wp_region_lit ?_
   refine wE (ev_fieldAddr' tu36 tf36_1 (z := 0) ts3 rfl ⟨_, rfl⟩ rfl) F S rfl fun a F=>?_
   refine wE (ev_load1 tu3 rfl rfl (box_ptr (cells := [.i6 x_.Column]) 1 rfl 1 rfl (lb rfl))) F S rfl fun a F=>?_
   refine wE (ev_int rfl rfl (bo_eql _ _ _ _)) F S rfl fun a F=>?_
   refine wpList_nil ?_
   refine then_n ?_
   obtain ⟨hc6, hm⟩ | ⟨hc6, hm⟩ := ite_or hm
   ·refine wp_condT F rfl hc6 ?_
    refine wp_seq ?_
    refine wp_seq ?_
    refine wp_region_lit ?_
    refine wE (ev_move rfl) F S rfl fun a F=>?_
    refine wE (ev_fieldAddr' tu36 tf36_2 (z := 0) ts22 rfl ⟨_, rfl⟩ rfl) F S rfl fun a F=>?_
    refine wE (ev_load1 tu22 rfl rfl (box_ptr (cells := [vx_1]) 1 rfl 2 rfl (lb rfl))) F S rfl fun a F=>?_
    obtain ⟨y8, hy8, hm⟩ := bind_some hm
    refine wl_call0 (wn rfl) rfl F rfl (changeforgeref1_Equal_ok (fr := (fl [c9, [bx b1 #[.string x_.Key, .i6 x_.Column, vx_1, vx_2] 36]] fr)) y7.Cells v11 h12 x_.Old vx_1 (hx_1.mono l1) S hy8) rfl tc33 rfl rfl ?_; clear F a S
    rintro _ a w ⟨g5, l5, S, rfl⟩ F; replace S : St g5 [c9, [bx b1 #[.string x_.Key, .i6 x_.Column, vx_1, vx_2] 36]] fr w := S
    refine wE (ev_not rfl) F S rfl fun a F=>?_
    refine wpList_nil ?_
    refine then_n ?_
    obtain ⟨hc7, hm⟩ | ⟨hc7, hm⟩ := ite_or hm
    ·refine wp_condT F rfl hc7 ?_
     refine wp_seq ?_
     refine wp_region_lit ?_
     refine wE (ev_assign rfl) F S rfl fun a F=>?_
     refine wE (ev_assign rfl) F S rfl fun a F=>?_
     refine wpList_nil ?_
     refine then_n ?_
     refine wp_ret ?_
     refine then_r ?_
     refine then_r ?_
     obtain rfl := sinj hm
     replace S : St g5 [[], c9, [bx b1 #[.string x_.Key, .i6 x_.Column, vx_1, vx_2] 36]] fr w := S
     refine post_r _ F rfl (ar_cons (resT rfl) (ar_cons (resT rfl) ar_nil)) ?_
     replace S : St g5 [[]] fr w := St.tail [[]] _ (S.frontC 0 rfl)
     exact ⟨_, rfl, g5, (nilS), [], (l1.trans l5), S, (OwnS.nil _), rfl⟩
    ·refine wp_condF F rfl hc7 ?_
     refine wp_skip ?_
     refine then_n ?_
     refine wp_seq ?_
     refine wp_region_lit ?_
     refine wE (ev_move rfl) F S rfl fun a F=>?_
     refine wE (ev_move rfl) F S rfl fun a F=>?_
     refine wE (ev_move rfl) F S rfl fun a F=>?_
     obtain ⟨z1, hz1, hm⟩ := bind_some hm
     refine wE (ev_int rfl rfl (bo_add hz1)) F S rfl fun a F=>?_
     obtain ⟨y9, hy9, hm⟩ := bind_some hm
     refine wl_cutS (wn rfl) rfl (hrows1.mono (l1.trans l5)) hy9 tu23 ts54 rfl (bndV rfl) (bnd0 _) F rfl rfl ?_; clear F a; rintro v12 h13 a F
     obtain ⟨cs5, hk4, hr5⟩ := RepSl.reads h13
     obtain ⟨y10, hy10, hm⟩ := bind_some hm
     refine wl_append (wn rfl) rfl tu23 tu23 te54 (by decide) (by decide) F S rfl rfl (k := 0) rfl (h11.mono l5) hk4 rfl (hr5 _ _ S) hy10 rfl rfl ?_; clear F a S
     rintro v13 c10 a w h14 S F; replace S : St g5 [c10, [bx b1 #[.string x_.Key, .i6 x_.Column, vx_1, vx_2] 36]] fr w := S
     refine wE (ev_assign rfl) F S rfl fun a F=>?_
     refine wE (ev_assign rfl) F S rfl fun a F=>?_
     refine wpList_nil ?_
     refine then_n ?_
     refine wp_ret ?_
     refine then_r ?_
     obtain rfl := sinj hm
     refine post_r _ F rfl (ar_cons (resT rfl) (ar_cons (resT rfl) ar_nil)) ?_
     replace S : St g5 [c10] fr w := St.tail [c10] _ (S.frontC 0 rfl)
     exact ⟨_, rfl, g5, v13, c10, (l1.trans l5), S, h14, rfl⟩
   ·refine wp_condF F rfl hc6 ?_
    refine wp_skip ?_
    refine then_n ?_
    refine wp_seq ?_
    refine wp_seq ?_
    refine wp_quiet mo (by kernel_rfl) S ?_
    refine wq_ev (wn rfl) (ev_move rfl) F rfl rfl ?_; clear F a; intro a F
    refine wq_ev (wn rfl) (ev_fieldAddr' tu36 tf36_1 (z := 0) ts3 rfl ⟨_, rfl⟩ rfl) F rfl rfl ?_; clear F a; intro a F
    refine wq_ev (wn rfl) (ev_load1 tu3 rfl rfl (box_ptr (cells := [.i6 x_.Column]) 1 rfl 1 rfl (lb rfl))) F rfl rfl ?_; clear F a; intro a F
    obtain ⟨y11, hy11, hm⟩ := bind_some hm
    obtain ⟨cs6, hr6, hp3⟩ := elemS h12 hy11
    obtain rfl := rep_str hr6
    refine wq_ev (wn rfl) (ev_idxS h12 hy11 tu22 ts9 rfl rfl) F rfl rfl ?_; clear F a; intro a F
    refine wq_ev (wn rfl) (ev_load1 tu9 rfl rfl (ptr_mono (cks := [c9, [bx b1 #[.string x_.Key, .i6 x_.Column, vx_1, vx_2] 36]]) (fr := fr) hp3 (Le.refl _))) F rfl rfl ?_; clear F a; intro a F
    refine wq_ev (wn rfl) (ev_fieldAddr' tu36 tf36_2 (z := 0) ts22 rfl ⟨_, rfl⟩ rfl) F rfl rfl ?_; clear F a; intro a F
    refine wq_ev (wn rfl) (ev_load1 tu22 rfl rfl (box_ptr (cells := [vx_1]) 1 rfl 2 rfl (lb rfl))) F rfl rfl ?_; clear F a; intro a F
    obtain ⟨y12, hy12, hm⟩ := bind_some hm
    obtain ⟨cs7, hr7, hp4⟩ := elemS (hx_1.mono l1) hy12
    obtain rfl := rep_str hr7
    refine wq_ev (wn rfl) (ev_idxS (hx_1.mono l1) hy12 tu22 ts9 rfl rfl) F rfl rfl ?_; clear F a; intro a F
    refine wq_ev (wn rfl) (ev_load1 tu9 rfl rfl (ptr_mono (cks := [c9, [bx b1 #[.string x_.Key, .i6 x_.Column, vx_1, vx_2] 36]]) (fr := fr) hp4 (Le.refl _))) F rfl rfl ?_; clear F a; intro a F
    refine wq_ev (wn rfl) (ev_str rfl rfl (bs_neq _ _ _)) F rfl rfl ?_; clear F a; intro a F
    refine wq_nil ?_; clear S; intro w S
    refine then_n ?_
    obtain ⟨hc8, hm⟩ | ⟨hc8, hm⟩ := ite_or hm
    ·refine wp_condT F rfl hc8 ?_
     refine wp_seq ?_
     refine wp_region_lit ?_
     refine wE (ev_assign rfl) F S rfl fun a F=>?_
     refine wE (ev_assign rfl) F S rfl fun a F=>?_
     refine wpList_nil ?_
     refine then_n ?_
     refine wp_ret ?_
     refine then_r ?_
     obtain rfl := sinj hm
     replace S : St g1 [[], c9, [bx b1 #[.string x_.Key, .i6 x_.Column, vx_1, vx_2] 36]] fr w := S
     refine post_r _ F rfl (ar_cons (resT rfl) (ar_cons (resT rfl) ar_nil)) ?_
     replace S : St g1 [[]] fr w := St.tail [[]] _ (S.frontC 0 rfl)
     exact ⟨_, rfl, g1, (nilS), [], l1, S, (OwnS.nil _), rfl⟩
    ·refine wp_condF F rfl hc8 ?_
     refine wp_skip ?_
     refine then_n ?_
     refine wp_seq ?_
     refine wp_region_lit ?_
     refine wl_lit (l := ([] : List ByteArray)) (vs := []) (parts := []) (wn rfl) rfl rfl rfl tu22 te9 sz_nil rfl (Cat.nil _) coa_nil rfl F S rfl rfl ?_; clear F a S
     rintro v14 c11 a w h15 F S
     refine wE (ev_move rfl) F S rfl fun a F=>?_
     obtain ⟨cs8, hk5, hr8⟩ := RepSl.reads h12
     obtain ⟨y13, hy13, hm⟩ := bind_some hm
     refine wl_append (wn rfl) rfl tu22 tu22 te9 (by decide) (by decide) F S rfl rfl (k := 0) rfl h15 hk5 rfl (hr8 _ _ S) hy13 rfl rfl ?_; clear F a S
     rintro v15 c12 a w h16 S F; replace S : St g1 [c12, c9, [bx b1 #[.string x_.Key, .i6 x_.Column, vx_1, vx_2] 36]] fr w := S
     refine wE (ev_assign rfl) F S rfl fun a F=>?_
     refine wpList_nil ?_
     refine then_n ?_
     refine wp_seq ?_
     refine wp_dv [] mo S ?_; clear S; intro ok2 w S
     refine dv_et ok2 0 rfl (ev_move rfl) F rfl fun a F=>?_
     refine dv_et ok2 1 rfl (ev_fieldAddr' tu36 tf36_1 (z := 0) ts3 rfl ⟨_, rfl⟩ rfl) F rfl fun a F=>?_
     refine dv_ev ok2 2 rfl (ev_load1 tu3 rfl rfl (box_ptr (cells := [.i6 x_.Column]) 2 rfl 1 rfl (lb rfl))) F S rfl fun a F=>?_
     refine dv_et ok2 3 rfl (ev_fieldAddr' tu36 tf36_3 (z := 0) ts22 rfl ⟨_, rfl⟩ rfl) F rfl fun a F=>?_
     refine dv_ev ok2 4 rfl (ev_load1 tu22 rfl rfl (box_ptr (cells := [vx_2]) 2 rfl 3 rfl (lb rfl))) F S rfl fun a F=>?_
     obtain ⟨y14, hy14, hm⟩ := bind_some hm
     obtain ⟨cs9, hr9, hp5⟩ := elemS (hx_2.mono l1) hy14
     obtain rfl := rep_str hr9
     refine dv_et ok2 5 rfl (ev_idxS (hx_2.mono l1) hy14 tu22 ts9 rfl rfl) F rfl fun a F=>?_
     refine dv_ev ok2 6 rfl (ev_load1 tu9 rfl rfl (ptr_mono (cks := [c12, c9, [bx b1 #[.string x_.Key, .i6 x_.Column, vx_1, vx_2] 36]]) (fr := fr) hp5 (Le.refl _))) F S rfl fun a F=>?_
     obtain ⟨y15, hy15, hm⟩ := bind_some hm
     refine dv_et ok2 7 rfl (ev_idxO h16 hy15 tu22 ts9 rfl rfl) F rfl fun a F=>?_
     refine dv_op ok2 8 rfl [] ?_
     obtain ⟨y16, hy16, hm⟩ := bind_some hm
     refine wl_storeW (z' := y14) (wn rfl) rfl F S h16 hy15 rfl rfl (us := [.string y14]) rfl ts9 (one_cons rfl one_nil) (k := 0) rfl rfl (show Rep.rep _ y14 _ from rfl) rfl ?_; clear S
     rintro c13 w h17 S; replace S : St g1 [c13, c9, [bx b1 #[.string x_.Key, .i6 x_.Column, vx_1, vx_2] 36]] fr w := S; replace h17 : OwnS g1 y16 v15 c13 := sinj hy16 ▸ h17
     refine dv_nx trivial ?_
     refine dv_fin ok2 ?_
     replace F := F.sub (e' := [(9, v15), (7, v10), (6, .i6 y1), (3, bp b1 0), (0, vrows1)]) ⟨rfl, rfl, rfl, rfl, rfl, trivial⟩
     refine then_n ?_
     refine wp_seq ?_
     refine wp_dv [] mo S ?_; clear S; intro ok3 w S
     refine dv_et ok3 0 rfl (ev_move rfl) F rfl fun a F=>?_
     refine dv_et ok3 1 rfl (ev_fieldAddr' tu36 tf36_0 (z := 0) ts9 rfl ⟨_, rfl⟩ rfl) F rfl fun a F=>?_
     refine dv_ev ok3 2 rfl (ev_load1 tu9 rfl rfl (box_ptr (cells := [.string x_.Key]) 2 rfl 0 rfl (lb rfl))) F S rfl fun a F=>?_
     refine dv_et ok3 3 rfl (ev_move rfl) F rfl fun a F=>?_
     refine dv_et ok3 4 rfl (ev_build (parts := [(0, .tmp 89), (1, .tmp 90)]) (vs := [(0, .string x_.Key), (1, v15)]) rfl (fun w => tb54_0_1 x_.Key v15 (OwnS.isSl h17) w)) F rfl fun a F=>?_
     refine dv_et ok3 7 rfl (ev_move rfl) F rfl fun a F=>?_
     refine dv_et ok3 8 rfl (ev_move rfl) F rfl fun a F=>?_
     obtain ⟨z2, hz2, hm⟩ := bind_some hm
     refine dv_et ok3 9 rfl (ev_int rfl rfl (bo_add hz2)) F rfl fun a F=>?_
     obtain ⟨y17, hy17, hm⟩ := bind_some hm
     obtain ⟨v16, h18, he1⟩ := ev_cut (P := Try.prog) (n := 99) (e := [(96, .i6 z2), (95, .i6 y1), (94, vrows1), (91, .agg #[.string x_.Key, v15]), (90, v15), (89, .string x_.Key), (88, bp b1 0), (87, v10), (9, v15), (7, v10), (6, .i6 y1), (3, bp b1 0), (0, vrows1)]) (C := fun _ => True) (x := .tmp 94) (lo := some (.tmp 96)) (hi := Option.none) (hrows1.mono l1) hy17 tu23 ts54 rfl (bndV rfl) (bnd0 _)
     refine dv_et ok3 10 rfl he1 F rfl fun a F=>?_
     refine dv_op ok3 5 rfl [] ?_
     obtain ⟨g6, l6, S, h19⟩ : ∃ gz, Le g1 gz ∧ St gz [c9, [bx b1 #[.string x_.Key, .i6 x_.Column, vx_1, vx_2] 36]] fr w ∧ RepSl gz y16 v15 := ⟨_, Le.add _ _, S.freeze 0 rfl, OwnS.freeze (S.front 0 rfl) h17⟩
     refine wl_lit (l := ([({ Key := x_.Key, Cells := y16 } : Row)] : List Row)) (vs := [.agg #[.string x_.Key, v15]]) (parts := [(0, .tmp 91)]) (wn rfl) rfl rfl rfl tu23 te54 (sz_cons rfl sz_nil) rfl (Cat.cons (rep_Row_mk (x := ({ Key := x_.Key, Cells := y16 } : Row)) h19) (Cat.nil _)) (coa_cons rfl coa_nil) rfl F S rfl rfl ?_; clear F a S
     rintro v17 c14 a w h20 F S
     refine dv_nx trivial ?_
     refine dv_op ok3 6 rfl [] ?_
     obtain ⟨cs10, hk6, hr10⟩ := OwnS.reads h20
     obtain ⟨y18, hy18, hm⟩ := bind_some hm
     refine wl_append (wn rfl) rfl tu23 tu23 te54 (by decide) (by decide) F S rfl rfl (k := 1) rfl (h11.mono l6) hk6 rfl (hr10 _ _ _ 0 rfl S) hy18 rfl rfl ?_; clear F a S
     rintro v18 c15 a w h21 S F; replace S : St g6 [c14, c15, [bx b1 #[.string x_.Key, .i6 x_.Column, vx_1, vx_2] 36]] fr w := S
     refine dv_nx trivial ?_
     refine dv_op ok3 11 rfl [] ?_
     obtain ⟨cs11, hk7, hr11⟩ := RepSl.reads (h18.mono l6)
     obtain ⟨y19, hy19, hm⟩ := bind_some hm
     refine wl_append (wn rfl) rfl tu23 tu23 te54 (by decide) (by decide) F S rfl rfl (k := 1) rfl h21 hk7 rfl (hr11 _ _ S) hy19 rfl rfl ?_; clear F a S
     rintro v19 c16 a w h22 S F; replace S : St g6 [c14, c16, [bx b1 #[.string x_.Key, .i6 x_.Column, vx_1, vx_2] 36]] fr w := S
     refine dv_nx trivial ?_
     refine dv_et ok3 12 rfl (ev_assign rfl) F rfl fun a F=>?_
     refine dv_et ok3 13 rfl (ev_assign rfl) F rfl fun a F=>?_
     refine dv_fin ok3 ?_
     refine then_n ?_
     refine wp_ret ?_
     obtain rfl := sinj hm
     refine post_r _ F rfl (ar_cons (resT rfl) (ar_cons (resT rfl) ar_nil)) ?_
     replace S : St g6 [c16] fr w := St.tail [c16] _ (S.frontC 1 rfl)
     exact ⟨_, rfl, g6, v19, c16, (l1.trans l6), S, h22, rfl⟩
end Go.Dc
