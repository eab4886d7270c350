/- Walks: each function comes to what its model says. -/
import Derived.Test.YthknfnjdnclphaaDcTab
import Derived.Test.YthknfnjdnclphaaDcM
import Derived.Test.YthknfnjdnclphaaDcW3
import Derived.Test.YthknfnjdnclphaaDcW4
namespace Go.Dc
open Go Go.Proofs
set_option maxRecDepth 100000
set_option maxHeartbeats 4000000
set_option linter.unusedVariables false
theorem changeforgeref2_MergeTables_ok {g : Gh} {fr : Hl} {w : World} {r : Table × (List CellChange) × Fault} (base : Table) (vbase1 : Value) (hbase1 : RepSl g base.Columns vbase1) (vbase2 : Value) (hbase2 : RepSl g base.Rows vbase2) (left : Table) (vleft1 : Value) (hleft1 : RepSl g left.Columns vleft1) (vleft2 : Value) (hleft2 : RepSl g left.Rows vleft2) (right : Table) (vright1 : Value) (hright1 : RepSl g right.Columns vright1) (vright2 : Value) (hright2 : RepSl g right.Rows vright2) (S : St g [] fr w) (hm : changeforgeref2_MergeTables base left right = some r) :
  Calls Try.prog 11 [.agg #[vbase1, vbase2], .agg #[vleft1, vleft2], .agg #[vright1, vright2]].toArray w (fun en w' => ∃ v, en = .returned v ∧ ∃ (g' : Gh) (v1 v2 v3 : Value) (c1 c2 : Hl), Le g g' ∧ St g' [c1, c2] fr w' ∧ RepSl g' r.1.Columns v1 ∧ OwnS g' r.1.Rows v2 c1 ∧ OwnS g' r.2.1 v3 c2 ∧ .tuple #[.agg #[v1, v2], v3, .agg #[.i6 r.2.2.Code, .i6 r.2.2.Index]] = v) := by
 unfold changeforgeref2_MergeTables at hm
 refine calls_enter (fn := Try.f11) Try.func11 rfl Try.ntmps11 (lb rfl) ?_
 intro a F
 replace F : Fr 228 a [(0, .agg #[vbase1, vbase2]), (1, .agg #[vleft1, vleft2]), (2, .agg #[vright1, vright2])] := F
 refine wp_seq ?_
 refine wp_region_lit ?_
 refine wl_boxC (wn rfl) rfl rfl rfl F S rfl rfl ?_; clear F a S; rintro b1 a w F S
 refine wl_boxC (wn rfl) rfl rfl rfl F S rfl rfl ?_; clear F a S; rintro b2 a w F S
 refine wl_boxC (wn rfl) rfl rfl rfl F S rfl rfl ?_; clear F a S; rintro b3 a w F S
 refine wl_alloc (wn rfl) rfl tz25 (cs := [nilS, nilS]) rfl F S rfl rfl ?_; clear F a S; rintro b4 a w F S
 refine wE (ev_assign rfl) F S rfl fun a F=>?_
 refine wl_alloc (wn rfl) rfl tz28 (cs := [.i6 0, .i6 0]) rfl F S rfl rfl ?_; clear F a S; rintro b5 a w F S
 refine wpList_nil ?_
 refine then_n ?_
 refine wp_seq ?_
 refine wp_seq ?_
 refine wp_region_lit ?_
 refine wE (ev_loadA tu25 rfl (cs := [vbase1, vbase2]) ts25 rfl (box_ptr (cells := [vbase1, vbase2]) 4 rfl 0 rfl (lb rfl))) F S rfl fun a F=>?_
 refine wE (ev_loadA tu25 rfl (cs := [vleft1, vleft2]) ts25 rfl (box_ptr (cells := [vleft1, vleft2]) 3 rfl 0 rfl (lb rfl))) F S rfl fun a F=>?_
 obtain ⟨y1, hy1, hm⟩ := bind_some hm
 refine wl_call0 (wn rfl) rfl F rfl (changeforgeref2_TwoTables_ok (fr := (fl [[bx b5 #[.i6 0, .i6 0] 28], [bx b4 #[nilS, nilS] 25], [bx b3 #[vright1, vright2] 25], [bx b2 #[vleft1, vleft2] 25], [bx b1 #[vbase1, vbase2] 25]] fr)) base vbase1 hbase1 vbase2 hbase2 left vleft1 hleft1 vleft2 hleft2 (-20) S hy1) rfl tc30 rfl rfl ?_; clear F a S
 rintro _ a w ⟨g1, l1, S, rfl⟩ F; replace S : St g1 [[bx b5 #[.i6 0, .i6 0] 28], [bx b4 #[nilS, nilS] 25], [bx b3 #[vright1, vright2] 25], [bx b2 #[vleft1, vleft2] 25], [bx b1 #[vbase1, vbase2] 25]] fr w := S
 refine wl_alloc (wn rfl) rfl tz28 (cs := [.i6 0, .i6 0]) rfl F S rfl rfl ?_; clear F a S; rintro b6 a w F S
 refine wl_storeC (wn rfl) rfl F S rfl rfl (vs := [.i6 y1.Code, .i6 y1.Index]) rfl ts28 (one_cons rfl (one_cons rfl one_nil)) (k := 0) rfl (lb rfl) (c' := #[.i6 y1.Code, .i6 y1.Index]) rfl rfl ?_; clear S; intro w S
 refine wpList_nil ?_
 refine then_n ?_
 refine wp_seq ?_
 refine wp_region_lit ?_
 refine wE (ev_fieldAddr' tu28 tf28_0 (z := 0) ts3 rfl ⟨_, rfl⟩ rfl) F S rfl fun a F=>?_
 refine wE (ev_load1 tu3 rfl rfl (box_ptr (cells := [.i6 y1.Code]) 0 rfl 0 rfl (lb rfl))) F S rfl fun a F=>?_
 refine wE (ev_int rfl rfl (bo_neq _ _ _ _)) F S rfl fun a F=>?_
 refine wpList_nil ?_
 refine then_n ?_
 obtain ⟨hc1, hm⟩ | ⟨hc1, hm⟩ := ite_or hm
 ·refine wp_condT F rfl hc1 ?_
  refine wp_seq ?_
  refine wp_dv [] mo S ?_; clear S; intro ok1 w S
  refine dv_et ok1 0 rfl (ev_build (parts := []) (vs := []) rfl (fun w => tb25_  w)) F rfl fun a F=>?_
  refine dv_ev ok1 1 rfl (ev_loadA tu28 rfl (cs := [.i6 y1.Code, .i6 y1.Index]) ts28 rfl (box_ptr (cells := [.i6 y1.Code, .i6 y1.Index]) 0 rfl 0 rfl (lb rfl))) F S rfl fun a F=>?_
  refine dv_op ok1 2 rfl [(1, .agg #[.i6 y1.Code, .i6 y1.Index])] ?_
  refine wl_storeC (wn rfl) rfl F S rfl rfl (vs := [nilS, nilS]) rfl ts25 (one_cons rfl (one_cons rfl one_nil)) (k := 2) rfl (lb rfl) (c' := #[nilS, nilS]) rfl rfl ?_; clear S; intro w S
  refine dv_nx ⟨yl_ev rfl rfl (ev_loadA tu28 rfl (cs := [.i6 y1.Code, .i6 y1.Index]) ts28 rfl (box_ptr (cells := [.i6 y1.Code, .i6 y1.Index]) 0 rfl 0 rfl (lb rfl))) F S, trivial⟩ ?_
  refine dv_et ok1 3 rfl (ev_assign rfl) F rfl fun a F=>?_
  refine dv_op ok1 4 rfl [] ?_
  refine wl_storeC (wn rfl) rfl F S rfl rfl (vs := [.i6 y1.Code, .i6 y1.Index]) rfl ts28 (one_cons rfl (one_cons rfl one_nil)) (k := 1) rfl (lb rfl) (c' := #[.i6 y1.Code, .i6 y1.Index]) rfl rfl ?_; clear S; intro w S
  refine dv_nx trivial ?_
  refine dv_fin ok1 ?_
  refine then_n ?_
  refine wp_ret ?_
  refine then_r ?_
  obtain rfl := sinj hm
  replace S : St g1 [[], [bx b6 #[.i6 y1.Code, .i6 y1.Index] 28], [bx b5 #[.i6 y1.Code, .i6 y1.Index] 28], [bx b4 #[nilS, nilS] 25], [bx b3 #[vright1, vright2] 25], [bx b2 #[vleft1, vleft2] 25], [bx b1 #[vbase1, vbase2] 25]] fr w := S
  replace S : St g1 [[], [], [bx b6 #[.i6 y1.Code, .i6 y1.Index] 28], [bx b5 #[.i6 y1.Code, .i6 y1.Index] 28], [bx b4 #[nilS, nilS] 25], [bx b3 #[vright1, vright2] 25], [bx b2 #[vleft1, vleft2] 25], [bx b1 #[vbase1, vbase2] 25]] fr w := S
  refine post_r _ F rfl (ar_cons (resA rfl tu25 rfl (box_ptr (cells := [nilS, nilS]) 4 rfl 0 rfl (lb rfl) w S) ts25) (ar_cons (resT rfl) (ar_cons (resA rfl tu28 rfl (box_ptr (cells := [.i6 y1.Code, .i6 y1.Index]) 3 rfl 0 rfl (lb rfl) w S) ts28) ar_nil))) ?_
  replace S : St g1 [[], []] fr w := St.tail [[], []] _ ((S.frontC 0 rfl).frontC 2 rfl)
  exact ⟨_, rfl, g1, (nilS), (nilS), (nilS), [], [], l1, S, (RepSl.nil _), (OwnS.nil _), (OwnS.nil _), rfl⟩
 ·refine wp_condF F rfl hc1 ?_
  refine wp_skip ?_
  refine then_n ?_
  refine wp_seq ?_
  refine wp_seq ?_
  refine wp_region_lit ?_
  refine wE (ev_loadA tu25 rfl (cs := [vbase1, vbase2]) ts25 rfl (box_ptr (cells := [vbase1, vbase2]) 5 rfl 0 rfl (lb rfl))) F S rfl fun a F=>?_
  refine wE (ev_loadA tu25 rfl (cs := [vright1, vright2]) ts25 rfl (box_ptr (cells := [vright1, vright2]) 3 rfl 0 rfl (lb rfl))) F S rfl fun a F=>?_
  obtain ⟨y2, hy2, hm⟩ := bind_some hm
  refine wl_call0 (wn rfl) rfl F rfl (changeforgeref2_TwoTables_ok (fr := (fl [[bx b6 #[.i6 y1.Code, .i6 y1.Index] 28], [bx b5 #[.i6 0, .i6 0] 28], [bx b4 #[nilS, nilS] 25], [bx b3 #[vright1, vright2] 25], [bx b2 #[vleft1, vleft2] 25], [bx b1 #[vbase1, vbase2] 25]] fr)) base vbase1 (hbase1.mono l1) vbase2 (hbase2.mono l1) right vright1 (hright1.mono l1) vright2 (hright2.mono l1) (-30) S hy2) rfl tc30 rfl rfl ?_; clear F a S
  rintro _ a w ⟨g2, l2, S, rfl⟩ F; replace S : St g2 [[bx b6 #[.i6 y1.Code, .i6 y1.Index] 28], [bx b5 #[.i6 0, .i6 0] 28], [bx b4 #[nilS, nilS] 25], [bx b3 #[vright1, vright2] 25], [bx b2 #[vleft1, vleft2] 25], [bx b1 #[vbase1, vbase2] 25]] fr w := S
  refine wl_alloc (wn rfl) rfl tz28 (cs := [.i6 0, .i6 0]) rfl F S rfl rfl ?_; clear F a S; rintro b7 a w F S
  refine wl_storeC (wn rfl) rfl F S rfl rfl (vs := [.i6 y2.Code, .i6 y2.Index]) rfl ts28 (one_cons rfl (one_cons rfl one_nil)) (k := 0) rfl (lb rfl) (c' := #[.i6 y2.Code, .i6 y2.Index]) rfl rfl ?_; clear S; intro w S
  refine wpList_nil ?_
  refine then_n ?_
  refine wp_seq ?_
  refine wp_region_lit ?_
  refine wE (ev_fieldAddr' tu28 tf28_0 (z := 0) ts3 rfl ⟨_, rfl⟩ rfl) F S rfl fun a F=>?_
  refine wE (ev_load1 tu3 rfl rfl (box_ptr (cells := [.i6 y2.Code]) 0 rfl 0 rfl (lb rfl))) F S rfl fun a F=>?_
  refine wE (ev_int rfl rfl (bo_neq _ _ _ _)) F S rfl fun a F=>?_
  refine wpList_nil ?_
  refine then_n ?_
  obtain ⟨hc2, hm⟩ | ⟨hc2, hm⟩ := ite_or hm
  ·refine wp_condT F rfl hc2 ?_
   refine wp_seq ?_
   refine wp_dv [] mo S ?_; clear S; intro ok2 w S
   refine dv_et ok2 0 rfl (ev_build (parts := []) (vs := []) rfl (fun w => tb25_  w)) F rfl fun a F=>?_
   refine dv_ev ok2 1 rfl (ev_loadA tu28 rfl (cs := [.i6 y2.Code, .i6 y2.Index]) ts28 rfl (box_ptr (cells := [.i6 y2.Code, .i6 y2.Index]) 0 rfl 0 rfl (lb rfl))) F S rfl fun a F=>?_
   refine dv_op ok2 2 rfl [(1, .agg #[.i6 y2.Code, .i6 y2.Index])] ?_
   refine wl_storeC (wn rfl) rfl F S rfl rfl (vs := [nilS, nilS]) rfl ts25 (one_cons rfl (one_cons rfl one_nil)) (k := 3) rfl (lb rfl) (c' := #[nilS, nilS]) rfl rfl ?_; clear S; intro w S
   refine dv_nx ⟨yl_ev rfl rfl (ev_loadA tu28 rfl (cs := [.i6 y2.Code, .i6 y2.Index]) ts28 rfl (box_ptr (cells := [.i6 y2.Code, .i6 y2.Index]) 0 rfl 0 rfl (lb rfl))) F S, trivial⟩ ?_
   refine dv_et ok2 3 rfl (ev_assign rfl) F rfl fun a F=>?_
   refine dv_op ok2 4 rfl [] ?_
   refine wl_storeC (wn rfl) rfl F S rfl rfl (vs := [.i6 y2.Code, .i6 y2.Index]) rfl ts28 (one_cons rfl (one_cons rfl one_nil)) (k := 2) rfl (lb rfl) (c' := #[.i6 y2.Code, .i6 y2.Index]) rfl rfl ?_; clear S; intro w S
   refine dv_nx trivial ?_
   refine dv_fin ok2 ?_
   refine then_n ?_
   refine wp_ret ?_
   refine then_r ?_
   obtain rfl := sinj hm
   replace S : St g2 [[], [bx b7 #[.i6 y2.Code, .i6 y2.Index] 28], [bx b6 #[.i6 y1.Code, .i6 y1.Index] 28], [bx b5 #[.i6 y2.Code, .i6 y2.Index] 28], [bx b4 #[nilS, nilS] 25], [bx b3 #[vright1, vright2] 25], [bx b2 #[vleft1, vleft2] 25], [bx b1 #[vbase1, vbase2] 25]] fr w := S
   replace S : St g2 [[], [], [bx b7 #[.i6 y2.Code, .i6 y2.Index] 28], [bx b6 #[.i6 y1.Code, .i6 y1.Index] 28], [bx b5 #[.i6 y2.Code, .i6 y2.Index] 28], [bx b4 #[nilS, nilS] 25], [bx b3 #[vright1, vright2] 25], [bx b2 #[vleft1, vleft2] 25], [bx b1 #[vbase1, vbase2] 25]] fr w := S
   refine post_r _ F rfl (ar_cons (resA rfl tu25 rfl (box_ptr (cells := [nilS, nilS]) 5 rfl 0 rfl (lb rfl) w S) ts25) (ar_cons (resT rfl) (ar_cons (resA rfl tu28 rfl (box_ptr (cells := [.i6 y2.Code, .i6 y2.Index]) 4 rfl 0 rfl (lb rfl) w S) ts28) ar_nil))) ?_
   replace S : St g2 [[], []] fr w := St.tail [[], []] _ ((S.frontC 0 rfl).frontC 2 rfl)
   exact ⟨_, rfl, g2, (nilS), (nilS), (nilS), [], [], (l1.trans l2), S, (RepSl.nil _), (OwnS.nil _), (OwnS.nil _), rfl⟩
  ·refine wp_condF F rfl hc2 ?_
   refine wp_skip ?_
   refine then_n ?_
   refine wp_seq ?_
   refine wp_region_lit ?_
   refine wE (ev_fieldAddr' tu25 tf25_0 (z := 0) ts22 rfl ⟨_, rfl⟩ rfl) F S rfl fun a F=>?_
   refine wE (ev_load1 tu22 rfl rfl (box_ptr (cells := [vbase1]) 6 rfl 0 rfl (lb rfl))) F S rfl fun a F=>?_
   refine wE (ev_build (parts := [(0, .tmp 38)]) (vs := [(0, vbase1)]) rfl (fun w => tb25_0 vbase1 (RepSl.isSl hbase1) w)) F S rfl fun a F=>?_
   refine wl_alloc (wn rfl) rfl tz25 (cs := [nilS, nilS]) rfl F S rfl rfl ?_; clear F a S; rintro b8 a w F S
   refine wl_storeC (wn rfl) rfl F S rfl rfl (vs := [vbase1, nilS]) rfl ts25 (one_cons hbase1.one (one_cons rfl one_nil)) (k := 0) rfl (lb rfl) (c' := #[vbase1, nilS]) rfl rfl ?_; clear S; intro w S
   refine wpList_nil ?_
   refine then_n ?_
   refine wp_seq ?_
   refine wp_region_lit ?_
   refine wE (ev_assign rfl) F S rfl fun a F=>?_
   refine wpList_nil ?_
   refine then_n ?_
   refine wp_seq ?_
   refine wp_region_lit ?_
   refine wE (ev_fieldAddr' tu25 tf25_1 (z := 0) ts23 rfl ⟨_, rfl⟩ rfl) F S rfl fun a F=>?_
   refine wE (ev_load1 tu23 rfl rfl (box_ptr (cells := [vleft2]) 6 rfl 1 rfl (lb rfl))) F S rfl fun a F=>?_
   refine wE (ev_fieldAddr' tu25 tf25_1 (z := 0) ts23 rfl ⟨_, rfl⟩ rfl) F S rfl fun a F=>?_
   refine wE (ev_load1 tu23 rfl rfl (box_ptr (cells := [vright2]) 5 rfl 1 rfl (lb rfl))) F S rfl fun a F=>?_
   obtain ⟨y3, hy3, hm⟩ := bind_some hm
   refine wl_call0 (wn rfl) rfl F rfl (changeforgeref2_Keys_ok (fr := (fl [[bx b8 #[vbase1, nilS] 25], [bx b7 #[.i6 y2.Code, .i6 y2.Index] 28], [bx b6 #[.i6 y1.Code, .i6 y1.Index] 28], [bx b5 #[.i6 0, .i6 0] 28], [bx b4 #[nilS, nilS] 25], [bx b3 #[vright1, vright2] 25], [bx b2 #[vleft1, vleft2] 25], [bx b1 #[vbase1, vbase2] 25]] fr)) left.Rows vleft2 (hleft2.mono (l1.trans l2)) right.Rows vright2 (hright2.mono (l1.trans l2)) S hy3) rfl tc31 rfl rfl ?_; clear F a S
   rintro _ a w ⟨g3, v1, c1, l3, S, h1, rfl⟩ F; replace S : St g3 [c1, [bx b8 #[vbase1, nilS] 25], [bx b7 #[.i6 y2.Code, .i6 y2.Index] 28], [bx b6 #[.i6 y1.Code, .i6 y1.Index] 28], [bx b5 #[.i6 0, .i6 0] 28], [bx b4 #[nilS, nilS] 25], [bx b3 #[vright1, vright2] 25], [bx b2 #[vleft1, vleft2] 25], [bx b1 #[vbase1, vbase2] 25]] fr w := S
   refine wE (ev_assign rfl) F S rfl fun a F=>?_
   refine wpList_nil ?_
   refine then_n ?_
   refine wp_cut (fun a w => ∃ (x1 : List CellChange) (x2 : List Row) (v2 v3 : Value) (c2 c3 : Hl) (g4 : Gh), Fr 228 a [(12, v2), (11, bp b8 0), (8, bp b5 0), (6, bp b4 0)] ∧ Le g3 g4 ∧ St g4 [c2, [bx b8 #[vbase1, v3] 25], [bx b5 #[.i6 0, .i6 0] 28], [bx b4 #[nilS, nilS] 25], c3] fr w ∧ OwnS g4 x1 v2 c2 ∧ OwnS g4 x2 v3 c3 ∧ changeforgeref2_MergeTables.j1 base x1 x2 = some r) ?_ ?_
   ·refine wp_seq ?_
    refine wp_region_lit ?_
    refine wE (ev_assign rfl) F S rfl fun a F=>?_
    refine wpList_nil ?_
    refine then_n ?_
    refine wp_block ?_
    obtain ⟨r1, hr1, hm⟩ := bind_some hm
    have hmo1 := hm; clear hm
    refine wp_iter (σ := Int × (List CellChange) × (List Row)) (ρ := (List CellChange) × (List Row)) (m := fun s => changeforgeref2_MergeTables.l1 base left right y3 s.1 s.2.1 s.2.2) (I := fun s a w => match s with | (x3, x4, x5) => ∃ (v4 v5 : Value) (c4 c5 : Hl) (g6 : Gh), Fr 228 a [(14, .i6 x3), (13, v1), (12, v4), (11, bp b8 0), (8, bp b5 0), (6, bp b4 0), (5, bp b3 0), (4, bp b2 0), (3, bp b1 0)] ∧ Le g3 g6 ∧ St g6 [c1, c4, [bx b8 #[vbase1, v5] 25], [bx b5 #[.i6 0, .i6 0] 28], [bx b4 #[nilS, nilS] 25], [bx b3 #[vright1, vright2] 25], [bx b2 #[vleft1, vleft2] 25], [bx b1 #[vbase1, vbase2] 25], c5] fr w ∧ OwnS g6 x4 v4 c4 ∧ OwnS g6 x5 v5 c5) hr1 ?_ ?_
    ·dsimp only
     replace S : St g3 [[], c1, [bx b8 #[vbase1, nilS] 25], [bx b7 #[.i6 y2.Code, .i6 y2.Index] 28], [bx b6 #[.i6 y1.Code, .i6 y1.Index] 28], [bx b5 #[.i6 0, .i6 0] 28], [bx b4 #[nilS, nilS] 25], [bx b3 #[vright1, vright2] 25], [bx b2 #[vleft1, vleft2] 25], [bx b1 #[vbase1, vbase2] 25]] fr w := S
     replace S : St g3 [[], [], c1, [bx b8 #[vbase1, nilS] 25], [bx b7 #[.i6 y2.Code, .i6 y2.Index] 28], [bx b6 #[.i6 y1.Code, .i6 y1.Index] 28], [bx b5 #[.i6 0, .i6 0] 28], [bx b4 #[nilS, nilS] 25], [bx b3 #[vright1, vright2] 25], [bx b2 #[vleft1, vleft2] 25], [bx b1 #[vbase1, vbase2] 25]] fr w := S
     replace S : St g3 [c1, [], [bx b8 #[vbase1, nilS] 25], [bx b5 #[.i6 0, .i6 0] 28], [bx b4 #[nilS, nilS] 25], [bx b3 #[vright1, vright2] 25], [bx b2 #[vleft1, vleft2] 25], [bx b1 #[vbase1, vbase2] 25], []] fr w := St.tail [c1, [], [bx b8 #[vbase1, nilS] 25], [bx b5 #[.i6 0, .i6 0] 28], [bx b4 #[nilS, nilS] 25], [bx b3 #[vright1, vright2] 25], [bx b2 #[vleft1, vleft2] 25], [bx b1 #[vbase1, vbase2] 25], []] _ (((((((((S.frontC 0 rfl).frontC 11 rfl).frontC 11 rfl).frontC 11 rfl).frontC 11 rfl).frontC 11 rfl).frontC 9 rfl).frontC 8 rfl).frontC 10 rfl)
     exact ⟨(nilS), (nilS), [], [], g3, F.sub ⟨rfl, rfl, rfl, rfl, rfl, rfl, rfl, rfl, rfl, trivial⟩, (Le.refl _), S, (OwnS.nil _), (OwnS.nil _)⟩
    ·clear F S; rintro ⟨x3, x4, x5⟩ a w x6 ⟨v4, v5, c4, c5, g6, F, l6, S, h4, h5⟩ hx1 hfin1
     have hm : changeforgeref2_MergeTables.l1 base left right y3 x3 x4 x5 = some x6 := hx1; clear hx1
     unfold changeforgeref2_MergeTables.l1 at hm
     refine wp_seq ?_
     refine wp_seq ?_
     refine wp_region_lit ?_
     refine wE (ev_move rfl) F S rfl fun a F=>?_
     refine wE (ev_move rfl) F S rfl fun a F=>?_
     refine wE (ev_lenOw h1 rfl tu22) F S rfl fun a F=>?_
     refine wE (ev_int rfl rfl (bo_lss _ _ _ _)) F S rfl fun a F=>?_
     refine wpList_nil ?_
     refine then_n ?_
     obtain ⟨hc4, hm⟩ | ⟨hc4, hm⟩ := ite_or hm
     ·refine wp_condT F rfl hc4 ?_
      refine wp_skip ?_
      refine then_n ?_
      refine wp_cut (fun a w => ∃ (x7 : List CellChange) (x8 : List Row) (v6 v7 : Value) (c6 c7 : Hl) (g7 : Gh), Fr 228 a [(14, .i6 x3), (13, v1), (12, v6), (11, bp b8 0), (8, bp b5 0), (6, bp b4 0), (5, bp b3 0), (4, bp b2 0), (3, bp b1 0)] ∧ Le g6 g7 ∧ St g7 [c1, c6, [bx b8 #[vbase1, v7] 25], [bx b5 #[.i6 0, .i6 0] 28], [bx b4 #[nilS, nilS] 25], [bx b3 #[vright1, vright2] 25], [bx b2 #[vleft1, vleft2] 25], [bx b1 #[vbase1, vbase2] 25], c7] fr w ∧ OwnS g7 x7 v6 c6 ∧ OwnS g7 x8 v7 c7 ∧ changeforgeref2_MergeTables.j2 x3 x7 x8 = some x6) ?_ ?_
      ·refine wp_block ?_
       refine wp_seq ?_
       refine wp_dv [] mo S ?_; clear S; intro ok3 w S
       refine dv_ev ok3 0 rfl (ev_loadA tu25 rfl (cs := [vbase1, vbase2]) ts25 rfl (box_ptr (cells := [vbase1, vbase2]) 7 rfl 0 rfl (lb rfl))) F S rfl fun a F=>?_
       refine dv_et ok3 1 rfl (ev_move rfl) F rfl fun a F=>?_
       refine dv_et ok3 2 rfl (ev_move rfl) F rfl fun a F=>?_
       obtain ⟨y5, hy5, hm⟩ := bind_some hm
       refine dv_et ok3 3 rfl (ev_idxO (h1.mono l6) hy5 tu22 ts9 rfl rfl) F rfl fun a F=>?_
       obtain ⟨cs1, hr2, hq1⟩ := elemO (h1.mono l6) hy5
       obtain rfl := rep_str hr2
       refine dv_ev ok3 4 rfl (ev_load1 tu9 rfl rfl (hq1 _ _ 0 rfl)) F S rfl fun a F=>?_
       refine dv_op ok3 5 rfl [] ?_
       obtain ⟨y6, hy6, hm⟩ := bind_some hm
       refine wl_call0 (wn rfl) rfl F rfl (changeforgeref2_cellsOf_ok (fr := (fl [c1, c4, [bx b8 #[vbase1, v5] 25], [bx b5 #[.i6 0, .i6 0] 28], [bx b4 #[nilS, nilS] 25], [bx b3 #[vright1, vright2] 25], [bx b2 #[vleft1, vleft2] 25], [bx b1 #[vbase1, vbase2] 25], c5] fr)) base vbase1 (hbase1.mono (((l1.trans l2).trans l3).trans l6)) vbase2 (hbase2.mono (((l1.trans l2).trans l3).trans l6)) y5 S hy6) rfl tc32 rfl rfl ?_; clear F a S
       rintro _ a w ⟨g8, v8, l8, S, h8, rfl⟩ F; replace S : St g8 [c1, c4, [bx b8 #[vbase1, v5] 25], [bx b5 #[.i6 0, .i6 0] 28], [bx b4 #[nilS, nilS] 25], [bx b3 #[vright1, vright2] 25], [bx b2 #[vleft1, vleft2] 25], [bx b1 #[vbase1, vbase2] 25], c5] fr w := S
       refine dv_nx trivial ?_
       refine dv_et ok3 6 rfl (ev_assign rfl) F rfl fun a F=>?_
       refine dv_fin ok3 ?_
       refine then_n ?_
       refine wp_seq ?_
       refine wp_dv [] mo S ?_; clear S; intro ok4 w S
       refine dv_ev ok4 0 rfl (ev_loadA tu25 rfl (cs := [vleft1, vleft2]) ts25 rfl (box_ptr (cells := [vleft1, vleft2]) 6 rfl 0 rfl (lb rfl))) F S rfl fun a F=>?_
       refine dv_et ok4 1 rfl (ev_move rfl) F rfl fun a F=>?_
       refine dv_et ok4 2 rfl (ev_move rfl) F rfl fun a F=>?_
       obtain ⟨y7, hy7, hm⟩ := bind_some hm
       refine dv_et ok4 3 rfl (ev_idxO (h1.mono (l6.trans l8)) hy7 tu22 ts9 rfl rfl) F rfl fun a F=>?_
       obtain ⟨cs2, hr3, hq2⟩ := elemO (h1.mono (l6.trans l8)) hy7
       obtain rfl := rep_str hr3
       refine dv_ev ok4 4 rfl (ev_load1 tu9 rfl rfl (hq2 _ _ 0 rfl)) F S rfl fun a F=>?_
       refine dv_op ok4 5 rfl [] ?_
       obtain ⟨y8, hy8, hm⟩ := bind_some hm
       refine wl_call0 (wn rfl) rfl F rfl (changeforgeref2_cellsOf_ok (fr := (fl [c1, c4, [bx b8 #[vbase1, v5] 25], [bx b5 #[.i6 0, .i6 0] 28], [bx b4 #[nilS, nilS] 25], [bx b3 #[vright1, vright2] 25], [bx b2 #[vleft1, vleft2] 25], [bx b1 #[vbase1, vbase2] 25], c5] fr)) left vleft1 (hleft1.mono ((((l1.trans l2).trans l3).trans l6).trans l8)) vleft2 (hleft2.mono ((((l1.trans l2).trans l3).trans l6).trans l8)) y7 S hy8) rfl tc32 rfl rfl ?_; clear F a S
       rintro _ a w ⟨g9, v9, l9, S, h9, rfl⟩ F; replace S : St g9 [c1, c4, [bx b8 #[vbase1, v5] 25], [bx b5 #[.i6 0, .i6 0] 28], [bx b4 #[nilS, nilS] 25], [bx b3 #[vright1, vright2] 25], [bx b2 #[vleft1, vleft2] 25], [bx b1 #[vbase1, vbase2] 25], c5] fr w := S
       refine dv_nx trivial ?_
       refine dv_et ok4 6 rfl (ev_assign rfl) F rfl fun a F=>?_
       refine dv_fin ok4 ?_
       refine then_n ?_
       refine wp_seq ?_
       refine wp_dv [] mo S ?_; clear S; intro ok5 w S
       refine dv_ev ok5 0 rfl (ev_loadA tu25 rfl (cs := [vright1, vright2]) ts25 rfl (box_ptr (cells := [vright1, vright2]) 5 rfl 0 rfl (lb rfl))) F S rfl fun a F=>?_
       refine dv_et ok5 1 rfl (ev_move rfl) F rfl fun a F=>?_
       refine dv_et ok5 2 rfl (ev_move rfl) F rfl fun a F=>?_
       obtain ⟨y9, hy9, hm⟩ := bind_some hm
       refine dv_et ok5 3 rfl (ev_idxO (h1.mono ((l6.trans l8).trans l9)) hy9 tu22 ts9 rfl rfl) F rfl fun a F=>?_
       obtain ⟨cs3, hr4, hq3⟩ := elemO (h1.mono ((l6.trans l8).trans l9)) hy9
       obtain rfl := rep_str hr4
       refine dv_ev ok5 4 rfl (ev_load1 tu9 rfl rfl (hq3 _ _ 0 rfl)) F S rfl fun a F=>?_
       refine dv_op ok5 5 rfl [] ?_
       obtain ⟨y10, hy10, hm⟩ := bind_some hm
       refine wl_call0 (wn rfl) rfl F rfl (changeforgeref2_cellsOf_ok (fr := (fl [c1, c4, [bx b8 #[vbase1, v5] 25], [bx b5 #[.i6 0, .i6 0] 28], [bx b4 #[nilS, nilS] 25], [bx b3 #[vright1, vright2] 25], [bx b2 #[vleft1, vleft2] 25], [bx b1 #[vbase1, vbase2] 25], c5] fr)) right vright1 (hright1.mono (((((l1.trans l2).trans l3).trans l6).trans l8).trans l9)) vright2 (hright2.mono (((((l1.trans l2).trans l3).trans l6).trans l8).trans l9)) y9 S hy10) rfl tc32 rfl rfl ?_; clear F a S
       rintro _ a w ⟨g10, v10, l10, S, h10, rfl⟩ F; replace S : St g10 [c1, c4, [bx b8 #[vbase1, v5] 25], [bx b5 #[.i6 0, .i6 0] 28], [bx b4 #[nilS, nilS] 25], [bx b3 #[vright1, vright2] 25], [bx b2 #[vleft1, vleft2] 25], [bx b1 #[vbase1, vbase2] 25], c5] fr w := S
       refine dv_nx trivial ?_
       refine dv_et ok5 6 rfl (ev_assign rfl) F rfl fun a F=>?_
       refine dv_fin ok5 ?_
       refine then_n ?_
       refine wp_cut (fun a w => ∃ (x9 : List ByteArray) (x10 : List ByteArray) (v11 v12 : Value) (g11 : Gh), Fr 228 a [(17, v11), (16, v12), (15, v8), (14, .i6 x3), (13, v1), (12, v4), (11, bp b8 0), (8, bp b5 0), (6, bp b4 0), (5, bp b3 0), (4, bp b2 0), (3, bp b1 0)] ∧ Le g10 g11 ∧ St g11 [c1, c4, [bx b8 #[vbase1, v5] 25], [bx b5 #[.i6 0, .i6 0] 28], [bx b4 #[nilS, nilS] 25], [bx b3 #[vright1, vright2] 25], [bx b2 #[vleft1, vleft2] 25], [bx b1 #[vbase1, vbase2] 25], c5] fr w ∧ RepSl g11 x9 v11 ∧ RepSl g11 x10 v12 ∧ changeforgeref2_MergeTables.j3 y3 x3 x4 x5 y6 x9 x10 = some x6) ?_ ?_
       ·refine wp_seq ?_
        refine wp_region_lit ?_
        refine wE (ev_move rfl) F S rfl fun a F=>?_
        refine wE (ev_move rfl) F S rfl fun a F=>?_
        obtain ⟨y33, hy33, hm⟩ := bind_some hm
        refine wl_call0 (wn rfl) rfl F rfl (changeforgeref1_Equal_ok (fr := (fl [c1, c4, [bx b8 #[vbase1, v5] 25], [bx b5 #[.i6 0, .i6 0] 28], [bx b4 #[nilS, nilS] 25], [bx b3 #[vright1, vright2] 25], [bx b2 #[vleft1, vleft2] 25], [bx b1 #[vbase1, vbase2] 25], c5] fr)) y10 v10 h10 y6 v8 (h8.mono (l9.trans l10)) S hy33) rfl tc33 rfl rfl ?_; clear F a S
        rintro _ a w ⟨g17, l17, S, rfl⟩ F; replace S : St g17 [c1, c4, [bx b8 #[vbase1, v5] 25], [bx b5 #[.i6 0, .i6 0] 28], [bx b4 #[nilS, nilS] 25], [bx b3 #[vright1, vright2] 25], [bx b2 #[vleft1, vleft2] 25], [bx b1 #[vbase1, vbase2] 25], c5] fr w := S
        refine wE (ev_move rfl) F S rfl fun a F=>?_
        obtain ⟨x25, hx8, hm⟩ := bind_some hm
        refine wl_cut 4 (fun a w => ∃ g18, Fr 228 a [(76, .bool x25), (17, v10), (16, v9), (15, v8), (14, .i6 x3), (13, v1), (12, v4), (11, bp b8 0), (8, bp b5 0), (6, bp b4 0), (5, bp b3 0), (4, bp b2 0), (3, bp b1 0)] ∧ Le g17 g18 ∧ St g18 [c1, c4, [bx b8 #[vbase1, v5] 25], [bx b5 #[.i6 0, .i6 0] 28], [bx b4 #[nilS, nilS] 25], [bx b3 #[vright1, vright2] 25], [bx b2 #[vleft1, vleft2] 25], [bx b1 #[vbase1, vbase2] 25], c5] fr w) ?_ ?_
        ·clear hm; obtain ⟨hc16, hm⟩ | ⟨hc16, hm⟩ := ite_or hx8
         ·refine wl_skip rfl rfl rfl rfl (ne_ft hc16) F rfl rfl ?_; clear F a; intro a F
          refine wl_skip rfl rfl rfl rfl (ne_ft hc16) F rfl rfl ?_; clear F a; intro a F
          refine wl_skip rfl rfl rfl rfl (ne_ft hc16) F rfl rfl ?_; clear F a; intro a F
          refine wE (ev_pickT rfl hc16 rfl) F S rfl fun a F=>?_
          obtain rfl := sinj hm
          refine wpList_nil (then_n ?_); exact ⟨g17, F.sub ⟨rfl, rfl, rfl, rfl, rfl, rfl, rfl, rfl, rfl, rfl, rfl, rfl, rfl, trivial⟩, (Le.refl _), S⟩
         ·refine wl_ev (wg F rfl rfl rfl rfl hc16) (ev_move rfl) F S rfl rfl ?_; clear F a; intro a F
          refine wl_ev (wg F rfl rfl rfl rfl hc16) (ev_move rfl) F S rfl rfl ?_; clear F a; intro a F
          obtain ⟨y34, hy34, hm⟩ := bind_some hm
          refine wl_call0 (wg F rfl rfl rfl rfl hc16) rfl F rfl (changeforgeref1_Equal_ok (fr := (fl [c1, c4, [bx b8 #[vbase1, v5] 25], [bx b5 #[.i6 0, .i6 0] 28], [bx b4 #[nilS, nilS] 25], [bx b3 #[vright1, vright2] 25], [bx b2 #[vleft1, vleft2] 25], [bx b1 #[vbase1, vbase2] 25], c5] fr)) y8 v9 (h9.mono (l10.trans l17)) y10 v10 (h10.mono l17) S hy34) rfl tc33 rfl rfl ?_; clear F a S
          rintro _ a w ⟨g19, l19, S, rfl⟩ F; replace S : St g19 [c1, c4, [bx b8 #[vbase1, v5] 25], [bx b5 #[.i6 0, .i6 0] 28], [bx b4 #[nilS, nilS] 25], [bx b3 #[vright1, vright2] 25], [bx b2 #[vleft1, vleft2] 25], [bx b1 #[vbase1, vbase2] 25], c5] fr w := S
          refine wE (ev_pickF rfl hc16 rfl) F S rfl fun a F=>?_
          obtain rfl := sinj hm
          refine wpList_nil (then_n ?_); exact ⟨g19, F.sub ⟨rfl, rfl, rfl, rfl, rfl, rfl, rfl, rfl, rfl, rfl, rfl, rfl, rfl, trivial⟩, l19, S⟩
        clear F S; rintro a w ⟨g18, F, l18, S⟩
        refine wpList_nil ?_
        refine then_n ?_
        obtain ⟨hc17, hm⟩ | ⟨hc17, hm⟩ := ite_or hm
        ·refine wp_condT F rfl hc17 ?_
         refine wp_region_lit ?_
         refine wE (ev_move rfl) F S rfl fun a F=>?_
         refine wE (ev_assign rfl) F S rfl fun a F=>?_
         refine wpList_nil ?_
         refine then_n ?_
         exact ⟨y8, y8, v9, v9, g18, F.sub ⟨rfl, rfl, rfl, rfl, rfl, rfl, rfl, rfl, rfl, rfl, rfl, rfl, trivial⟩, (l17.trans l18), S, (h9.mono ((l10.trans l17).trans l18)), (h9.mono ((l10.trans l17).trans l18)), hm⟩
        ·refine wp_condF F rfl hc17 ?_
         refine wp_seq ?_
         refine wp_region_lit ?_
         refine wE (ev_move rfl) F S rfl fun a F=>?_
         refine wE (ev_move rfl) F S rfl fun a F=>?_
         obtain ⟨y35, hy35, hm⟩ := bind_some hm
         refine wl_call0 (wn rfl) rfl F rfl (changeforgeref1_Equal_ok (fr := (fl [c1, c4, [bx b8 #[vbase1, v5] 25], [bx b5 #[.i6 0, .i6 0] 28], [bx b4 #[nilS, nilS] 25], [bx b3 #[vright1, vright2] 25], [bx b2 #[vleft1, vleft2] 25], [bx b1 #[vbase1, vbase2] 25], c5] fr)) y8 v9 (h9.mono ((l10.trans l17).trans l18)) y6 v8 (h8.mono (((l9.trans l10).trans l17).trans l18)) S hy35) rfl tc33 rfl rfl ?_; clear F a S
         rintro _ a w ⟨g20, l20, S, rfl⟩ F; replace S : St g20 [c1, c4, [bx b8 #[vbase1, v5] 25], [bx b5 #[.i6 0, .i6 0] 28], [bx b4 #[nilS, nilS] 25], [bx b3 #[vright1, vright2] 25], [bx b2 #[vleft1, vleft2] 25], [bx b1 #[vbase1, vbase2] 25], c5] fr w := S
         refine wpList_nil ?_
         refine then_n ?_
         obtain ⟨hc18, hm⟩ | ⟨hc18, hm⟩ := ite_or hm
         ·refine wp_condT F rfl hc18 ?_
          refine wp_region_lit ?_
          refine wE (ev_move rfl) F S rfl fun a F=>?_
          refine wE (ev_assign rfl) F S rfl fun a F=>?_
          refine wpList_nil ?_
          refine then_n ?_
          exact ⟨y10, y10, v10, v10, g20, F.sub ⟨rfl, rfl, rfl, rfl, rfl, rfl, rfl, rfl, rfl, rfl, rfl, rfl, trivial⟩, ((l17.trans l18).trans l20), S, (h10.mono ((l17.trans l18).trans l20)), (h10.mono ((l17.trans l18).trans l20)), hm⟩
         ·refine wp_condF F rfl hc18 ?_
          refine wp_skip ?_
          refine then_n ?_
          exact ⟨y10, y8, v10, v9, g20, F.sub ⟨rfl, rfl, rfl, rfl, rfl, rfl, rfl, rfl, rfl, rfl, rfl, rfl, trivial⟩, ((l17.trans l18).trans l20), S, (h10.mono ((l17.trans l18).trans l20)), (h9.mono (((l10.trans l17).trans l18).trans l20)), hm⟩
       ·clear F S hm; rintro a w ⟨x9, x10, v11, v12, g11, F, l11, S, h11, h12, hm⟩
        refine wp_seq ?_
        refine wp_seq ?_
        refine wp_region_lit ?_
        refine wE (ev_move rfl) F S rfl fun a F=>?_
        refine wE (ev_lenSh h12 rfl tu22) F S rfl fun a F=>?_
        refine wE (ev_int rfl rfl (bo_eql _ _ _ _)) F S rfl fun a F=>?_
        refine wE (ev_move rfl) F S rfl fun a F=>?_
        obtain ⟨x11, hx2, hm⟩ := bind_some hm
        refine wl_cut 4 (fun a w' => w = w' ∧ Fr 228 a [(89, .bool x11), (17, v11), (16, v12), (15, v8), (14, .i6 x3), (13, v1), (12, v4), (11, bp b8 0), (8, bp b5 0), (6, bp b4 0), (5, bp b3 0), (4, bp b2 0), (3, bp b1 0)]) ?_ ?_
        ·clear hm; obtain ⟨hc5, hm⟩ | ⟨hc5, hm⟩ := ite_or hx2
         ·refine wl_ev (wg F rfl rfl rfl rfl hc5) (ev_move rfl) F S rfl rfl ?_; clear F a; intro a F
          refine wl_ev (wg F rfl rfl rfl rfl hc5) (ev_lenSh h11 rfl tu22) F S rfl rfl ?_; clear F a; intro a F
          refine wl_ev (wg F rfl rfl rfl rfl hc5) (ev_int rfl rfl (bo_eql _ _ _ _)) F S rfl rfl ?_; clear F a; intro a F
          refine wE (ev_pickT rfl hc5 rfl) F S rfl fun a F=>?_
          obtain rfl := sinj hm
          refine wpList_nil (then_n ?_); exact ⟨rfl, F.sub ⟨rfl, rfl, rfl, rfl, rfl, rfl, rfl, rfl, rfl, rfl, rfl, rfl, rfl, trivial⟩⟩
         ·refine wl_skip rfl rfl rfl rfl (ne_tf hc5) F rfl rfl ?_; clear F a; intro a F
          refine wl_skip rfl rfl rfl rfl (ne_tf hc5) F rfl rfl ?_; clear F a; intro a F
          refine wl_skip rfl rfl rfl rfl (ne_tf hc5) F rfl rfl ?_; clear F a; intro a F
          refine wE (ev_pickF rfl hc5 rfl) F S rfl fun a F=>?_
          obtain rfl := sinj hm
          refine wpList_nil (then_n ?_); exact ⟨rfl, F.sub ⟨rfl, rfl, rfl, rfl, rfl, rfl, rfl, rfl, rfl, rfl, rfl, rfl, rfl, trivial⟩⟩
        clear F; rintro a w' ⟨rfl, F⟩
        refine wpList_nil ?_
        refine then_n ?_
        obtain ⟨hc6, hm⟩ | ⟨hc6, hm⟩ := ite_or hm
        ·refine wp_condT F rfl hc6 ?_
         refine wp_exit ?_
         refine then_e ?_
         refine inb_x ?_
         refine then_n ?_
         exact ⟨x4, x5, v4, v5, c4, c5, g11, F.sub ⟨rfl, rfl, rfl, rfl, rfl, rfl, rfl, rfl, rfl, trivial⟩, (((l8.trans l9).trans l10).trans l11), S, (h4.mono (((l8.trans l9).trans l10).trans l11)), (h5.mono (((l8.trans l9).trans l10).trans l11)), hm⟩
        ·refine wp_condF F rfl hc6 ?_
         refine wp_skip ?_
         refine then_n ?_
         refine wp_seq ?_
         refine wp_seq ?_
         refine wp_region_lit ?_
         refine wE (ev_move rfl) F S rfl fun a F=>?_
         refine wE (ev_lenSh h12 rfl tu22) F S rfl fun a F=>?_
         refine wE (ev_int rfl rfl (bo_eql _ _ _ _)) F S rfl fun a F=>?_
         refine wE (ev_move rfl) F S rfl fun a F=>?_
         obtain ⟨x12, hx3, hm⟩ := bind_some hm
         refine wl_cut 4 (fun a w' => w = w' ∧ Fr 228 a [(97, .bool x12), (17, v11), (16, v12), (15, v8), (14, .i6 x3), (13, v1), (12, v4), (11, bp b8 0), (8, bp b5 0), (6, bp b4 0), (5, bp b3 0), (4, bp b2 0), (3, bp b1 0)]) ?_ ?_
         ·clear hm; obtain ⟨hc7, hm⟩ | ⟨hc7, hm⟩ := ite_or hx3
          ·refine wl_skip rfl rfl rfl rfl (ne_ft hc7) F rfl rfl ?_; clear F a; intro a F
           refine wl_skip rfl rfl rfl rfl (ne_ft hc7) F rfl rfl ?_; clear F a; intro a F
           refine wl_skip rfl rfl rfl rfl (ne_ft hc7) F rfl rfl ?_; clear F a; intro a F
           refine wE (ev_pickT rfl hc7 rfl) F S rfl fun a F=>?_
           obtain rfl := sinj hm
           refine wpList_nil (then_n ?_); exact ⟨rfl, F.sub ⟨rfl, rfl, rfl, rfl, rfl, rfl, rfl, rfl, rfl, rfl, rfl, rfl, rfl, trivial⟩⟩
          ·refine wl_ev (wg F rfl rfl rfl rfl hc7) (ev_move rfl) F S rfl rfl ?_; clear F a; intro a F
           refine wl_ev (wg F rfl rfl rfl rfl hc7) (ev_lenSh h11 rfl tu22) F S rfl rfl ?_; clear F a; intro a F
           refine wl_ev (wg F rfl rfl rfl rfl hc7) (ev_int rfl rfl (bo_eql _ _ _ _)) F S rfl rfl ?_; clear F a; intro a F
           refine wE (ev_pickF rfl hc7 rfl) F S rfl fun a F=>?_
           obtain rfl := sinj hm
           refine wpList_nil (then_n ?_); exact ⟨rfl, F.sub ⟨rfl, rfl, rfl, rfl, rfl, rfl, rfl, rfl, rfl, rfl, rfl, rfl, rfl, trivial⟩⟩
         clear F; rintro a w' ⟨rfl, F⟩
         refine wpList_nil ?_
         refine then_n ?_
         obtain ⟨hc8, hm⟩ | ⟨hc8, hm⟩ := ite_or hm
         ·refine wp_condT F rfl hc8 ?_
          refine wp_seq ?_
          refine wp_region_lit ?_
          refine wE (ev_move rfl) F S rfl fun a F=>?_
          refine wE (ev_move rfl) F S rfl fun a F=>?_
          refine wE (ev_move rfl) F S rfl fun a F=>?_
          obtain ⟨y11, hy11, hm⟩ := bind_some hm
          refine wE (ev_idxO (h1.mono ((((l6.trans l8).trans l9).trans l10).trans l11)) hy11 tu22 ts9 rfl rfl) F S rfl fun a F=>?_
          obtain ⟨cs4, hr5, hq4⟩ := elemO (h1.mono ((((l6.trans l8).trans l9).trans l10).trans l11)) hy11
          obtain rfl := rep_str hr5
          refine wE (ev_load1 tu9 rfl rfl (hq4 _ _ 0 rfl)) F S rfl fun a F=>?_
          refine wE (ev_move rfl) F S rfl fun a F=>?_
          refine wE (ev_move rfl) F S rfl fun a F=>?_
          refine wE (ev_build (parts := [(0, .tmp 102), (1, .const (.i6 (-1))), (2, .tmp 103), (3, .tmp 104)]) (vs := [(0, .string y11), (1, .i6 (-1)), (2, v12), (3, v11)]) rfl (fun w => tb36_0_1_2_3 y11 (-1) v12 (RepSl.isSl h12) v11 (RepSl.isSl h11) w)) F S rfl fun a F=>?_
          refine wl_lit (l := ([({ Key := y11, Column := (-1), Old := x10, New := x9 } : CellChange)] : List CellChange)) (vs := [.agg #[.string y11, .i6 (-1), v12, v11]]) (parts := [(0, .tmp 105)]) (wn rfl) rfl rfl rfl tu26 te36 (sz_cons rfl sz_nil) rfl (Cat.cons (rep_CellChange_mk (x := ({ Key := y11, Column := (-1), Old := x10, New := x9 } : CellChange)) h12 h11) (Cat.nil _)) (coa_cons rfl coa_nil) rfl F S rfl rfl ?_; clear F a S
          rintro v13 c8 a w h13 F S
          obtain ⟨cs5, hk1, hr6⟩ := OwnS.reads h13
          obtain ⟨y12, hy12, hm⟩ := bind_some hm
          refine wl_append (wn rfl) rfl tu26 tu26 te36 (by decide) (by decide) F S rfl rfl (k := 2) rfl (h4.mono (((l8.trans l9).trans l10).trans l11)) hk1 rfl (hr6 _ _ _ 0 rfl S) hy12 rfl rfl ?_; clear F a S
          rintro v14 c9 a w h14 S F; replace S : St g11 [c8, c1, c9, [bx b8 #[vbase1, v5] 25], [bx b5 #[.i6 0, .i6 0] 28], [bx b4 #[nilS, nilS] 25], [bx b3 #[vright1, vright2] 25], [bx b2 #[vleft1, vleft2] 25], [bx b1 #[vbase1, vbase2] 25], c5] fr w := S
          refine wE (ev_assign rfl) F S rfl fun a F=>?_
          refine wpList_nil ?_
          refine then_n ?_
          refine wp_cut (fun a w => ∃ (x13 : List Row) (v15 : Value) (c10 : Hl) (g12 : Gh), Fr 228 a [(12, v14), (14, .i6 x3), (13, v1), (11, bp b8 0), (8, bp b5 0), (6, bp b4 0), (5, bp b3 0), (4, bp b2 0), (3, bp b1 0)] ∧ Le g11 g12 ∧ St g12 [c9, c1, [bx b8 #[vbase1, v15] 25], [bx b5 #[.i6 0, .i6 0] 28], [bx b4 #[nilS, nilS] 25], [bx b3 #[vright1, vright2] 25], [bx b2 #[vleft1, vleft2] 25], [bx b1 #[vbase1, vbase2] 25], c10] fr w ∧ OwnS g12 x13 v15 c10 ∧ changeforgeref2_MergeTables.j4 x3 y12 x13 = some x6) ?_ ?_
          ·refine wp_seq ?_
           refine wp_region_lit ?_
           refine wE (ev_move rfl) F S rfl fun a F=>?_
           refine wE (ev_lenSh h12 rfl tu22) F S rfl fun a F=>?_
           refine wE (ev_int rfl rfl (bo_gtr _ _ _ _)) F S rfl fun a F=>?_
           refine wpList_nil ?_
           refine then_n ?_
           obtain ⟨hc9, hm⟩ | ⟨hc9, hm⟩ := ite_or hm
           ·refine wp_condT F rfl hc9 ?_
            refine wp_dv [] mo S ?_; clear S; intro ok6 w S
            refine dv_et ok6 0 rfl (ev_fieldAddr' tu25 tf25_1 (z := 0) ts23 rfl ⟨_, rfl⟩ rfl) F rfl fun a F=>?_
            refine dv_ev ok6 1 rfl (ev_load1 tu23 rfl rfl (box_ptr (cells := [v5]) 3 rfl 1 rfl (lb rfl))) F S rfl fun a F=>?_
            refine dv_et ok6 2 rfl (ev_move rfl) F rfl fun a F=>?_
            refine dv_et ok6 3 rfl (ev_move rfl) F rfl fun a F=>?_
            obtain ⟨y13, hy13, hm⟩ := bind_some hm
            refine dv_et ok6 4 rfl (ev_idxO (h1.mono ((((l6.trans l8).trans l9).trans l10).trans l11)) hy13 tu22 ts9 rfl rfl) F rfl fun a F=>?_
            obtain ⟨cs6, hr7, hq5⟩ := elemO (h1.mono ((((l6.trans l8).trans l9).trans l10).trans l11)) hy13
            obtain rfl := rep_str hr7
            refine dv_ev ok6 5 rfl (ev_load1 tu9 rfl rfl (hq5 _ _ 1 rfl)) F S rfl fun a F=>?_
            refine dv_et ok6 6 rfl (ev_move rfl) F rfl fun a F=>?_
            refine dv_et ok6 7 rfl (ev_build (parts := [(0, .tmp 116), (1, .tmp 117)]) (vs := [(0, .string y13), (1, v12)]) rfl (fun w => tb54_0_1 y13 v12 (RepSl.isSl h12) w)) F rfl fun a F=>?_
            refine dv_op ok6 8 rfl [(1, v5)] ?_
            refine wl_lit (l := ([({ Key := y13, Cells := x10 } : Row)] : List Row)) (vs := [.agg #[.string y13, v12]]) (parts := [(0, .tmp 118)]) (wn rfl) rfl rfl rfl tu23 te54 (sz_cons rfl sz_nil) rfl (Cat.cons (rep_Row_mk (x := ({ Key := y13, Cells := x10 } : Row)) h12) (Cat.nil _)) (coa_cons rfl coa_nil) rfl F S rfl rfl ?_; clear F a S
            rintro v16 c11 a w h16 F S
            refine dv_nx ⟨yl_ev rfl rfl (ev_load1 tu23 rfl rfl (box_ptr (cells := [v5]) 4 rfl 1 rfl (lb rfl))) F S, trivial⟩ ?_
            refine dv_op ok6 9 rfl [] ?_
            obtain ⟨cs7, hk2, hr8⟩ := OwnS.reads h16
            obtain ⟨y14, hy14, hm⟩ := bind_some hm
            refine wl_append (wn rfl) rfl tu23 tu23 te54 (by decide) (by decide) F S rfl rfl (k := 10) rfl (h5.mono (((l8.trans l9).trans l10).trans l11)) hk2 rfl (hr8 _ _ _ 0 rfl S) hy14 rfl rfl ?_; clear F a S
            rintro v17 c12 a w h17 S F; replace S : St g11 [c11, c8, c1, c9, [bx b8 #[vbase1, v5] 25], [bx b5 #[.i6 0, .i6 0] 28], [bx b4 #[nilS, nilS] 25], [bx b3 #[vright1, vright2] 25], [bx b2 #[vleft1, vleft2] 25], [bx b1 #[vbase1, vbase2] 25], c12] fr w := S
            refine dv_nx trivial ?_
            refine dv_et ok6 10 rfl (ev_fieldAddr' tu25 tf25_1 (z := 0) ts23 rfl ⟨_, rfl⟩ rfl) F rfl fun a F=>?_
            refine dv_op ok6 11 rfl [] ?_
            refine wl_storeC (wn rfl) rfl F S rfl rfl (vs := [v17]) (OwnS.cl h17) ts23 (one_cons (OwnS.one h17) one_nil) (k := 4) rfl (lb rfl) (c' := #[vbase1, v17]) rfl rfl ?_; clear S; intro w S
            refine dv_nx trivial ?_
            refine dv_fin ok6 ?_
            refine then_n ?_
            replace S : St g11 [c9, c1, [bx b8 #[vbase1, v17] 25], [bx b5 #[.i6 0, .i6 0] 28], [bx b4 #[nilS, nilS] 25], [bx b3 #[vright1, vright2] 25], [bx b2 #[vleft1, vleft2] 25], [bx b1 #[vbase1, vbase2] 25], c12] fr w := St.tail [c9, c1, [bx b8 #[vbase1, v17] 25], [bx b5 #[.i6 0, .i6 0] 28], [bx b4 #[nilS, nilS] 25], [bx b3 #[vright1, vright2] 25], [bx b2 #[vleft1, vleft2] 25], [bx b1 #[vbase1, vbase2] 25], c12] _ (((((((((S.frontC 10 rfl).frontC 10 rfl).frontC 10 rfl).frontC 10 rfl).frontC 10 rfl).frontC 10 rfl).frontC 10 rfl).frontC 9 rfl).frontC 11 rfl)
            exact ⟨y14, v17, c12, g11, F.sub ⟨rfl, rfl, rfl, rfl, rfl, rfl, rfl, rfl, rfl, trivial⟩, (Le.refl _), S, h17, hm⟩
           ·refine wp_condF F rfl hc9 ?_
            refine wp_skip ?_
            refine then_n ?_
            replace S : St g11 [c9, c1, [bx b8 #[vbase1, v5] 25], [bx b5 #[.i6 0, .i6 0] 28], [bx b4 #[nilS, nilS] 25], [bx b3 #[vright1, vright2] 25], [bx b2 #[vleft1, vleft2] 25], [bx b1 #[vbase1, vbase2] 25], c5] fr w := St.tail [c9, c1, [bx b8 #[vbase1, v5] 25], [bx b5 #[.i6 0, .i6 0] 28], [bx b4 #[nilS, nilS] 25], [bx b3 #[vright1, vright2] 25], [bx b2 #[vleft1, vleft2] 25], [bx b1 #[vbase1, vbase2] 25], c5] _ (((((((((S.frontC 9 rfl).frontC 9 rfl).frontC 9 rfl).frontC 9 rfl).frontC 9 rfl).frontC 9 rfl).frontC 9 rfl).frontC 8 rfl).frontC 10 rfl)
            exact ⟨x5, v5, c5, g11, F.sub ⟨rfl, rfl, rfl, rfl, rfl, rfl, rfl, rfl, rfl, trivial⟩, (Le.refl _), S, (h5.mono (((l8.trans l9).trans l10).trans l11)), hm⟩
          ·clear F S hm; rintro a w ⟨x13, v15, c10, g12, F, l12, S, h15, hm⟩
           refine wp_exit ?_
           refine then_e ?_
           refine inb_x ?_
           refine then_n ?_
           replace S : St g12 [c1, c9, [bx b8 #[vbase1, v15] 25], [bx b5 #[.i6 0, .i6 0] 28], [bx b4 #[nilS, nilS] 25], [bx b3 #[vright1, vright2] 25], [bx b2 #[vleft1, vleft2] 25], [bx b1 #[vbase1, vbase2] 25], c10] fr w := St.tail [c1, c9, [bx b8 #[vbase1, v15] 25], [bx b5 #[.i6 0, .i6 0] 28], [bx b4 #[nilS, nilS] 25], [bx b3 #[vright1, vright2] 25], [bx b2 #[vleft1, vleft2] 25], [bx b1 #[vbase1, vbase2] 25], c10] _ (((((((((S.frontC 8 rfl).frontC 8 rfl).frontC 8 rfl).frontC 8 rfl).frontC 8 rfl).frontC 8 rfl).frontC 8 rfl).frontC 7 rfl).frontC 9 rfl)
           exact ⟨y12, x13, v14, v15, c9, c10, g12, F.sub ⟨rfl, rfl, rfl, rfl, rfl, rfl, rfl, rfl, rfl, trivial⟩, ((((l8.trans l9).trans l10).trans l11).trans l12), S, (h14.mono l12), h15, hm⟩
         ·refine wp_condF F rfl hc8 ?_
          refine wp_skip ?_
          refine then_n ?_
          refine wp_seq ?_
          refine wp_region_lit ?_
          refine wE (ev_assign rfl) F S rfl fun a F=>?_
          refine wpList_nil ?_
          refine then_n ?_
          refine wp_cut (fun a w => ∃ (x14 : List ByteArray) (x15 : List CellChange) (v18 v19 : Value) (c13 c14 : Hl) (g13 : Gh), Fr 228 a [(18, v18), (14, .i6 x3), (13, v1), (12, v19), (11, bp b8 0), (8, bp b5 0), (6, bp b4 0), (5, bp b3 0), (4, bp b2 0), (3, bp b1 0)] ∧ Le g11 g13 ∧ St g13 [c13, c1, c14, [bx b8 #[vbase1, v5] 25], [bx b5 #[.i6 0, .i6 0] 28], [bx b4 #[nilS, nilS] 25], [bx b3 #[vright1, vright2] 25], [bx b2 #[vleft1, vleft2] 25], [bx b1 #[vbase1, vbase2] 25], c5] fr w ∧ OwnS g13 x14 v18 c13 ∧ OwnS g13 x15 v19 c14 ∧ changeforgeref2_MergeTables.j5 y3 x3 x5 x14 x15 = some x6) ?_ ?_
          ·refine wp_seq ?_
           refine wp_region_lit ?_
           refine wE (ev_assign rfl) F S rfl fun a F=>?_
           refine wpList_nil ?_
           refine then_n ?_
           refine wp_block ?_
           obtain ⟨r2, hr11, hm⟩ := bind_some hm
           have hmo2 := hm; clear hm
           refine wp_iter (σ := Int × (List ByteArray) × (List CellChange)) (ρ := (List ByteArray) × (List CellChange)) (m := fun s => changeforgeref2_MergeTables.l2 y3 x3 y6 x9 x10 s.1 s.2.1 s.2.2) (I := fun s a w => match s with | (x16, x17, x18) => ∃ (v22 v23 : Value) (c17 c18 : Hl) (g15 : Gh), Fr 228 a [(19, .i6 x16), (18, v22), (17, v11), (16, v12), (15, v8), (14, .i6 x3), (13, v1), (12, v23), (11, bp b8 0), (8, bp b5 0), (6, bp b4 0), (5, bp b3 0), (4, bp b2 0), (3, bp b1 0)] ∧ Le g11 g15 ∧ St g15 [c17, c1, c18, [bx b8 #[vbase1, v5] 25], [bx b5 #[.i6 0, .i6 0] 28], [bx b4 #[nilS, nilS] 25], [bx b3 #[vright1, vright2] 25], [bx b2 #[vleft1, vleft2] 25], [bx b1 #[vbase1, vbase2] 25], c5] fr w ∧ OwnS g15 x17 v22 c17 ∧ OwnS g15 x18 v23 c18) hr11 ?_ ?_
           ·dsimp only
            replace S : St g11 [[], c1, c4, [bx b8 #[vbase1, v5] 25], [bx b5 #[.i6 0, .i6 0] 28], [bx b4 #[nilS, nilS] 25], [bx b3 #[vright1, vright2] 25], [bx b2 #[vleft1, vleft2] 25], [bx b1 #[vbase1, vbase2] 25], c5] fr w := S
            exact ⟨(nilS), v4, [], c4, g11, F.sub ⟨rfl, rfl, rfl, rfl, rfl, rfl, rfl, rfl, rfl, rfl, rfl, rfl, rfl, rfl, trivial⟩, (Le.refl _), S, (OwnS.nil _), (h4.mono (((l8.trans l9).trans l10).trans l11))⟩
           ·clear F S; rintro ⟨x16, x17, x18⟩ a w x19 ⟨v22, v23, c17, c18, g15, F, l15, S, h23, h24⟩ hx4 hfin2
            have hm : changeforgeref2_MergeTables.l2 y3 x3 y6 x9 x10 x16 x17 x18 = some x19 := hx4; clear hx4
            unfold changeforgeref2_MergeTables.l2 at hm
            refine wp_seq ?_
            refine wp_seq ?_
            refine wp_region_lit ?_
            refine wE (ev_move rfl) F S rfl fun a F=>?_
            refine wE (ev_move rfl) F S rfl fun a F=>?_
            refine wE (ev_lenSh h12 rfl tu22) F S rfl fun a F=>?_
            refine wE (ev_int rfl rfl (bo_lss _ _ _ _)) F S rfl fun a F=>?_
            refine wpList_nil ?_
            refine then_n ?_
            obtain ⟨hc10, hm⟩ | ⟨hc10, hm⟩ := ite_or hm
            ·refine wp_condT F rfl hc10 ?_
             refine wp_skip ?_
             refine then_n ?_
             refine wp_cut (fun a w => ∃ (x20 : List ByteArray) (x21 : List CellChange) (v24 v25 : Value) (c19 c20 : Hl) (g16 : Gh), Fr 228 a [(18, v24), (19, .i6 x16), (17, v11), (16, v12), (15, v8), (14, .i6 x3), (13, v1), (12, v25), (11, bp b8 0), (8, bp b5 0), (6, bp b4 0), (5, bp b3 0), (4, bp b2 0), (3, bp b1 0)] ∧ Le g15 g16 ∧ St g16 [c19, c1, c20, [bx b8 #[vbase1, v5] 25], [bx b5 #[.i6 0, .i6 0] 28], [bx b4 #[nilS, nilS] 25], [bx b3 #[vright1, vright2] 25], [bx b2 #[vleft1, vleft2] 25], [bx b1 #[vbase1, vbase2] 25], c5] fr w ∧ OwnS g16 x20 v24 c19 ∧ OwnS g16 x21 v25 c20 ∧ changeforgeref2_MergeTables.j6 x16 x20 x21 = some x19) ?_ ?_
             ·refine wp_block ?_
              refine wp_seq ?_
              refine wp_region_lit ?_
              refine wE (ev_move rfl) F S rfl fun a F=>?_
              refine wE (ev_lenSh h8 rfl tu22) F S rfl fun a F=>?_
              refine wE (ev_int rfl rfl (bo_eql _ _ _ _)) F S rfl fun a F=>?_
              refine wE (ev_assign rfl) F S rfl fun a F=>?_
              refine wpList_nil ?_
              refine then_n ?_
              refine wp_seq ?_
              refine wp_quiet mo (by kernel_rfl) S ?_
              refine wq_ev (wn rfl) (ev_move rfl) F rfl rfl ?_; clear F a; intro a F
              refine wq_ev (wn rfl) (ev_move rfl) F rfl rfl ?_; clear F a; intro a F
              obtain ⟨y17, hy17, hm⟩ := bind_some hm
              obtain ⟨cs10, hr12, hp1⟩ := elemS (h12.mono l15) hy17
              obtain rfl := rep_str hr12
              refine wq_ev (wn rfl) (ev_idxS (h12.mono l15) hy17 tu22 ts9 rfl rfl) F rfl rfl ?_; clear F a; intro a F
              refine wq_ev (wn rfl) (ev_load1 tu9 rfl rfl (ptr_mono (cks := [c17, c1, c18, [bx b8 #[vbase1, v5] 25], [bx b5 #[.i6 0, .i6 0] 28], [bx b4 #[nilS, nilS] 25], [bx b3 #[vright1, vright2] 25], [bx b2 #[vleft1, vleft2] 25], [bx b1 #[vbase1, vbase2] 25], c5]) (fr := fr) hp1 (Le.refl _))) F rfl rfl ?_; clear F a; intro a F
              refine wq_ev (wn rfl) (ev_move rfl) F rfl rfl ?_; clear F a; intro a F
              refine wq_ev (wn rfl) (ev_move rfl) F rfl rfl ?_; clear F a; intro a F
              obtain ⟨y18, hy18, hm⟩ := bind_some hm
              obtain ⟨cs11, hr13, hp2⟩ := elemS (h11.mono l15) hy18
              obtain rfl := rep_str hr13
              refine wq_ev (wn rfl) (ev_idxS (h11.mono l15) hy18 tu22 ts9 rfl rfl) F rfl rfl ?_; clear F a; intro a F
              refine wq_ev (wn rfl) (ev_load1 tu9 rfl rfl (ptr_mono (cks := [c17, c1, c18, [bx b8 #[vbase1, v5] 25], [bx b5 #[.i6 0, .i6 0] 28], [bx b4 #[nilS, nilS] 25], [bx b3 #[vright1, vright2] 25], [bx b2 #[vleft1, vleft2] 25], [bx b1 #[vbase1, vbase2] 25], c5]) (fr := fr) hp2 (Le.refl _))) F rfl rfl ?_; clear F a; intro a F
              refine wq_ev (wn rfl) (ev_str rfl rfl (bs_eql _ _ _)) F rfl rfl ?_; clear F a; intro a F
              refine wq_ev (wn rfl) (ev_move rfl) F rfl rfl ?_; clear F a; intro a F
              obtain ⟨x22, hx5, hm⟩ := bind_some hm
              refine wq_cut 14 (fun a => Fr 228 a [(154, .bool x22), (20, .bool (decide ((y6.length : Int) = 0))), (19, .i6 x16), (18, v22), (17, v11), (16, v12), (15, v8), (14, .i6 x3), (13, v1), (12, v23), (11, bp b8 0), (8, bp b5 0), (6, bp b4 0), (5, bp b3 0), (4, bp b2 0), (3, bp b1 0)]) ?_ ?_
              ·clear hm; obtain ⟨hc11, hm⟩ | ⟨hc11, hm⟩ := ite_or hx5
               ·refine wq_skip rfl rfl rfl rfl (ne_ft hc11) F rfl rfl ?_; clear F a; intro a F
                refine wq_skip rfl rfl rfl rfl (ne_ft hc11) F rfl rfl ?_; clear F a; intro a F
                refine wq_skip rfl rfl rfl rfl (ne_ft hc11) F rfl rfl ?_; clear F a; intro a F
                refine wq_skipu rfl rfl rfl rfl F rfl rfl ?_; clear F a; intro a F
                refine wq_skipu rfl rfl rfl rfl F rfl rfl ?_; clear F a; intro a F
                refine wq_skipu rfl rfl rfl rfl F rfl rfl ?_; clear F a; intro a F
                refine wq_skipu rfl rfl rfl rfl F rfl rfl ?_; clear F a; intro a F
                refine wq_skipu rfl rfl rfl rfl F rfl rfl ?_; clear F a; intro a F
                refine wq_skipu rfl rfl rfl rfl F rfl rfl ?_; clear F a; intro a F
                refine wq_skipu rfl rfl rfl rfl F rfl rfl ?_; clear F a; intro a F
                refine wq_skipu rfl rfl rfl rfl F rfl rfl ?_; clear F a; intro a F
                refine wq_skipu rfl rfl rfl rfl F rfl rfl ?_; clear F a; intro a F
                refine wq_skip rfl rfl rfl rfl (ne_ft hc11) F rfl rfl ?_; clear F a; intro a F
                refine wq_ev (wn rfl) (ev_pickT rfl hc11 rfl) F rfl rfl ?_; clear F a; intro a F
                obtain rfl := sinj hm
                refine wq_nil ?_; exact F.sub ⟨rfl, rfl, rfl, rfl, rfl, rfl, rfl, rfl, rfl, rfl, rfl, rfl, rfl, rfl, rfl, rfl, trivial⟩
               ·refine wq_ev (wg F rfl rfl rfl rfl hc11) (ev_move rfl) F rfl rfl ?_; clear F a; intro a F
                refine wq_ev (wg F rfl rfl rfl rfl hc11) (ev_not rfl) F rfl rfl ?_; clear F a; intro a F
                refine wq_ev (wg F rfl rfl rfl rfl hc11) (ev_move rfl) F rfl rfl ?_; clear F a; intro a F
                obtain ⟨x23, hx6, hm⟩ := bind_some hm
                refine wq_cut 10 (fun a => Fr 228 a [(153, .bool x23), (143, .bool (!(decide ((y6.length : Int) = 0)))), (142, .bool (!(decide ((y6.length : Int) = 0)))), (141, .bool (decide ((y6.length : Int) = 0))), (140, .bool (decide (y17 = y18))), (20, .bool (decide ((y6.length : Int) = 0))), (19, .i6 x16), (18, v22), (17, v11), (16, v12), (15, v8), (14, .i6 x3), (13, v1), (12, v23), (11, bp b8 0), (8, bp b5 0), (6, bp b4 0), (5, bp b3 0), (4, bp b2 0), (3, bp b1 0)]) ?_ ?_
                ·clear hm; obtain ⟨hc12, hm⟩ | ⟨hc12, hm⟩ := ite_or hx6
                 ·refine wq_ev (wg F rfl rfl rfl rfl hc12) (ev_move rfl) F rfl rfl ?_; clear F a; intro a F
                  refine wq_ev (wg F rfl rfl rfl rfl hc12) (ev_move rfl) F rfl rfl ?_; clear F a; intro a F
                  obtain ⟨y19, hy19, hm⟩ := bind_some hm
                  obtain ⟨cs12, hr14, hp3⟩ := elemS (h11.mono l15) hy19
                  obtain rfl := rep_str hr14
                  refine wq_ev (wg F rfl rfl rfl rfl hc12) (ev_idxS (h11.mono l15) hy19 tu22 ts9 rfl rfl) F rfl rfl ?_; clear F a; intro a F
                  refine wq_ev (wg F rfl rfl rfl rfl hc12) (ev_load1 tu9 rfl rfl (ptr_mono (cks := [c17, c1, c18, [bx b8 #[vbase1, v5] 25], [bx b5 #[.i6 0, .i6 0] 28], [bx b4 #[nilS, nilS] 25], [bx b3 #[vright1, vright2] 25], [bx b2 #[vleft1, vleft2] 25], [bx b1 #[vbase1, vbase2] 25], c5]) (fr := fr) hp3 (Le.refl _))) F rfl rfl ?_; clear F a; intro a F
                  refine wq_ev (wg F rfl rfl rfl rfl hc12) (ev_move rfl) F rfl rfl ?_; clear F a; intro a F
                  refine wq_ev (wg F rfl rfl rfl rfl hc12) (ev_move rfl) F rfl rfl ?_; clear F a; intro a F
                  obtain ⟨y20, hy20, hm⟩ := bind_some hm
                  obtain ⟨cs13, hr15, hp4⟩ := elemS (h8.mono (((l9.trans l10).trans l11).trans l15)) hy20
                  obtain rfl := rep_str hr15
                  refine wq_ev (wg F rfl rfl rfl rfl hc12) (ev_idxS (h8.mono (((l9.trans l10).trans l11).trans l15)) hy20 tu22 ts9 rfl rfl) F rfl rfl ?_; clear F a; intro a F
                  refine wq_ev (wg F rfl rfl rfl rfl hc12) (ev_load1 tu9 rfl rfl (ptr_mono (cks := [c17, c1, c18, [bx b8 #[vbase1, v5] 25], [bx b5 #[.i6 0, .i6 0] 28], [bx b4 #[nilS, nilS] 25], [bx b3 #[vright1, vright2] 25], [bx b2 #[vleft1, vleft2] 25], [bx b1 #[vbase1, vbase2] 25], c5]) (fr := fr) hp4 (Le.refl _))) F rfl rfl ?_; clear F a; intro a F
                  refine wq_ev (wg F rfl rfl rfl rfl hc12) (ev_str rfl rfl (bs_eql _ _ _)) F rfl rfl ?_; clear F a; intro a F
                  refine wq_ev (wg F rfl rfl rfl rfl hc11) (ev_pickT rfl hc12 rfl) F rfl rfl ?_; clear F a; intro a F
                  obtain rfl := sinj hm
                  refine wq_nil ?_; exact F.sub ⟨rfl, rfl, rfl, rfl, rfl, rfl, rfl, rfl, rfl, rfl, rfl, rfl, rfl, rfl, rfl, rfl, rfl, rfl, rfl, rfl, trivial⟩
                 ·refine wq_skip rfl rfl rfl rfl (ne_tf hc12) F rfl rfl ?_; clear F a; intro a F
                  refine wq_skip rfl rfl rfl rfl (ne_tf hc12) F rfl rfl ?_; clear F a; intro a F
                  refine wq_skip rfl rfl rfl rfl (ne_tf hc12) F rfl rfl ?_; clear F a; intro a F
                  refine wq_skip rfl rfl rfl rfl (ne_tf hc12) F rfl rfl ?_; clear F a; intro a F
                  refine wq_skip rfl rfl rfl rfl (ne_tf hc12) F rfl rfl ?_; clear F a; intro a F
                  refine wq_skip rfl rfl rfl rfl (ne_tf hc12) F rfl rfl ?_; clear F a; intro a F
                  refine wq_skip rfl rfl rfl rfl (ne_tf hc12) F rfl rfl ?_; clear F a; intro a F
                  refine wq_skip rfl rfl rfl rfl (ne_tf hc12) F rfl rfl ?_; clear F a; intro a F
                  refine wq_skip rfl rfl rfl rfl (ne_tf hc12) F rfl rfl ?_; clear F a; intro a F
                  refine wq_ev (wg F rfl rfl rfl rfl hc11) (ev_pickF rfl hc12 rfl) F rfl rfl ?_; clear F a; intro a F
                  obtain rfl := sinj hm
                  refine wq_nil ?_; exact F.sub ⟨rfl, rfl, rfl, rfl, rfl, rfl, rfl, rfl, rfl, rfl, rfl, rfl, rfl, rfl, rfl, rfl, rfl, rfl, rfl, rfl, trivial⟩
                clear F; intro a F
                refine wq_ev (wn rfl) (ev_pickF rfl hc11 rfl) F rfl rfl ?_; clear F a; intro a F
                obtain rfl := sinj hm
                refine wq_nil ?_; exact F.sub ⟨rfl, rfl, rfl, rfl, rfl, rfl, rfl, rfl, rfl, rfl, rfl, rfl, rfl, rfl, rfl, rfl, trivial⟩
              clear F; intro a F
              refine wq_nil ?_; clear S; intro w S
              refine then_n ?_
              obtain ⟨hc13, hm⟩ | ⟨hc13, hm⟩ := ite_or hm
              ·refine wp_condT F rfl hc13 ?_
               refine wp_region_lit ?_
               refine wE (ev_move rfl) F S rfl fun a F=>?_
               refine wE (ev_move rfl) F S rfl fun a F=>?_
               refine wE (ev_move rfl) F S rfl fun a F=>?_
               obtain ⟨y21, hy21, hm⟩ := bind_some hm
               obtain ⟨cs14, hr16, hp5⟩ := elemS (h12.mono l15) hy21
               obtain rfl := rep_str hr16
               refine wE (ev_idxS (h12.mono l15) hy21 tu22 ts9 rfl rfl) F S rfl fun a F=>?_
               refine wE (ev_load1 tu9 rfl rfl (ptr_mono (cks := [c17, c1, c18, [bx b8 #[vbase1, v5] 25], [bx b5 #[.i6 0, .i6 0] 28], [bx b4 #[nilS, nilS] 25], [bx b3 #[vright1, vright2] 25], [bx b2 #[vleft1, vleft2] 25], [bx b1 #[vbase1, vbase2] 25], c5]) (fr := fr) hp5 (Le.refl _))) F S rfl fun a F=>?_
               refine wl_lit (l := ([y21] : List ByteArray)) (vs := [.string y21]) (parts := [(0, .tmp 159)]) (wn rfl) rfl rfl rfl tu22 te9 (sz_cons rfl sz_nil) rfl (Cat.cons (show Rep.rep _ y21 _ from rfl) (Cat.nil _)) (coa_cons rfl coa_nil) rfl F S rfl rfl ?_; clear F a S
               rintro v26 c21 a w h27 F S
               obtain ⟨cs15, hk4, hr17⟩ := OwnS.reads h27
               obtain ⟨y22, hy22, hm⟩ := bind_some hm
               refine wl_append (wn rfl) rfl tu22 tu22 te9 (by decide) (by decide) F S rfl rfl (k := 1) rfl h23 hk4 rfl (hr17 _ _ _ 0 rfl S) hy22 rfl rfl ?_; clear F a S
               rintro v27 c22 a w h28 S F; replace S : St g15 [c21, c22, c1, c18, [bx b8 #[vbase1, v5] 25], [bx b5 #[.i6 0, .i6 0] 28], [bx b4 #[nilS, nilS] 25], [bx b3 #[vright1, vright2] 25], [bx b2 #[vleft1, vleft2] 25], [bx b1 #[vbase1, vbase2] 25], c5] fr w := S
               refine wE (ev_assign rfl) F S rfl fun a F=>?_
               refine wpList_nil ?_
               refine inb_n ?_
               refine then_n ?_
               replace S : St g15 [c22, c1, c18, [bx b8 #[vbase1, v5] 25], [bx b5 #[.i6 0, .i6 0] 28], [bx b4 #[nilS, nilS] 25], [bx b3 #[vright1, vright2] 25], [bx b2 #[vleft1, vleft2] 25], [bx b1 #[vbase1, vbase2] 25], c5] fr w := St.tail [c22, c1, c18, [bx b8 #[vbase1, v5] 25], [bx b5 #[.i6 0, .i6 0] 28], [bx b4 #[nilS, nilS] 25], [bx b3 #[vright1, vright2] 25], [bx b2 #[vleft1, vleft2] 25], [bx b1 #[vbase1, vbase2] 25], c5] _ ((((((((((S.frontC 10 rfl).frontC 10 rfl).frontC 10 rfl).frontC 10 rfl).frontC 10 rfl).frontC 10 rfl).frontC 10 rfl).frontC 10 rfl).frontC 10 rfl).frontC 10 rfl)
               exact ⟨y22, x18, v27, v23, c22, c18, g15, F.sub ⟨rfl, rfl, rfl, rfl, rfl, rfl, rfl, rfl, rfl, rfl, rfl, rfl, rfl, rfl, trivial⟩, (Le.refl _), S, h28, h24, hm⟩
              ·refine wp_condF F rfl hc13 ?_
               refine wp_seq ?_
               refine wp_quiet mo (by kernel_rfl) S ?_
               refine wq_ev (wn rfl) (ev_move rfl) F rfl rfl ?_; clear F a; intro a F
               refine wq_ev (wn rfl) (ev_not rfl) F rfl rfl ?_; clear F a; intro a F
               refine wq_ev (wn rfl) (ev_move rfl) F rfl rfl ?_; clear F a; intro a F
               obtain ⟨x24, hx7, hm⟩ := bind_some hm
               refine wq_cut 10 (fun a => Fr 228 a [(174, .bool x24), (19, .i6 x16), (18, v22), (17, v11), (16, v12), (15, v8), (14, .i6 x3), (13, v1), (12, v23), (11, bp b8 0), (8, bp b5 0), (6, bp b4 0), (5, bp b3 0), (4, bp b2 0), (3, bp b1 0)]) ?_ ?_
               ·clear hm; obtain ⟨hc14, hm⟩ | ⟨hc14, hm⟩ := ite_or hx7
                ·refine wq_ev (wg F rfl rfl rfl rfl hc14) (ev_move rfl) F rfl rfl ?_; clear F a; intro a F
                 refine wq_ev (wg F rfl rfl rfl rfl hc14) (ev_move rfl) F rfl rfl ?_; clear F a; intro a F
                 obtain ⟨y23, hy23, hm⟩ := bind_some hm
                 obtain ⟨cs16, hr18, hp6⟩ := elemS (h12.mono l15) hy23
                 obtain rfl := rep_str hr18
                 refine wq_ev (wg F rfl rfl rfl rfl hc14) (ev_idxS (h12.mono l15) hy23 tu22 ts9 rfl rfl) F rfl rfl ?_; clear F a; intro a F
                 refine wq_ev (wg F rfl rfl rfl rfl hc14) (ev_load1 tu9 rfl rfl (ptr_mono (cks := [c17, c1, c18, [bx b8 #[vbase1, v5] 25], [bx b5 #[.i6 0, .i6 0] 28], [bx b4 #[nilS, nilS] 25], [bx b3 #[vright1, vright2] 25], [bx b2 #[vleft1, vleft2] 25], [bx b1 #[vbase1, vbase2] 25], c5]) (fr := fr) hp6 (Le.refl _))) F rfl rfl ?_; clear F a; intro a F
                 refine wq_ev (wg F rfl rfl rfl rfl hc14) (ev_move rfl) F rfl rfl ?_; clear F a; intro a F
                 refine wq_ev (wg F rfl rfl rfl rfl hc14) (ev_move rfl) F rfl rfl ?_; clear F a; intro a F
                 obtain ⟨y24, hy24, hm⟩ := bind_some hm
                 obtain ⟨cs17, hr19, hp7⟩ := elemS (h8.mono (((l9.trans l10).trans l11).trans l15)) hy24
                 obtain rfl := rep_str hr19
                 refine wq_ev (wg F rfl rfl rfl rfl hc14) (ev_idxS (h8.mono (((l9.trans l10).trans l11).trans l15)) hy24 tu22 ts9 rfl rfl) F rfl rfl ?_; clear F a; intro a F
                 refine wq_ev (wg F rfl rfl rfl rfl hc14) (ev_load1 tu9 rfl rfl (ptr_mono (cks := [c17, c1, c18, [bx b8 #[vbase1, v5] 25], [bx b5 #[.i6 0, .i6 0] 28], [bx b4 #[nilS, nilS] 25], [bx b3 #[vright1, vright2] 25], [bx b2 #[vleft1, vleft2] 25], [bx b1 #[vbase1, vbase2] 25], c5]) (fr := fr) hp7 (Le.refl _))) F rfl rfl ?_; clear F a; intro a F
                 refine wq_ev (wg F rfl rfl rfl rfl hc14) (ev_str rfl rfl (bs_eql _ _ _)) F rfl rfl ?_; clear F a; intro a F
                 refine wq_ev (wn rfl) (ev_pickT rfl hc14 rfl) F rfl rfl ?_; clear F a; intro a F
                 obtain rfl := sinj hm
                 refine wq_nil ?_; exact F.sub ⟨rfl, rfl, rfl, rfl, rfl, rfl, rfl, rfl, rfl, rfl, rfl, rfl, rfl, rfl, rfl, trivial⟩
                ·refine wq_skip rfl rfl rfl rfl (ne_tf hc14) F rfl rfl ?_; clear F a; intro a F
                 refine wq_skip rfl rfl rfl rfl (ne_tf hc14) F rfl rfl ?_; clear F a; intro a F
                 refine wq_skip rfl rfl rfl rfl (ne_tf hc14) F rfl rfl ?_; clear F a; intro a F
                 refine wq_skip rfl rfl rfl rfl (ne_tf hc14) F rfl rfl ?_; clear F a; intro a F
                 refine wq_skip rfl rfl rfl rfl (ne_tf hc14) F rfl rfl ?_; clear F a; intro a F
                 refine wq_skip rfl rfl rfl rfl (ne_tf hc14) F rfl rfl ?_; clear F a; intro a F
                 refine wq_skip rfl rfl rfl rfl (ne_tf hc14) F rfl rfl ?_; clear F a; intro a F
                 refine wq_skip rfl rfl rfl rfl (ne_tf hc14) F rfl rfl ?_; clear F a; intro a F
                 refine wq_skip rfl rfl rfl rfl (ne_tf hc14) F rfl rfl ?_; clear F a; intro a F
                 refine wq_ev (wn rfl) (ev_pickF rfl hc14 rfl) F rfl rfl ?_; clear F a; intro a F
                 obtain rfl := sinj hm
                 refine wq_nil ?_; exact F.sub ⟨rfl, rfl, rfl, rfl, rfl, rfl, rfl, rfl, rfl, rfl, rfl, rfl, rfl, rfl, rfl, trivial⟩
               clear F; intro a F
               refine wq_nil ?_; clear S; intro w S
               refine then_n ?_
               obtain ⟨hc15, hm⟩ | ⟨hc15, hm⟩ := ite_or hm
               ·refine wp_condT F rfl hc15 ?_
                refine wp_region_lit ?_
                refine wE (ev_move rfl) F S rfl fun a F=>?_
                refine wE (ev_move rfl) F S rfl fun a F=>?_
                refine wE (ev_move rfl) F S rfl fun a F=>?_
                obtain ⟨y25, hy25, hm⟩ := bind_some hm
                obtain ⟨cs18, hr20, hp8⟩ := elemS (h11.mono l15) hy25
                obtain rfl := rep_str hr20
                refine wE (ev_idxS (h11.mono l15) hy25 tu22 ts9 rfl rfl) F S rfl fun a F=>?_
                refine wE (ev_load1 tu9 rfl rfl (ptr_mono (cks := [c17, c1, c18, [bx b8 #[vbase1, v5] 25], [bx b5 #[.i6 0, .i6 0] 28], [bx b4 #[nilS, nilS] 25], [bx b3 #[vright1, vright2] 25], [bx b2 #[vleft1, vleft2] 25], [bx b1 #[vbase1, vbase2] 25], c5]) (fr := fr) hp8 (Le.refl _))) F S rfl fun a F=>?_
                refine wl_lit (l := ([y25] : List ByteArray)) (vs := [.string y25]) (parts := [(0, .tmp 179)]) (wn rfl) rfl rfl rfl tu22 te9 (sz_cons rfl sz_nil) rfl (Cat.cons (show Rep.rep _ y25 _ from rfl) (Cat.nil _)) (coa_cons rfl coa_nil) rfl F S rfl rfl ?_; clear F a S
                rintro v28 c23 a w h29 F S
                obtain ⟨cs19, hk5, hr21⟩ := OwnS.reads h29
                obtain ⟨y26, hy26, hm⟩ := bind_some hm
                refine wl_append (wn rfl) rfl tu22 tu22 te9 (by decide) (by decide) F S rfl rfl (k := 1) rfl h23 hk5 rfl (hr21 _ _ _ 0 rfl S) hy26 rfl rfl ?_; clear F a S
                rintro v29 c24 a w h30 S F; replace S : St g15 [c23, c24, c1, c18, [bx b8 #[vbase1, v5] 25], [bx b5 #[.i6 0, .i6 0] 28], [bx b4 #[nilS, nilS] 25], [bx b3 #[vright1, vright2] 25], [bx b2 #[vleft1, vleft2] 25], [bx b1 #[vbase1, vbase2] 25], c5] fr w := S
                refine wE (ev_assign rfl) F S rfl fun a F=>?_
                refine wpList_nil ?_
                refine inb_n ?_
                refine then_n ?_
                replace S : St g15 [c24, c1, c18, [bx b8 #[vbase1, v5] 25], [bx b5 #[.i6 0, .i6 0] 28], [bx b4 #[nilS, nilS] 25], [bx b3 #[vright1, vright2] 25], [bx b2 #[vleft1, vleft2] 25], [bx b1 #[vbase1, vbase2] 25], c5] fr w := St.tail [c24, c1, c18, [bx b8 #[vbase1, v5] 25], [bx b5 #[.i6 0, .i6 0] 28], [bx b4 #[nilS, nilS] 25], [bx b3 #[vright1, vright2] 25], [bx b2 #[vleft1, vleft2] 25], [bx b1 #[vbase1, vbase2] 25], c5] _ ((((((((((S.frontC 10 rfl).frontC 10 rfl).frontC 10 rfl).frontC 10 rfl).frontC 10 rfl).frontC 10 rfl).frontC 10 rfl).frontC 10 rfl).frontC 10 rfl).frontC 10 rfl)
                exact ⟨y26, x18, v29, v23, c24, c18, g15, F.sub ⟨rfl, rfl, rfl, rfl, rfl, rfl, rfl, rfl, rfl, rfl, rfl, rfl, rfl, rfl, trivial⟩, (Le.refl _), S, h30, h24, hm⟩
               ·refine wp_condF F rfl hc15 ?_
                refine wp_seq ?_
                refine wp_region_lit ?_
                refine wE (ev_move rfl) F S rfl fun a F=>?_
                refine wE (ev_move rfl) F S rfl fun a F=>?_
                refine wE (ev_move rfl) F S rfl fun a F=>?_
                obtain ⟨y27, hy27, hm⟩ := bind_some hm
                obtain ⟨cs20, hr22, hp9⟩ := elemS (h12.mono l15) hy27
                obtain rfl := rep_str hr22
                refine wE (ev_idxS (h12.mono l15) hy27 tu22 ts9 rfl rfl) F S rfl fun a F=>?_
                refine wE (ev_load1 tu9 rfl rfl (ptr_mono (cks := [c17, c1, c18, [bx b8 #[vbase1, v5] 25], [bx b5 #[.i6 0, .i6 0] 28], [bx b4 #[nilS, nilS] 25], [bx b3 #[vright1, vright2] 25], [bx b2 #[vleft1, vleft2] 25], [bx b1 #[vbase1, vbase2] 25], c5]) (fr := fr) hp9 (Le.refl _))) F S rfl fun a F=>?_
                refine wl_lit (l := ([y27] : List ByteArray)) (vs := [.string y27]) (parts := [(0, .tmp 186)]) (wn rfl) rfl rfl rfl tu22 te9 (sz_cons rfl sz_nil) rfl (Cat.cons (show Rep.rep _ y27 _ from rfl) (Cat.nil _)) (coa_cons rfl coa_nil) rfl F S rfl rfl ?_; clear F a S
                rintro v30 c25 a w h31 F S
                obtain ⟨cs21, hk6, hr23⟩ := OwnS.reads h31
                obtain ⟨y28, hy28, hm⟩ := bind_some hm
                refine wl_append (wn rfl) rfl tu22 tu22 te9 (by decide) (by decide) F S rfl rfl (k := 1) rfl h23 hk6 rfl (hr23 _ _ _ 0 rfl S) hy28 rfl rfl ?_; clear F a S
                rintro v31 c26 a w h32 S F; replace S : St g15 [c25, c26, c1, c18, [bx b8 #[vbase1, v5] 25], [bx b5 #[.i6 0, .i6 0] 28], [bx b4 #[nilS, nilS] 25], [bx b3 #[vright1, vright2] 25], [bx b2 #[vleft1, vleft2] 25], [bx b1 #[vbase1, vbase2] 25], c5] fr w := S
                refine wE (ev_assign rfl) F S rfl fun a F=>?_
                refine wpList_nil ?_
                refine then_n ?_
                refine wp_dv [19] mo S ?_; clear S; intro ok8 w S
                refine dv_et ok8 0 rfl (ev_move rfl) F rfl fun a F=>?_
                refine dv_et ok8 1 rfl (ev_move rfl) F rfl fun a F=>?_
                refine dv_et ok8 2 rfl (ev_move rfl) F rfl fun a F=>?_
                obtain ⟨y29, hy29, hm⟩ := bind_some hm
                refine dv_et ok8 3 rfl (ev_idxO (h1.mono (((((l6.trans l8).trans l9).trans l10).trans l11).trans l15)) hy29 tu22 ts9 rfl rfl) F rfl fun a F=>?_
                obtain ⟨cs22, hr24, hq7⟩ := elemO (h1.mono (((((l6.trans l8).trans l9).trans l10).trans l11).trans l15)) hy29
                obtain rfl := rep_str hr24
                refine dv_ev ok8 4 rfl (ev_load1 tu9 rfl rfl (hq7 _ _ 2 rfl)) F S rfl fun a F=>?_
                refine dv_et ok8 5 rfl (ev_move rfl) F rfl fun a F=>?_
                refine dv_et ok8 6 rfl (ev_move rfl) F rfl fun a F=>?_
                refine dv_et ok8 7 rfl (ev_move rfl) F rfl fun a F=>?_
                refine dv_et ok8 8 rfl (ev_move rfl) F rfl fun a F=>?_
                obtain ⟨z3, hz3, hm⟩ := bind_some hm
                refine dv_et ok8 9 rfl (ev_int rfl rfl (bo_add hz3)) F rfl fun a F=>?_
                obtain ⟨y30, hy30, hm⟩ := bind_some hm
                replace F := F.sub (e' := [(198, .i6 z3), (197, .i6 x16), (196, .i6 x16), (195, v12), (194, .i6 x16), (193, .string y29), (192, elemP v1 x3 1), (191, .i6 x3), (190, v1), (189, v23), (18, v31), (188, v31), (187, v30), (186, .string y27), (185, (elemP v12 x16 1)), (184, .i6 x16), (183, v12), (182, v22), (174, .bool x24), (19, .i6 x16), (17, v11), (16, v12), (15, v8), (14, .i6 x3), (13, v1), (12, v23), (11, bp b8 0), (8, bp b5 0), (6, bp b4 0), (5, bp b3 0), (4, bp b2 0), (3, bp b1 0)]) ⟨rfl, rfl, rfl, rfl, rfl, rfl, rfl, rfl, rfl, rfl, rfl, rfl, rfl, rfl, rfl, rfl, rfl, rfl, rfl, rfl, rfl, rfl, rfl, rfl, rfl, rfl, rfl, rfl, rfl, rfl, rfl, rfl, trivial⟩
                obtain ⟨v32, h33, he1⟩ := ev_cut (P := Try.prog) (n := 228) (e := [(198, .i6 z3), (197, .i6 x16), (196, .i6 x16), (195, v12), (194, .i6 x16), (193, .string y29), (192, elemP v1 x3 1), (191, .i6 x3), (190, v1), (189, v23), (18, v31), (188, v31), (187, v30), (186, .string y27), (185, (elemP v12 x16 1)), (184, .i6 x16), (183, v12), (182, v22), (174, .bool x24), (19, .i6 x16), (17, v11), (16, v12), (15, v8), (14, .i6 x3), (13, v1), (12, v23), (11, bp b8 0), (8, bp b5 0), (6, bp b4 0), (5, bp b3 0), (4, bp b2 0), (3, bp b1 0)]) (C := fun _ => True) (x := .tmp 195) (lo := some (.tmp 196)) (hi := some (.tmp 198)) (h12.mono l15) hy30 tu22 ts9 rfl (bndV rfl) (bndV rfl)
                refine dv_et ok8 10 rfl he1 F rfl fun a F=>?_
                refine dv_et ok8 11 rfl (ev_move rfl) F rfl fun a F=>?_
                refine dv_et ok8 12 rfl (ev_move rfl) F rfl fun a F=>?_
                refine dv_et ok8 13 rfl (ev_move rfl) F rfl fun a F=>?_
                obtain ⟨z4, hz4, hm⟩ := bind_some hm
                refine dv_et ok8 14 rfl (ev_int rfl rfl (bo_add hz4)) F rfl fun a F=>?_
                obtain ⟨y31, hy31, hm⟩ := bind_some hm
                obtain ⟨v33, h34, he2⟩ := ev_cut (P := Try.prog) (n := 228) (e := [(203, .i6 z4), (202, .i6 x16), (201, .i6 x16), (200, v11), (199, v32), (198, .i6 z3), (197, .i6 x16), (196, .i6 x16), (195, v12), (194, .i6 x16), (193, .string y29), (192, elemP v1 x3 1), (191, .i6 x3), (190, v1), (189, v23), (18, v31), (188, v31), (187, v30), (186, .string y27), (185, (elemP v12 x16 1)), (184, .i6 x16), (183, v12), (182, v22), (174, .bool x24), (19, .i6 x16), (17, v11), (16, v12), (15, v8), (14, .i6 x3), (13, v1), (12, v23), (11, bp b8 0), (8, bp b5 0), (6, bp b4 0), (5, bp b3 0), (4, bp b2 0), (3, bp b1 0)]) (C := fun _ => True) (x := .tmp 200) (lo := some (.tmp 201)) (hi := some (.tmp 203)) (h11.mono l15) hy31 tu22 ts9 rfl (bndV rfl) (bndV rfl)
                refine dv_et ok8 15 rfl he2 F rfl fun a F=>?_
                refine dv_et ok8 16 rfl (ev_build (parts := [(0, .tmp 193), (1, .tmp 194), (2, .tmp 199), (3, .tmp 204)]) (vs := [(0, .string y29), (1, .i6 x16), (2, v32), (3, v33)]) rfl (fun w => tb36_0_1_2_3 y29 x16 v32 (RepSl.isSl h33) v33 (RepSl.isSl h34) w)) F rfl fun a F=>?_
                refine dv_op ok8 17 rfl [] ?_
                refine wl_lit (l := ([({ Key := y29, Column := x16, Old := y30, New := y31 } : CellChange)] : List CellChange)) (vs := [.agg #[.string y29, .i6 x16, v32, v33]]) (parts := [(0, .tmp 205)]) (wn rfl) rfl rfl rfl tu26 te36 (sz_cons rfl sz_nil) rfl (Cat.cons (rep_CellChange_mk (x := ({ Key := y29, Column := x16, Old := y30, New := y31 } : CellChange)) h33 h34) (Cat.nil _)) (coa_cons rfl coa_nil) rfl F S rfl rfl ?_; clear F a S
                rintro v34 c27 a w h35 F S
                refine dv_nx trivial ?_
                refine dv_op ok8 18 rfl [] ?_
                obtain ⟨cs23, hk7, hr25⟩ := OwnS.reads h35
                obtain ⟨y32, hy32, hm⟩ := bind_some hm
                refine wl_append (wn rfl) rfl tu26 tu26 te36 (by decide) (by decide) F S rfl rfl (k := 4) rfl h24 hk7 rfl (hr25 _ _ _ 0 rfl S) hy32 rfl rfl ?_; clear F a S
                rintro v35 c28 a w h36 S F; replace S : St g15 [c27, c25, c26, c1, c28, [bx b8 #[vbase1, v5] 25], [bx b5 #[.i6 0, .i6 0] 28], [bx b4 #[nilS, nilS] 25], [bx b3 #[vright1, vright2] 25], [bx b2 #[vleft1, vleft2] 25], [bx b1 #[vbase1, vbase2] 25], c5] fr w := S
                refine dv_nx trivial ?_
                refine dv_op ok8 19 rfl [] ?_
                refine wE (ev_assign rfl) F S rfl fun a F=>?_
                refine dv_nx trivial ?_
                refine dv_fin ok8 ?_
                replace F := F.sub (e' := [(12, v35), (18, v31), (19, .i6 x16), (17, v11), (16, v12), (15, v8), (14, .i6 x3), (13, v1), (11, bp b8 0), (8, bp b5 0), (6, bp b4 0), (5, bp b3 0), (4, bp b2 0), (3, bp b1 0)]) ⟨rfl, rfl, rfl, rfl, rfl, rfl, rfl, rfl, rfl, rfl, rfl, rfl, rfl, rfl, trivial⟩
                refine inb_n ?_
                refine then_n ?_
                replace S : St g15 [c26, c1, c28, [bx b8 #[vbase1, v5] 25], [bx b5 #[.i6 0, .i6 0] 28], [bx b4 #[nilS, nilS] 25], [bx b3 #[vright1, vright2] 25], [bx b2 #[vleft1, vleft2] 25], [bx b1 #[vbase1, vbase2] 25], c5] fr w := St.tail [c26, c1, c28, [bx b8 #[vbase1, v5] 25], [bx b5 #[.i6 0, .i6 0] 28], [bx b4 #[nilS, nilS] 25], [bx b3 #[vright1, vright2] 25], [bx b2 #[vleft1, vleft2] 25], [bx b1 #[vbase1, vbase2] 25], c5] _ ((((((((((S.frontC 11 rfl).frontC 11 rfl).frontC 11 rfl).frontC 11 rfl).frontC 11 rfl).frontC 11 rfl).frontC 11 rfl).frontC 11 rfl).frontC 11 rfl).frontC 11 rfl)
                exact ⟨y28, y32, v31, v35, c26, c28, g15, F.sub ⟨rfl, rfl, rfl, rfl, rfl, rfl, rfl, rfl, rfl, rfl, rfl, rfl, rfl, rfl, trivial⟩, (Le.refl _), S, h32, h36, hm⟩
             ·clear F S hm; rintro a w ⟨x20, x21, v24, v25, c19, c20, g16, F, l16, S, h25, h26, hm⟩
              refine wp_region_lit ?_
              refine wE (ev_move rfl) F S rfl fun a F=>?_
              obtain ⟨z2, hz2, hm⟩ := bind_some hm
              refine wE (ev_int rfl rfl (bo_add hz2)) F S rfl fun a F=>?_
              refine wE (ev_assign rfl) F S rfl fun a F=>?_
              refine wpList_nil ?_
              refine then_n ?_
              obtain rfl := sinj hm
              refine ⟨_, rfl, ?_⟩
              dsimp only
              exact ⟨v24, v25, c19, c20, g16, F.sub ⟨rfl, rfl, rfl, rfl, rfl, rfl, rfl, rfl, rfl, rfl, rfl, rfl, rfl, rfl, trivial⟩, (l15.trans l16), S, h25, h26⟩
            ·refine wp_condF F rfl hc10 ?_
             refine wp_exit ?_
             refine then_e ?_
             refine then_e ?_
             refine inb_x ?_
             refine then_n ?_
             obtain rfl := sinj hm
             obtain rfl := hfin2 _ rfl
             clear hm
             have hm : (changeforgeref2_MergeTables.j5 y3 x3 x5 x17 x18 : Option (Step (Int × (List CellChange) × (List Row)) ((List CellChange) × (List Row)))) = some _ := hmo2
             exact ⟨x17, x18, v22, v23, c17, c18, g15, F.sub ⟨rfl, rfl, rfl, rfl, rfl, rfl, rfl, rfl, rfl, rfl, trivial⟩, l15, S, h23, h24, hm⟩
          ·clear F S hm; rintro a w ⟨x14, x15, v18, v19, c13, c14, g13, F, l13, S, h18, h19, hm⟩
           refine wp_dv [] mo S ?_; clear S; intro ok7 w S
           refine dv_et ok7 0 rfl (ev_fieldAddr' tu25 tf25_1 (z := 0) ts23 rfl ⟨_, rfl⟩ rfl) F rfl fun a F=>?_
           refine dv_ev ok7 1 rfl (ev_load1 tu23 rfl rfl (box_ptr (cells := [v5]) 3 rfl 1 rfl (lb rfl))) F S rfl fun a F=>?_
           refine dv_et ok7 2 rfl (ev_move rfl) F rfl fun a F=>?_
           refine dv_et ok7 3 rfl (ev_move rfl) F rfl fun a F=>?_
           obtain ⟨y15, hy15, hm⟩ := bind_some hm
           refine dv_et ok7 4 rfl (ev_idxO (h1.mono (((((l6.trans l8).trans l9).trans l10).trans l11).trans l13)) hy15 tu22 ts9 rfl rfl) F rfl fun a F=>?_
           obtain ⟨cs8, hr9, hq6⟩ := elemO (h1.mono (((((l6.trans l8).trans l9).trans l10).trans l11).trans l13)) hy15
           obtain rfl := rep_str hr9
           refine dv_ev ok7 5 rfl (ev_load1 tu9 rfl rfl (hq6 _ _ 1 rfl)) F S rfl fun a F=>?_
           refine dv_et ok7 6 rfl (ev_move rfl) F rfl fun a F=>?_
           refine dv_et ok7 7 rfl (ev_build (parts := [(0, .tmp 213), (1, .tmp 214)]) (vs := [(0, .string y15), (1, v18)]) rfl (fun w => tb54_0_1 y15 v18 (OwnS.isSl h18) w)) F rfl fun a F=>?_
           refine dv_op ok7 8 rfl [(1, v5)] ?_
           obtain ⟨g14, l14, S, h20⟩ : ∃ gz, Le g13 gz ∧ St gz [c1, c14, [bx b8 #[vbase1, v5] 25], [bx b5 #[.i6 0, .i6 0] 28], [bx b4 #[nilS, nilS] 25], [bx b3 #[vright1, vright2] 25], [bx b2 #[vleft1, vleft2] 25], [bx b1 #[vbase1, vbase2] 25], c5] fr w ∧ RepSl gz x14 v18 := ⟨_, Le.add _ _, S.freeze 0 rfl, OwnS.freeze (S.front 0 rfl) h18⟩
           refine wl_lit (l := ([({ Key := y15, Cells := x14 } : Row)] : List Row)) (vs := [.agg #[.string y15, v18]]) (parts := [(0, .tmp 215)]) (wn rfl) rfl rfl rfl tu23 te54 (sz_cons rfl sz_nil) rfl (Cat.cons (rep_Row_mk (x := ({ Key := y15, Cells := x14 } : Row)) h20) (Cat.nil _)) (coa_cons rfl coa_nil) rfl F S rfl rfl ?_; clear F a S
           rintro v20 c15 a w h21 F S
           refine dv_nx ⟨yl_ev rfl rfl (ev_load1 tu23 rfl rfl (box_ptr (cells := [v5]) 3 rfl 1 rfl (lb rfl))) F S, trivial⟩ ?_
           refine dv_op ok7 9 rfl [] ?_
           obtain ⟨cs9, hk3, hr10⟩ := OwnS.reads h21
           obtain ⟨y16, hy16, hm⟩ := bind_some hm
           refine wl_append (wn rfl) rfl tu23 tu23 te54 (by decide) (by decide) F S rfl rfl (k := 9) rfl (h5.mono (((((l8.trans l9).trans l10).trans l11).trans l13).trans l14)) hk3 rfl (hr10 _ _ _ 0 rfl S) hy16 rfl rfl ?_; clear F a S
           rintro v21 c16 a w h22 S F; replace S : St g14 [c15, c1, c14, [bx b8 #[vbase1, v5] 25], [bx b5 #[.i6 0, .i6 0] 28], [bx b4 #[nilS, nilS] 25], [bx b3 #[vright1, vright2] 25], [bx b2 #[vleft1, vleft2] 25], [bx b1 #[vbase1, vbase2] 25], c16] fr w := S
           refine dv_nx trivial ?_
           refine dv_et ok7 10 rfl (ev_fieldAddr' tu25 tf25_1 (z := 0) ts23 rfl ⟨_, rfl⟩ rfl) F rfl fun a F=>?_
           refine dv_op ok7 11 rfl [] ?_
           refine wl_storeC (wn rfl) rfl F S rfl rfl (vs := [v21]) (OwnS.cl h22) ts23 (one_cons (OwnS.one h22) one_nil) (k := 3) rfl (lb rfl) (c' := #[vbase1, v21]) rfl rfl ?_; clear S; intro w S
           refine dv_nx trivial ?_
           refine dv_fin ok7 ?_
           refine inb_n ?_
           refine then_n ?_
           replace S : St g14 [c1, c14, [bx b8 #[vbase1, v21] 25], [bx b5 #[.i6 0, .i6 0] 28], [bx b4 #[nilS, nilS] 25], [bx b3 #[vright1, vright2] 25], [bx b2 #[vleft1, vleft2] 25], [bx b1 #[vbase1, vbase2] 25], c16] fr w := St.tail [c1, c14, [bx b8 #[vbase1, v21] 25], [bx b5 #[.i6 0, .i6 0] 28], [bx b4 #[nilS, nilS] 25], [bx b3 #[vright1, vright2] 25], [bx b2 #[vleft1, vleft2] 25], [bx b1 #[vbase1, vbase2] 25], c16] _ (((((((((S.frontC 9 rfl).frontC 9 rfl).frontC 9 rfl).frontC 9 rfl).frontC 9 rfl).frontC 9 rfl).frontC 9 rfl).frontC 9 rfl).frontC 9 rfl)
           exact ⟨x15, y16, v19, v21, c14, c16, g14, F.sub ⟨rfl, rfl, rfl, rfl, rfl, rfl, rfl, rfl, rfl, trivial⟩, (((((l8.trans l9).trans l10).trans l11).trans l13).trans l14), S, (h19.mono l14), h22, hm⟩
      ·clear F S hm; rintro a w ⟨x7, x8, v6, v7, c6, c7, g7, F, l7, S, h6, h7, hm⟩
       refine wp_region_lit ?_
       refine wE (ev_move rfl) F S rfl fun a F=>?_
       obtain ⟨z1, hz1, hm⟩ := bind_some hm
       refine wE (ev_int rfl rfl (bo_add hz1)) F S rfl fun a F=>?_
       refine wE (ev_assign rfl) F S rfl fun a F=>?_
       refine wpList_nil ?_
       refine then_n ?_
       obtain rfl := sinj hm
       refine ⟨_, rfl, ?_⟩
       dsimp only
       exact ⟨v6, v7, c6, c7, g7, F.sub ⟨rfl, rfl, rfl, rfl, rfl, rfl, rfl, rfl, rfl, trivial⟩, (l6.trans l7), S, h6, h7⟩
     ·refine wp_condF F rfl hc4 ?_
      refine wp_exit ?_
      refine then_e ?_
      refine then_e ?_
      refine inb_x ?_
      refine then_n ?_
      obtain rfl := sinj hm
      obtain rfl := hfin1 _ rfl
      clear hm
      have hm : (changeforgeref2_MergeTables.j1 base x4 x5 : Option (Table × (List CellChange) × Fault)) = some _ := hmo1
      replace S : St g6 [c4, [bx b8 #[vbase1, v5] 25], [bx b5 #[.i6 0, .i6 0] 28], [bx b4 #[nilS, nilS] 25], c5] fr w := St.tail [c4, [bx b8 #[vbase1, v5] 25], [bx b5 #[.i6 0, .i6 0] 28], [bx b4 #[nilS, nilS] 25], c5] _ (((((S.frontC 8 rfl).frontC 5 rfl).frontC 5 rfl).frontC 5 rfl).frontC 5 rfl)
      exact ⟨x4, x5, v4, v5, c4, c5, g6, F.sub ⟨rfl, rfl, rfl, rfl, trivial⟩, l6, S, h4, h5, hm⟩
   ·clear F S hm; rintro a w ⟨x1, x2, v2, v3, c2, c3, g4, F, l4, S, h2, h3, hm⟩
    refine wp_seq ?_
    refine wp_seq ?_
    refine wp_region_lit ?_
    refine wE (ev_fieldAddr' tu25 tf25_1 (z := 0) ts23 rfl ⟨_, rfl⟩ rfl) F S rfl fun a F=>?_
    refine wE (ev_load1 tu23 rfl rfl (box_ptr (cells := [v3]) 1 rfl 1 rfl (lb rfl))) F S rfl fun a F=>?_
    refine wE (ev_lenOw h3 rfl tu23) F S rfl fun a F=>?_
    refine wE (ev_int rfl rfl (bo_gtr _ _ _ _)) F S rfl fun a F=>?_
    refine wpList_nil ?_
    refine then_n ?_
    obtain ⟨hc3, hm⟩ | ⟨hc3, hm⟩ := ite_or hm
    ·refine wp_condT F rfl hc3 ?_
     refine wp_seq ?_
     refine wp_region_lit ?_
     refine wE (ev_build (parts := []) (vs := []) rfl (fun w => tb25_  w)) F S rfl fun a F=>?_
     obtain ⟨y4, hy4, hm⟩ := bind_some hm
     refine wl_call0 (wn rfl) rfl F rfl (changeforgeref1_At_ok (fr := (fl [c2, [bx b8 #[vbase1, v3] 25], [bx b5 #[.i6 0, .i6 0] 28], [bx b4 #[nilS, nilS] 25], c3] fr)) 10 (-1) S hy4) rfl tc34 rfl rfl ?_; clear F a S
     rintro _ a w ⟨g5, l5, S, rfl⟩ F; replace S : St g5 [c2, [bx b8 #[vbase1, v3] 25], [bx b5 #[.i6 0, .i6 0] 28], [bx b4 #[nilS, nilS] 25], c3] fr w := S
     refine wl_storeC (wn rfl) rfl F S rfl rfl (vs := [nilS, nilS]) rfl ts25 (one_cons rfl (one_cons rfl one_nil)) (k := 3) rfl (lb rfl) (c' := #[nilS, nilS]) rfl rfl ?_; clear S; intro w S
     refine wE (ev_assign rfl) F S rfl fun a F=>?_
     refine wl_storeC (wn rfl) rfl F S rfl rfl (vs := [.i6 y4.Code, .i6 y4.Index]) rfl ts28 (one_cons rfl (one_cons rfl one_nil)) (k := 2) rfl (lb rfl) (c' := #[.i6 y4.Code, .i6 y4.Index]) rfl rfl ?_; clear S; intro w S
     refine wpList_nil ?_
     refine then_n ?_
     refine wp_ret ?_
     refine then_r ?_
     obtain rfl := sinj hm
     replace S : St g5 [[], c2, [bx b8 #[vbase1, v3] 25], [bx b5 #[.i6 y4.Code, .i6 y4.Index] 28], [bx b4 #[nilS, nilS] 25], c3] fr w := S
     replace S : St g5 [[], [], c2, [bx b8 #[vbase1, v3] 25], [bx b5 #[.i6 y4.Code, .i6 y4.Index] 28], [bx b4 #[nilS, nilS] 25], c3] fr w := S
     refine post_r _ F rfl (ar_cons (resA rfl tu25 rfl (box_ptr (cells := [nilS, nilS]) 5 rfl 0 rfl (lb rfl) w S) ts25) (ar_cons (resT rfl) (ar_cons (resA rfl tu28 rfl (box_ptr (cells := [.i6 y4.Code, .i6 y4.Index]) 4 rfl 0 rfl (lb rfl) w S) ts28) ar_nil))) ?_
     replace S : St g5 [[], []] fr w := St.tail [[], []] _ ((S.frontC 0 rfl).frontC 2 rfl)
     exact ⟨_, rfl, g5, (nilS), (nilS), (nilS), [], [], ((((l1.trans l2).trans l3).trans l4).trans l5), S, (RepSl.nil _), (OwnS.nil _), (OwnS.nil _), rfl⟩
    ·refine wp_condF F rfl hc3 ?_
     refine wp_skip ?_
     refine then_n ?_
     refine wp_seq ?_
     refine wp_region_lit ?_
     refine wE (ev_loadA tu25 rfl (cs := [vbase1, v3]) ts25 rfl (box_ptr (cells := [vbase1, v3]) 1 rfl 0 rfl (lb rfl))) F S rfl fun a F=>?_
     refine wE (ev_move rfl) F S rfl fun a F=>?_
     refine wE (ev_build (parts := []) (vs := []) rfl (fun w => tb28_  w)) F S rfl fun a F=>?_
     refine wl_storeC (wn rfl) rfl F S rfl rfl (vs := [vbase1, v3]) rfl ts25 (one_cons hbase1.one (one_cons (OwnS.one h3) one_nil)) (k := 3) rfl (lb rfl) (c' := #[vbase1, v3]) rfl rfl ?_; clear S; intro w S
     refine wE (ev_assign rfl) F S rfl fun a F=>?_
     refine wl_storeC (wn rfl) rfl F S rfl rfl (vs := [.i6 0, .i6 0]) rfl ts28 (one_cons rfl (one_cons rfl one_nil)) (k := 2) rfl (lb rfl) (c' := #[.i6 0, .i6 0]) rfl rfl ?_; clear S; intro w S
     refine wpList_nil ?_
     refine then_n ?_
     refine wp_ret ?_
     obtain rfl := sinj hm
     refine post_r _ F rfl (ar_cons (resA rfl tu25 rfl (box_ptr (cells := [vbase1, v3]) 3 rfl 0 rfl (lb rfl) w S) ts25) (ar_cons (resT rfl) (ar_cons (resA rfl tu28 rfl (box_ptr (cells := [.i6 0, .i6 0]) 2 rfl 0 rfl (lb rfl) w S) ts28) ar_nil))) ?_
     replace S : St g4 [c3, c2] fr w := St.tail [c3, c2] _ ((S.frontC 0 rfl).frontC 5 rfl)
     exact ⟨_, rfl, g4, vbase1, v3, v2, c3, c2, (((l1.trans l2).trans l3).trans l4), S, (hbase1.mono (((l1.trans l2).trans l3).trans l4)), h3, h2, rfl⟩

theorem changeforgeequal_Cells_ok {g : Gh} {fr : Hl} {w : World} {r : Bool} (a_ : (List CellChange)) (va_1 : Value) (ha_1 : RepSl g a_ va_1) (b_ : (List CellChange)) (vb_1 : Value) (hb_1 : RepSl g b_ vb_1) (S : St g [] fr w) (hm : changeforgeequal_Cells a_ b_ = some r) :
  Calls Try.prog 13 [va_1, vb_1].toArray w (fun en w' => ∃ v, en = .returned v ∧ ∃ (g' : Gh), Le g g' ∧ St g' [] fr w' ∧ .bool r = v) := by
 unfold changeforgeequal_Cells at hm
 refine calls_enter (fn := Try.f13) Try.func13 rfl Try.ntmps13 (lb rfl) ?_
 intro a F
 replace F : Fr 69 a [(0, va_1), (1, vb_1)] := F
 refine wp_seq ?_
 refine wp_region_lit ?_
 refine wE (ev_assign rfl) F S rfl fun a F=>?_
 refine wpList_nil ?_
 refine then_n ?_
 refine wp_seq ?_
 refine wp_seq ?_
 refine wp_region_lit ?_
 refine wE (ev_move rfl) F S rfl fun a F=>?_
 refine wE (ev_lenSh ha_1 rfl tu26) F S rfl fun a F=>?_
 refine wE (ev_move rfl) F S rfl fun a F=>?_
 refine wE (ev_lenSh hb_1 rfl tu26) F S rfl fun a F=>?_
 refine wE (ev_int rfl rfl (bo_neq _ _ _ _)) F S rfl fun a F=>?_
 refine wpList_nil ?_
 refine then_n ?_
 obtain ⟨hc1, hm⟩ | ⟨hc1, hm⟩ := ite_or hm
 ·refine wp_condT F rfl hc1 ?_
  refine wp_seq ?_
  refine wp_region_lit ?_
  refine wE (ev_assign rfl) F S rfl fun a F=>?_
  refine wpList_nil ?_
  refine then_n ?_
  refine wp_ret ?_
  refine then_r ?_
  obtain rfl := sinj hm
  refine post_r _ F rfl (ar_cons (resT rfl) ar_nil) ?_
  exact ⟨_, rfl, g, (Le.refl _), S, rfl⟩
 ·refine wp_condF F rfl hc1 ?_
  refine wp_skip ?_
  refine then_n ?_
  refine wp_cut (fun a w => ∃ (g1 : Gh), Fr 69 a [] ∧ Le g g1 ∧ St g1 [] fr w ∧ changeforgeequal_Cells.j1 = some r) ?_ ?_
  ·refine wp_seq ?_
   refine wp_region_lit ?_
   refine wE (ev_assign rfl) F S rfl fun a F=>?_
   refine wpList_nil ?_
   refine then_n ?_
   refine wp_block ?_
   obtain ⟨r1, hr1, hm⟩ := bind_some hm
   have hmo1 := hm; clear hm
   refine wp_iter (σ := Int) (ρ := Bool ⊕ Unit) (m := fun s => changeforgeequal_Cells.l1 a_ b_ s) (I := fun x1 a w => ∃ (g2 : Gh), Fr 69 a [(5, .i6 x1), (0, va_1), (1, vb_1)] ∧ Le g g2 ∧ St g2 [] fr w) hr1 ?_ ?_
   ·exact ⟨g, F.sub ⟨rfl, rfl, rfl, trivial⟩, (Le.refl _), S⟩
   ·clear F S; rintro x1 a w x2 ⟨g2, F, l2, S⟩ hx1 hfin1
    have hm : changeforgeequal_Cells.l1 a_ b_ x1 = some x2 := hx1; clear hx1
    unfold changeforgeequal_Cells.l1 at hm
    refine wp_seq ?_
    refine wp_seq ?_
    refine wp_region_lit ?_
    refine wE (ev_move rfl) F S rfl fun a F=>?_
    refine wE (ev_move rfl) F S rfl fun a F=>?_
    refine wE (ev_lenSh ha_1 rfl tu26) F S rfl fun a F=>?_
    refine wE (ev_int rfl rfl (bo_lss _ _ _ _)) F S rfl fun a F=>?_
    refine wpList_nil ?_
    refine then_n ?_
    obtain ⟨hc2, hm⟩ | ⟨hc2, hm⟩ := ite_or hm
    ·refine wp_condT F rfl hc2 ?_
     refine wp_skip ?_
     refine then_n ?_
     refine wp_seq ?_
     refine wp_block ?_
     refine wp_seq ?_
     refine wp_quiet mo (by kernel_rfl) S ?_
     refine wq_ev (wn rfl) (ev_move rfl) F rfl rfl ?_; clear F a; intro a F
     refine wq_ev (wn rfl) (ev_move rfl) F rfl rfl ?_; clear F a; intro a F
     obtain ⟨y1, hy1, hm⟩ := bind_some hm
     obtain ⟨cs1, hr2, hp1⟩ := elemS (ha_1.mono l2) hy1
     obtain ⟨v1, v2, rfl, h1, h2⟩ := rep_CellChange hr2
     refine wq_ev (wn rfl) (ev_idxS (ha_1.mono l2) hy1 tu26 ts36 rfl rfl) F rfl rfl ?_; clear F a; intro a F
     have hp2 := PtrC.field hp1 0 1 (lb rfl)
     have hp2 : PtrC g2 (addP (elemP va_1 x1 4) 0) [.string y1.Key] := hp2
     refine wq_ev (wn rfl) (ev_fieldAddr' tu36 tf36_0 (z := 0) ts9 rfl hp1.ptr rfl) F rfl rfl ?_; clear F a; intro a F
     refine wq_ev (wn rfl) (ev_load1 tu9 rfl rfl (ptr_mono (cks := []) (fr := fr) hp2 (Le.refl _))) F rfl rfl ?_; clear F a; intro a F
     refine wq_ev (wn rfl) (ev_move rfl) F rfl rfl ?_; clear F a; intro a F
     refine wq_ev (wn rfl) (ev_move rfl) F rfl rfl ?_; clear F a; intro a F
     obtain ⟨y2, hy2, hm⟩ := bind_some hm
     obtain ⟨cs2, hr3, hp3⟩ := elemS (hb_1.mono l2) hy2
     obtain ⟨v3, v4, rfl, h3, h4⟩ := rep_CellChange hr3
     refine wq_ev (wn rfl) (ev_idxS (hb_1.mono l2) hy2 tu26 ts36 rfl rfl) F rfl rfl ?_; clear F a; intro a F
     have hp4 := PtrC.field hp3 0 1 (lb rfl)
     have hp4 : PtrC g2 (addP (elemP vb_1 x1 4) 0) [.string y2.Key] := hp4
     refine wq_ev (wn rfl) (ev_fieldAddr' tu36 tf36_0 (z := 0) ts9 rfl hp3.ptr rfl) F rfl rfl ?_; clear F a; intro a F
     refine wq_ev (wn rfl) (ev_load1 tu9 rfl rfl (ptr_mono (cks := []) (fr := fr) hp4 (Le.refl _))) F rfl rfl ?_; clear F a; intro a F
     refine wq_ev (wn rfl) (ev_str rfl rfl (bs_neq _ _ _)) F rfl rfl ?_; clear F a; intro a F
     refine wq_ev (wn rfl) (ev_move rfl) F rfl rfl ?_; clear F a; intro a F
     obtain ⟨x3, hx2, hm⟩ := bind_some hm
     refine wq_cut 12 (fun a => Fr 69 a [(40, .bool x3), (5, .i6 x1), (0, va_1), (1, vb_1)]) ?_ ?_
     ·clear hm; obtain ⟨hc3, hm⟩ | ⟨hc3, hm⟩ := ite_or hx2
      ·refine wq_skip rfl rfl rfl rfl (ne_ft hc3) F rfl rfl ?_; clear F a; intro a F
       refine wq_skip rfl rfl rfl rfl (ne_ft hc3) F rfl rfl ?_; clear F a; intro a F
       refine wq_skip rfl rfl rfl rfl (ne_ft hc3) F rfl rfl ?_; clear F a; intro a F
       refine wq_skip rfl rfl rfl rfl (ne_ft hc3) F rfl rfl ?_; clear F a; intro a F
       refine wq_skip rfl rfl rfl rfl (ne_ft hc3) F rfl rfl ?_; clear F a; intro a F
       refine wq_skip rfl rfl rfl rfl (ne_ft hc3) F rfl rfl ?_; clear F a; intro a F
       refine wq_skip rfl rfl rfl rfl (ne_ft hc3) F rfl rfl ?_; clear F a; intro a F
       refine wq_skip rfl rfl rfl rfl (ne_ft hc3) F rfl rfl ?_; clear F a; intro a F
       refine wq_skip rfl rfl rfl rfl (ne_ft hc3) F rfl rfl ?_; clear F a; intro a F
       refine wq_skip rfl rfl rfl rfl (ne_ft hc3) F rfl rfl ?_; clear F a; intro a F
       refine wq_skip rfl rfl rfl rfl (ne_ft hc3) F rfl rfl ?_; clear F a; intro a F
       refine wq_ev (wn rfl) (ev_pickT rfl hc3 rfl) F rfl rfl ?_; clear F a; intro a F
       obtain rfl := sinj hm
       refine wq_nil ?_; exact F.sub ⟨rfl, rfl, rfl, rfl, trivial⟩
      ·refine wq_ev (wg F rfl rfl rfl rfl hc3) (ev_move rfl) F rfl rfl ?_; clear F a; intro a F
       refine wq_ev (wg F rfl rfl rfl rfl hc3) (ev_move rfl) F rfl rfl ?_; clear F a; intro a F
       obtain ⟨y3, hy3, hm⟩ := bind_some hm
       obtain ⟨cs3, hr4, hp5⟩ := elemS (ha_1.mono l2) hy3
       obtain ⟨v5, v6, rfl, h5, h6⟩ := rep_CellChange hr4
       refine wq_ev (wg F rfl rfl rfl rfl hc3) (ev_idxS (ha_1.mono l2) hy3 tu26 ts36 rfl rfl) F rfl rfl ?_; clear F a; intro a F
       have hp6 := PtrC.field hp5 1 1 (lb rfl)
       have hp6 : PtrC g2 (addP (elemP va_1 x1 4) 1) [.i6 y3.Column] := hp6
       refine wq_ev (wg F rfl rfl rfl rfl hc3) (ev_fieldAddr' tu36 tf36_1 (z := 0) ts3 rfl hp5.ptr rfl) F rfl rfl ?_; clear F a; intro a F
       refine wq_ev (wg F rfl rfl rfl rfl hc3) (ev_load1 tu3 rfl rfl (ptr_mono (cks := []) (fr := fr) hp6 (Le.refl _))) F rfl rfl ?_; clear F a; intro a F
       refine wq_ev (wg F rfl rfl rfl rfl hc3) (ev_move rfl) F rfl rfl ?_; clear F a; intro a F
       refine wq_ev (wg F rfl rfl rfl rfl hc3) (ev_move rfl) F rfl rfl ?_; clear F a; intro a F
       obtain ⟨y4, hy4, hm⟩ := bind_some hm
       obtain ⟨cs4, hr5, hp7⟩ := elemS (hb_1.mono l2) hy4
       obtain ⟨v7, v8, rfl, h7, h8⟩ := rep_CellChange hr5
       refine wq_ev (wg F rfl rfl rfl rfl hc3) (ev_idxS (hb_1.mono l2) hy4 tu26 ts36 rfl rfl) F rfl rfl ?_; clear F a; intro a F
       have hp8 := PtrC.field hp7 1 1 (lb rfl)
       have hp8 : PtrC g2 (addP (elemP vb_1 x1 4) 1) [.i6 y4.Column] := hp8
       refine wq_ev (wg F rfl rfl rfl rfl hc3) (ev_fieldAddr' tu36 tf36_1 (z := 0) ts3 rfl hp7.ptr rfl) F rfl rfl ?_; clear F a; intro a F
       refine wq_ev (wg F rfl rfl rfl rfl hc3) (ev_load1 tu3 rfl rfl (ptr_mono (cks := []) (fr := fr) hp8 (Le.refl _))) F rfl rfl ?_; clear F a; intro a F
       refine wq_ev (wg F rfl rfl rfl rfl hc3) (ev_int rfl rfl (bo_neq _ _ _ _)) F rfl rfl ?_; clear F a; intro a F
       refine wq_ev (wn rfl) (ev_pickF rfl hc3 rfl) F rfl rfl ?_; clear F a; intro a F
       obtain rfl := sinj hm
       refine wq_nil ?_; exact F.sub ⟨rfl, rfl, rfl, rfl, trivial⟩
     clear F; intro a F
     refine wq_ev (wn rfl) (ev_move rfl) F rfl rfl ?_; clear F a; intro a F
     obtain ⟨x4, hx3, hm⟩ := bind_some hm
     refine wq_cut 13 (fun a => Fr 69 a [(54, .bool x4), (5, .i6 x1), (0, va_1), (1, vb_1)]) ?_ ?_
     ·clear hm; obtain ⟨hc4, hm⟩ | ⟨hc4, hm⟩ := ite_or hx3
      ·refine wq_skip rfl rfl rfl rfl (ne_ft hc4) F rfl rfl ?_; clear F a; intro a F
       refine wq_skip rfl rfl rfl rfl (ne_ft hc4) F rfl rfl ?_; clear F a; intro a F
       refine wq_skip rfl rfl rfl rfl (ne_ft hc4) F rfl rfl ?_; clear F a; intro a F
       refine wq_skip rfl rfl rfl rfl (ne_ft hc4) F rfl rfl ?_; clear F a; intro a F
       refine wq_skip rfl rfl rfl rfl (ne_ft hc4) F rfl rfl ?_; clear F a; intro a F
       refine wq_skip rfl rfl rfl rfl (ne_ft hc4) F rfl rfl ?_; clear F a; intro a F
       refine wq_skip rfl rfl rfl rfl (ne_ft hc4) F rfl rfl ?_; clear F a; intro a F
       refine wq_skip rfl rfl rfl rfl (ne_ft hc4) F rfl rfl ?_; clear F a; intro a F
       refine wq_skip rfl rfl rfl rfl (ne_ft hc4) F rfl rfl ?_; clear F a; intro a F
       refine wq_skip rfl rfl rfl rfl (ne_ft hc4) F rfl rfl ?_; clear F a; intro a F
       refine wq_skip rfl rfl rfl rfl (ne_ft hc4) F rfl rfl ?_; clear F a; intro a F
       refine wq_skip rfl rfl rfl rfl (ne_ft hc4) F rfl rfl ?_; clear F a; intro a F
       refine wq_ev (wn rfl) (ev_pickT rfl hc4 rfl) F rfl rfl ?_; clear F a; intro a F
       obtain rfl := sinj hm
       refine wq_nil ?_; exact F.sub ⟨rfl, rfl, rfl, rfl, trivial⟩
      ·refine wq_ev (wg F rfl rfl rfl rfl hc4) (ev_move rfl) F rfl rfl ?_; clear F a; intro a F
       refine wq_ev (wg F rfl rfl rfl rfl hc4) (ev_move rfl) F rfl rfl ?_; clear F a; intro a F
       obtain ⟨y5, hy5, hm⟩ := bind_some hm
       obtain ⟨cs5, hr6, hp9⟩ := elemS (ha_1.mono l2) hy5
       obtain ⟨v9, v10, rfl, h9, h10⟩ := rep_CellChange hr6
       refine wq_ev (wg F rfl rfl rfl rfl hc4) (ev_idxS (ha_1.mono l2) hy5 tu26 ts36 rfl rfl) F rfl rfl ?_; clear F a; intro a F
       have hp10 := PtrC.field hp9 2 1 (lb rfl)
       have hp10 : PtrC g2 (addP (elemP va_1 x1 4) 2) [v9] := hp10
       refine wq_ev (wg F rfl rfl rfl rfl hc4) (ev_fieldAddr' tu36 tf36_2 (z := 0) ts22 rfl hp9.ptr rfl) F rfl rfl ?_; clear F a; intro a F
       refine wq_ev (wg F rfl rfl rfl rfl hc4) (ev_load1 tu22 rfl rfl (ptr_mono (cks := []) (fr := fr) hp10 (Le.refl _))) F rfl rfl ?_; clear F a; intro a F
       refine wq_ev (wg F rfl rfl rfl rfl hc4) (ev_move rfl) F rfl rfl ?_; clear F a; intro a F
       refine wq_ev (wg F rfl rfl rfl rfl hc4) (ev_move rfl) F rfl rfl ?_; clear F a; intro a F
       obtain ⟨y6, hy6, hm⟩ := bind_some hm
       obtain ⟨cs6, hr7, hp11⟩ := elemS (hb_1.mono l2) hy6
       obtain ⟨v11, v12, rfl, h11, h12⟩ := rep_CellChange hr7
       refine wq_ev (wg F rfl rfl rfl rfl hc4) (ev_idxS (hb_1.mono l2) hy6 tu26 ts36 rfl rfl) F rfl rfl ?_; clear F a; intro a F
       have hp12 := PtrC.field hp11 2 1 (lb rfl)
       have hp12 : PtrC g2 (addP (elemP vb_1 x1 4) 2) [v11] := hp12
       refine wq_ev (wg F rfl rfl rfl rfl hc4) (ev_fieldAddr' tu36 tf36_2 (z := 0) ts22 rfl hp11.ptr rfl) F rfl rfl ?_; clear F a; intro a F
       refine wq_ev (wg F rfl rfl rfl rfl hc4) (ev_load1 tu22 rfl rfl (ptr_mono (cks := []) (fr := fr) hp12 (Le.refl _))) F rfl rfl ?_; clear F a; intro a F
       obtain ⟨y7, hy7, hm⟩ := bind_some hm
       refine wq_call (wg F rfl rfl rfl rfl hc4) rfl (xs := [.tmp 46, .tmp 51]) (vs := [v9, v11]) (cap := []) F rfl rfl tc15 (v := .bool y7) (fun w S => (changeforgeequal_Strings_ok (g := g2) (fr := fr) (w := w) y5.Old v9 h9 y6.Old v11 h11 S hy7).mono (by rintro en w' ⟨_, rfl, g2, l2, S2, rfl⟩; exact ⟨rfl, S2.weak l2⟩)) rfl rfl ?_; clear F a; intro a F
       refine wq_ev (wg F rfl rfl rfl rfl hc4) (ev_not rfl) F rfl rfl ?_; clear F a; intro a F
       refine wq_ev (wn rfl) (ev_pickF rfl hc4 rfl) F rfl rfl ?_; clear F a; intro a F
       obtain rfl := sinj hm
       refine wq_nil ?_; exact F.sub ⟨rfl, rfl, rfl, rfl, trivial⟩
     clear F; intro a F
     refine wq_ev (wn rfl) (ev_move rfl) F rfl rfl ?_; clear F a; intro a F
     obtain ⟨x5, hx4, hm⟩ := bind_some hm
     refine wq_cut 13 (fun a => Fr 69 a [(68, .bool x5), (5, .i6 x1), (0, va_1), (1, vb_1)]) ?_ ?_
     ·clear hm; obtain ⟨hc5, hm⟩ | ⟨hc5, hm⟩ := ite_or hx4
      ·refine wq_skip rfl rfl rfl rfl (ne_ft hc5) F rfl rfl ?_; clear F a; intro a F
       refine wq_skip rfl rfl rfl rfl (ne_ft hc5) F rfl rfl ?_; clear F a; intro a F
       refine wq_skip rfl rfl rfl rfl (ne_ft hc5) F rfl rfl ?_; clear F a; intro a F
       refine wq_skip rfl rfl rfl rfl (ne_ft hc5) F rfl rfl ?_; clear F a; intro a F
       refine wq_skip rfl rfl rfl rfl (ne_ft hc5) F rfl rfl ?_; clear F a; intro a F
       refine wq_skip rfl rfl rfl rfl (ne_ft hc5) F rfl rfl ?_; clear F a; intro a F
       refine wq_skip rfl rfl rfl rfl (ne_ft hc5) F rfl rfl ?_; clear F a; intro a F
       refine wq_skip rfl rfl rfl rfl (ne_ft hc5) F rfl rfl ?_; clear F a; intro a F
       refine wq_skip rfl rfl rfl rfl (ne_ft hc5) F rfl rfl ?_; clear F a; intro a F
       refine wq_skip rfl rfl rfl rfl (ne_ft hc5) F rfl rfl ?_; clear F a; intro a F
       refine wq_skip rfl rfl rfl rfl (ne_ft hc5) F rfl rfl ?_; clear F a; intro a F
       refine wq_skip rfl rfl rfl rfl (ne_ft hc5) F rfl rfl ?_; clear F a; intro a F
       refine wq_ev (wn rfl) (ev_pickT rfl hc5 rfl) F rfl rfl ?_; clear F a; intro a F
       obtain rfl := sinj hm
       refine wq_nil ?_; exact F.sub ⟨rfl, rfl, rfl, rfl, trivial⟩
      ·refine wq_ev (wg F rfl rfl rfl rfl hc5) (ev_move rfl) F rfl rfl ?_; clear F a; intro a F
       refine wq_ev (wg F rfl rfl rfl rfl hc5) (ev_move rfl) F rfl rfl ?_; clear F a; intro a F
       obtain ⟨y8, hy8, hm⟩ := bind_some hm
       obtain ⟨cs7, hr8, hp13⟩ := elemS (ha_1.mono l2) hy8
       obtain ⟨v13, v14, rfl, h13, h14⟩ := rep_CellChange hr8
       refine wq_ev (wg F rfl rfl rfl rfl hc5) (ev_idxS (ha_1.mono l2) hy8 tu26 ts36 rfl rfl) F rfl rfl ?_; clear F a; intro a F
       have hp14 := PtrC.field hp13 3 1 (lb rfl)
       have hp14 : PtrC g2 (addP (elemP va_1 x1 4) 3) [v14] := hp14
       refine wq_ev (wg F rfl rfl rfl rfl hc5) (ev_fieldAddr' tu36 tf36_3 (z := 0) ts22 rfl hp13.ptr rfl) F rfl rfl ?_; clear F a; intro a F
       refine wq_ev (wg F rfl rfl rfl rfl hc5) (ev_load1 tu22 rfl rfl (ptr_mono (cks := []) (fr := fr) hp14 (Le.refl _))) F rfl rfl ?_; clear F a; intro a F
       refine wq_ev (wg F rfl rfl rfl rfl hc5) (ev_move rfl) F rfl rfl ?_; clear F a; intro a F
       refine wq_ev (wg F rfl rfl rfl rfl hc5) (ev_move rfl) F rfl rfl ?_; clear F a; intro a F
       obtain ⟨y9, hy9, hm⟩ := bind_some hm
       obtain ⟨cs8, hr9, hp15⟩ := elemS (hb_1.mono l2) hy9
       obtain ⟨v15, v16, rfl, h15, h16⟩ := rep_CellChange hr9
       refine wq_ev (wg F rfl rfl rfl rfl hc5) (ev_idxS (hb_1.mono l2) hy9 tu26 ts36 rfl rfl) F rfl rfl ?_; clear F a; intro a F
       have hp16 := PtrC.field hp15 3 1 (lb rfl)
       have hp16 : PtrC g2 (addP (elemP vb_1 x1 4) 3) [v16] := hp16
       refine wq_ev (wg F rfl rfl rfl rfl hc5) (ev_fieldAddr' tu36 tf36_3 (z := 0) ts22 rfl hp15.ptr rfl) F rfl rfl ?_; clear F a; intro a F
       refine wq_ev (wg F rfl rfl rfl rfl hc5) (ev_load1 tu22 rfl rfl (ptr_mono (cks := []) (fr := fr) hp16 (Le.refl _))) F rfl rfl ?_; clear F a; intro a F
       obtain ⟨y10, hy10, hm⟩ := bind_some hm
       refine wq_call (wg F rfl rfl rfl rfl hc5) rfl (xs := [.tmp 60, .tmp 65]) (vs := [v14, v16]) (cap := []) F rfl rfl tc15 (v := .bool y10) (fun w S => (changeforgeequal_Strings_ok (g := g2) (fr := fr) (w := w) y8.New v14 h14 y9.New v16 h16 S hy10).mono (by rintro en w' ⟨_, rfl, g2, l2, S2, rfl⟩; exact ⟨rfl, S2.weak l2⟩)) rfl rfl ?_; clear F a; intro a F
       refine wq_ev (wg F rfl rfl rfl rfl hc5) (ev_not rfl) F rfl rfl ?_; clear F a; intro a F
       refine wq_ev (wn rfl) (ev_pickF rfl hc5 rfl) F rfl rfl ?_; clear F a; intro a F
       obtain rfl := sinj hm
       refine wq_nil ?_; exact F.sub ⟨rfl, rfl, rfl, rfl, trivial⟩
     clear F; intro a F
     refine wq_nil ?_; clear S; intro w S
     refine then_n ?_
     obtain ⟨hc6, hm⟩ | ⟨hc6, hm⟩ := ite_or hm
     ·refine wp_condT F rfl hc6 ?_
      refine wp_seq ?_
      refine wp_region_lit ?_
      refine wE (ev_assign rfl) F S rfl fun a F=>?_
      refine wpList_nil ?_
      refine then_n ?_
      refine wp_ret ?_
      refine inb_r ?_
      refine then_r ?_
      refine then_r ?_
      refine inb_r ?_
      refine then_r ?_
      obtain rfl := sinj hm
      obtain rfl := hfin1 _ rfl
      clear hm
      have hm : (some false : Option Bool) = some _ := hmo1
      obtain rfl := sinj hm
      refine post_r _ F rfl (ar_cons (resT rfl) ar_nil) ?_
      exact ⟨_, rfl, g2, l2, S, rfl⟩
     ·refine wp_condF F rfl hc6 ?_
      refine wp_skip ?_
      refine inb_n ?_
      refine then_n ?_
      refine wp_region_lit ?_
      refine wE (ev_move rfl) F S rfl fun a F=>?_
      obtain ⟨z1, hz1, hm⟩ := bind_some hm
      refine wE (ev_int rfl rfl (bo_add hz1)) F S rfl fun a F=>?_
      refine wE (ev_assign rfl) F S rfl fun a F=>?_
      refine wpList_nil ?_
      refine then_n ?_
      obtain rfl := sinj hm
      refine ⟨_, rfl, ?_⟩
      exact ⟨g2, F.sub ⟨rfl, rfl, rfl, trivial⟩, l2, S⟩
    ·refine wp_condF F rfl hc2 ?_
     refine wp_exit ?_
     refine then_e ?_
     refine then_e ?_
     refine inb_x ?_
     refine then_n ?_
     obtain rfl := sinj hm
     obtain rfl := hfin1 _ rfl
     clear hm
     have hm : (changeforgeequal_Cells.j1 : Option Bool) = some _ := hmo1
     exact ⟨g2, F.sub trivial, l2, S, hm⟩
  ·clear F S hm; rintro a w ⟨g1, F, l1, S, hm⟩
   refine wp_seq ?_
   refine wp_region_lit ?_
   refine wE (ev_assign rfl) F S rfl fun a F=>?_
   refine wpList_nil ?_
   refine then_n ?_
   refine wp_ret ?_
   obtain rfl := sinj hm
   refine post_r _ F rfl (ar_cons (resT rfl) ar_nil) ?_
   exact ⟨_, rfl, g1, l1, S, rfl⟩
end Go.Dc
