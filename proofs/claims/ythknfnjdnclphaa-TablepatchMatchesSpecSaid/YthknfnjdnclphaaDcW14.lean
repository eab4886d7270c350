/- Walks: each function comes to what its model says. -/
import Derived.Test.YthknfnjdnclphaaDcTab
import Derived.Test.YthknfnjdnclphaaDcM
import Derived.Test.YthknfnjdnclphaaDcW1
import Derived.Test.YthknfnjdnclphaaDcW3
namespace Go.Dc
open Go Go.Proofs
set_option maxRecDepth 100000
set_option maxHeartbeats 4000000
set_option linter.unusedVariables false
theorem tablepatch_Diff_ok {g : Gh} {fr : Hl} {w : World} {r : (List CellChange) × Fault} (old_ : Table) (vold_1 : Value) (hold_1 : RepSl g old_.Columns vold_1) (vold_2 : Value) (hold_2 : RepSl g old_.Rows vold_2) (newer : Table) (vnewer1 : Value) (hnewer1 : RepSl g newer.Columns vnewer1) (vnewer2 : Value) (hnewer2 : RepSl g newer.Rows vnewer2) (S : St g [] fr w) (hm : tablepatch_Diff old_ newer = some r) :
  Calls Try.prog 19 [.agg #[vold_1, vold_2], .agg #[vnewer1, vnewer2]].toArray w (fun en w' => ∃ v, en = .returned v ∧ ∃ (g' : Gh) (v1 : Value) (c1 : Hl), Le g g' ∧ St g' [c1] fr w' ∧ OwnS g' r.1 v1 c1 ∧ .tuple #[v1, .agg #[.i6 r.2.Code, .i6 r.2.Index]] = v) := by
 unfold tablepatch_Diff at hm
 refine calls_enter (fn := Try.f19) Try.func19 rfl Try.ntmps19 (lb rfl) ?_
 intro a F
 replace F : Fr 82 a [(0, .agg #[vold_1, vold_2]), (1, .agg #[vnewer1, vnewer2])] := F
 refine wp_seq ?_
 refine wp_region_lit ?_
 refine wl_boxC (wn rfl) rfl rfl rfl F S rfl rfl ?_; clear F a S; rintro b1 a w F S
 refine wl_boxC (wn rfl) rfl rfl rfl F S rfl rfl ?_; clear F a S; rintro b2 a w F S
 refine wE (ev_assign rfl) F S rfl fun a F=>?_
 refine wl_alloc (wn rfl) rfl tz28 (cs := [.i6 0, .i6 0]) rfl F S rfl rfl ?_; clear F a S; rintro b3 a w F S
 refine wpList_nil ?_
 refine then_n ?_
 refine wp_seq ?_
 refine wp_seq ?_
 refine wp_region_lit ?_
 refine wE (ev_loadA tu25 rfl (cs := [vold_1, vold_2]) ts25 rfl (box_ptr (cells := [vold_1, vold_2]) 2 rfl 0 rfl (lb rfl))) F S rfl fun a F=>?_
 refine wE (ev_loadA tu25 rfl (cs := [vnewer1, vnewer2]) ts25 rfl (box_ptr (cells := [vnewer1, vnewer2]) 1 rfl 0 rfl (lb rfl))) F S rfl fun a F=>?_
 obtain ⟨y1, hy1, hm⟩ := bind_some hm
 refine wl_call0 (wn rfl) rfl F rfl (tablepatch_pair_ok (fr := (fl [[bx b3 #[.i6 0, .i6 0] 28], [bx b2 #[vnewer1, vnewer2] 25], [bx b1 #[vold_1, vold_2] 25]] fr)) old_ vold_1 hold_1 vold_2 hold_2 newer vnewer1 hnewer1 vnewer2 hnewer2 (-20) S hy1) rfl tc23 rfl rfl ?_; clear F a S
 rintro _ a w ⟨g1, l1, S, rfl⟩ F; replace S : St g1 [[bx b3 #[.i6 0, .i6 0] 28], [bx b2 #[vnewer1, vnewer2] 25], [bx b1 #[vold_1, vold_2] 25]] fr w := S
 refine wl_alloc (wn rfl) rfl tz28 (cs := [.i6 0, .i6 0]) rfl F S rfl rfl ?_; clear F a S; rintro b4 a w F S
 refine wl_storeC (wn rfl) rfl F S rfl rfl (vs := [.i6 y1.Code, .i6 y1.Index]) rfl ts28 (one_cons rfl (one_cons rfl one_nil)) (k := 0) rfl (lb rfl) (c' := #[.i6 y1.Code, .i6 y1.Index]) rfl rfl ?_; clear S; intro w S
 refine wpList_nil ?_
 refine then_n ?_
 refine wp_seq ?_
 refine wp_region_lit ?_
 refine wE (ev_loadA tu28 rfl (cs := [.i6 y1.Code, .i6 y1.Index]) ts28 rfl (box_ptr (cells := [.i6 y1.Code, .i6 y1.Index]) 0 rfl 0 rfl (lb rfl))) F S rfl fun a F=>?_
 refine wE (ev_build (parts := []) (vs := []) rfl (fun w => tb28_  w)) F S rfl fun a F=>?_
 refine wE (ev_neS tu28 tqa28 tqb28 tqc28 (xs := [.i6 y1.Code, .i6 y1.Index]) (ys := [.i6 0, .i6 0]) rfl rfl ⟨_, _, rfl, by decide, ⟨_, _, rfl, rfl, leaf_int tu3⟩, ⟨_, _, rfl, by decide, ⟨_, _, rfl, rfl, leaf_int tu3⟩, rfl⟩⟩) F S rfl fun a F=>?_
 refine wpList_nil ?_
 refine then_n ?_
 obtain ⟨hc1, hm⟩ | ⟨hc1, hm⟩ := ite_or hm
 ·refine wp_condT F rfl hc1 ?_
  refine wp_seq ?_
  refine wp_dv [] mo S ?_; clear S; intro ok1 w S
  refine dv_ev ok1 0 rfl (ev_loadA tu28 rfl (cs := [.i6 y1.Code, .i6 y1.Index]) ts28 rfl (box_ptr (cells := [.i6 y1.Code, .i6 y1.Index]) 0 rfl 0 rfl (lb rfl))) F S rfl fun a F=>?_
  refine dv_et ok1 1 rfl (ev_assign rfl) F rfl fun a F=>?_
  refine dv_op ok1 2 rfl [] ?_
  refine wl_storeC (wn rfl) rfl F S rfl rfl (vs := [.i6 y1.Code, .i6 y1.Index]) rfl ts28 (one_cons rfl (one_cons rfl one_nil)) (k := 1) rfl (lb rfl) (c' := #[.i6 y1.Code, .i6 y1.Index]) rfl rfl ?_; clear S; intro w S
  refine dv_nx trivial ?_
  refine dv_fin ok1 ?_
  refine then_n ?_
  refine wp_ret ?_
  refine then_r ?_
  obtain rfl := sinj hm
  replace S : St g1 [[], [bx b4 #[.i6 y1.Code, .i6 y1.Index] 28], [bx b3 #[.i6 y1.Code, .i6 y1.Index] 28], [bx b2 #[vnewer1, vnewer2] 25], [bx b1 #[vold_1, vold_2] 25]] fr w := S
  refine post_r _ F rfl (ar_cons (resT rfl) (ar_cons (resA rfl tu28 rfl (box_ptr (cells := [.i6 y1.Code, .i6 y1.Index]) 2 rfl 0 rfl (lb rfl) w S) ts28) ar_nil)) ?_
  replace S : St g1 [[]] fr w := St.tail [[]] _ (S.frontC 0 rfl)
  exact ⟨_, rfl, g1, (nilS), [], l1, S, (OwnS.nil _), rfl⟩
 ·refine wp_condF F rfl hc1 ?_
  refine wp_skip ?_
  refine then_n ?_
  refine wp_seq ?_
  refine wp_region_lit ?_
  refine wE (ev_assign rfl) F S rfl fun a F=>?_
  refine wpList_nil ?_
  refine then_n ?_
  refine wp_cut (fun a w => ∃ (x1 : List CellChange) (v1 : Value) (c1 : Hl) (g2 : Gh), Fr 82 a [(7, v1), (5, bp b3 0)] ∧ Le g1 g2 ∧ St g2 [c1, [bx b3 #[.i6 0, .i6 0] 28]] fr w ∧ OwnS g2 x1 v1 c1 ∧ tablepatch_Diff.j1 x1 = some r) ?_ ?_
  ·refine wp_seq ?_
   refine wp_region_lit ?_
   refine wE (ev_loadA tu25 rfl (cs := [vold_1, vold_2]) ts25 rfl (box_ptr (cells := [vold_1, vold_2]) 3 rfl 0 rfl (lb rfl))) F S rfl fun a F=>?_
   refine wE (ev_loadA tu25 rfl (cs := [vnewer1, vnewer2]) ts25 rfl (box_ptr (cells := [vnewer1, vnewer2]) 2 rfl 0 rfl (lb rfl))) F S rfl fun a F=>?_
   refine wl_lit (l := ([old_, newer] : List Table)) (vs := [.agg #[vold_1, vold_2], .agg #[vnewer1, vnewer2]]) (parts := [(0, .tmp 20), (1, .tmp 21)]) (wn rfl) rfl rfl rfl tu69 te25 (sz_cons rfl (sz_cons rfl sz_nil)) rfl (Cat.cons (rep_Table_mk (x := old_) (hold_1.mono l1) (hold_2.mono l1)) (Cat.cons (rep_Table_mk (x := newer) (hnewer1.mono l1) (hnewer2.mono l1)) (Cat.nil _))) (coa_cons rfl (coa_cons rfl coa_nil)) rfl F S rfl rfl ?_; clear F a S
   rintro v2 c2 a w h2 F S
   obtain ⟨g3, l3, S, h3⟩ : ∃ gz, Le g1 gz ∧ St gz [[bx b4 #[.i6 y1.Code, .i6 y1.Index] 28], [bx b3 #[.i6 0, .i6 0] 28], [bx b2 #[vnewer1, vnewer2] 25], [bx b1 #[vold_1, vold_2] 25]] fr w ∧ RepSl gz ([old_, newer] : List Table) v2 := ⟨_, Le.add _ _, S.freeze 0 rfl, OwnS.freeze (S.front 0 rfl) h2⟩
   obtain ⟨y2, hy2, hm⟩ := bind_some hm
   refine wl_call0 (wn rfl) rfl F rfl (tablepatch_keys_ok (fr := (fl [[bx b4 #[.i6 y1.Code, .i6 y1.Index] 28], [bx b3 #[.i6 0, .i6 0] 28], [bx b2 #[vnewer1, vnewer2] 25], [bx b1 #[vold_1, vold_2] 25]] fr)) ([old_, newer] : List Table) v2 h3 S hy2) rfl tc25 rfl rfl ?_; clear F a S
   rintro _ a w ⟨g4, v3, c3, l4, S, h4, rfl⟩ F; replace S : St g4 [c3, [bx b4 #[.i6 y1.Code, .i6 y1.Index] 28], [bx b3 #[.i6 0, .i6 0] 28], [bx b2 #[vnewer1, vnewer2] 25], [bx b1 #[vold_1, vold_2] 25]] fr w := S
   refine wE (ev_lenOw h4 rfl tu22) F S rfl fun a F=>?_
   refine wE (ev_move rfl) F S rfl fun a F=>?_
   refine wpList_nil ?_
   refine then_n ?_
   refine wp_block ?_
   obtain ⟨r1, hr1, hm⟩ := bind_some hm
   have hmo1 := hm; clear hm
   refine wp_iter (σ := Int × (List CellChange)) (ρ := (List CellChange)) (m := fun s => tablepatch_Diff.l1 old_ newer y2 s.1 s.2) (I := fun s a w => match s with | (x2, x3) => ∃ (v4 : Value) (c4 : Hl) (g5 : Gh), Fr 82 a [(25, .i6 x2), (24, .i6 (y2.length : Int)), (23, v3), (7, v4), (5, bp b3 0), (3, bp b2 0), (2, bp b1 0)] ∧ Le g4 g5 ∧ St g5 [c3, c4, [bx b3 #[.i6 0, .i6 0] 28], [bx b2 #[vnewer1, vnewer2] 25], [bx b1 #[vold_1, vold_2] 25]] fr w ∧ OwnS g5 x3 v4 c4) hr1 ?_ ?_
   ·dsimp only
    replace S : St g4 [[], c3, [bx b4 #[.i6 y1.Code, .i6 y1.Index] 28], [bx b3 #[.i6 0, .i6 0] 28], [bx b2 #[vnewer1, vnewer2] 25], [bx b1 #[vold_1, vold_2] 25]] fr w := S
    replace S : St g4 [c3, [], [bx b3 #[.i6 0, .i6 0] 28], [bx b2 #[vnewer1, vnewer2] 25], [bx b1 #[vold_1, vold_2] 25]] fr w := St.tail [c3, [], [bx b3 #[.i6 0, .i6 0] 28], [bx b2 #[vnewer1, vnewer2] 25], [bx b1 #[vold_1, vold_2] 25]] _ (((((S.frontC 5 rfl).frontC 5 rfl).frontC 5 rfl).frontC 3 rfl).frontC 5 rfl)
    exact ⟨(nilS), [], g4, F.sub ⟨rfl, rfl, rfl, rfl, rfl, rfl, rfl, trivial⟩, (Le.refl _), S, (OwnS.nil _)⟩
   ·clear F S; rintro ⟨x2, x3⟩ a w x4 ⟨v4, c4, g5, F, l5, S, h5⟩ hx1 hfin1
    have hm : tablepatch_Diff.l1 old_ newer y2 x2 x3 = some x4 := hx1; clear hx1
    unfold tablepatch_Diff.l1 at hm
    refine wp_seq ?_
    refine wp_region_lit ?_
    refine wE (ev_int rfl rfl (bo_lss _ _ _ _)) F S rfl fun a F=>?_
    refine wpList_nil ?_
    refine then_n ?_
    refine wp_seq ?_
    obtain ⟨hc2, hm⟩ | ⟨hc2, hm⟩ := ite_or hm
    ·refine wp_condT F rfl hc2 ?_
     refine wp_skip ?_
     refine then_n ?_
     refine wp_cut (fun a w => ∃ (x5 : List CellChange) (v5 : Value) (c5 : Hl) (g6 : Gh), Fr 82 a [(7, v5), (25, .i6 x2), (24, .i6 (y2.length : Int)), (23, v3), (5, bp b3 0), (3, bp b2 0), (2, bp b1 0)] ∧ Le g5 g6 ∧ St g6 [c5, c3, [bx b3 #[.i6 0, .i6 0] 28], [bx b2 #[vnewer1, vnewer2] 25], [bx b1 #[vold_1, vold_2] 25]] fr w ∧ OwnS g6 x5 v5 c5 ∧ tablepatch_Diff.j2 x2 x5 = some x4) ?_ ?_
     ·refine wp_block ?_
      refine wp_seq ?_
      refine wp_region_lit ?_
      obtain ⟨y3, hy3, hm⟩ := bind_some hm
      refine wE (ev_idxO (h4.mono l5) hy3 tu22 ts9 rfl rfl) F S rfl fun a F=>?_
      obtain ⟨cs1, hr2, hq1⟩ := elemO (h4.mono l5) hy3
      obtain rfl := rep_str hr2
      refine wE (ev_load1 tu9 rfl rfl (hq1 _ _ 0 rfl)) F S rfl fun a F=>?_
      refine wE (ev_assign rfl) F S rfl fun a F=>?_
      refine wpList_nil ?_
      refine then_n ?_
      refine wp_seq ?_
      refine wp_dv [] mo S ?_; clear S; intro ok2 w S
      refine dv_ev ok2 0 rfl (ev_loadA tu25 rfl (cs := [vold_1, vold_2]) ts25 rfl (box_ptr (cells := [vold_1, vold_2]) 4 rfl 0 rfl (lb rfl))) F S rfl fun a F=>?_
      refine dv_et ok2 1 rfl (ev_move rfl) F rfl fun a F=>?_
      refine dv_ev ok2 3 rfl (ev_loadA tu25 rfl (cs := [vnewer1, vnewer2]) ts25 rfl (box_ptr (cells := [vnewer1, vnewer2]) 3 rfl 0 rfl (lb rfl))) F S rfl fun a F=>?_
      refine dv_et ok2 4 rfl (ev_move rfl) F rfl fun a F=>?_
      refine dv_op ok2 2 rfl [(3, .agg #[vnewer1, vnewer2])] ?_
      obtain ⟨y4, hy4, hm⟩ := bind_some hm
      refine wl_call0 (wn rfl) rfl F rfl (tablepatch_get_ok (fr := (fl [c3, c4, [bx b3 #[.i6 0, .i6 0] 28], [bx b2 #[vnewer1, vnewer2] 25], [bx b1 #[vold_1, vold_2] 25]] fr)) old_ vold_1 (hold_1.mono (((l1.trans l3).trans l4).trans l5)) vold_2 (hold_2.mono (((l1.trans l3).trans l4).trans l5)) y3 S hy4) rfl tc26 rfl rfl ?_; clear F a S
      rintro _ a w ⟨g7, v6, l7, S, h7, hn1, rfl⟩ F; replace S : St g7 [c3, c4, [bx b3 #[.i6 0, .i6 0] 28], [bx b2 #[vnewer1, vnewer2] 25], [bx b1 #[vold_1, vold_2] 25]] fr w := S
      refine dv_nx ⟨yl_ev rfl rfl (ev_loadA tu25 rfl (cs := [vnewer1, vnewer2]) ts25 rfl (box_ptr (cells := [vnewer1, vnewer2]) 3 rfl 0 rfl (lb rfl))) F S, trivial⟩ ?_
      refine dv_op ok2 5 rfl [] ?_
      obtain ⟨y5, hy5, hm⟩ := bind_some hm
      refine wl_call0 (wn rfl) rfl F rfl (tablepatch_get_ok (fr := (fl [c3, c4, [bx b3 #[.i6 0, .i6 0] 28], [bx b2 #[vnewer1, vnewer2] 25], [bx b1 #[vold_1, vold_2] 25]] fr)) newer vnewer1 (hnewer1.mono ((((l1.trans l3).trans l4).trans l5).trans l7)) vnewer2 (hnewer2.mono ((((l1.trans l3).trans l4).trans l5).trans l7)) y3 S hy5) rfl tc26 rfl rfl ?_; clear F a S
      rintro _ a w ⟨g8, v7, l8, S, h8, hn2, rfl⟩ F; replace S : St g8 [c3, c4, [bx b3 #[.i6 0, .i6 0] 28], [bx b2 #[vnewer1, vnewer2] 25], [bx b1 #[vold_1, vold_2] 25]] fr w := S
      refine dv_nx trivial ?_
      refine dv_et ok2 6 rfl (ev_assign rfl) F rfl fun a F=>?_
      refine dv_et ok2 7 rfl (ev_assign rfl) F rfl fun a F=>?_
      refine dv_fin ok2 ?_
      refine then_n ?_
      refine wp_seq ?_
      refine wp_seq ?_
      refine wp_region_lit ?_
      refine wE (ev_move rfl) F S rfl fun a F=>?_
      refine wE (ev_nileqlSx (h7.mono l8) hn1 tu22 rfl rfl) F S rfl fun a F=>?_
      refine wE (ev_move rfl) F S rfl fun a F=>?_
      obtain ⟨x6, hx2, hm⟩ := bind_some hm
      refine wl_cut 3 (fun a w' => w = w' ∧ Fr 82 a [(40, .bool x6), (11, v7), (10, v6), (9, .string y3), (25, .i6 x2), (24, .i6 (y2.length : Int)), (23, v3), (7, v4), (5, bp b3 0), (3, bp b2 0), (2, bp b1 0)]) ?_ ?_
      ·clear hm; obtain ⟨hc3, hm⟩ | ⟨hc3, hm⟩ := ite_or hx2
       ·refine wl_skip rfl rfl rfl rfl (ne_ft hc3) F rfl rfl ?_; clear F a; intro a F
        refine wl_skip rfl rfl rfl rfl (ne_ft hc3) F rfl rfl ?_; clear F a; intro a F
        refine wE (ev_pickT rfl hc3 rfl) F S rfl fun a F=>?_
        obtain rfl := sinj hm
        refine wpList_nil (then_n ?_); exact ⟨rfl, F.sub ⟨rfl, rfl, rfl, rfl, rfl, rfl, rfl, rfl, rfl, rfl, rfl, trivial⟩⟩
       ·refine wl_ev (wg F rfl rfl rfl rfl hc3) (ev_move rfl) F S rfl rfl ?_; clear F a; intro a F
        refine wl_ev (wg F rfl rfl rfl rfl hc3) (ev_nileqlSx h8 hn2 tu22 rfl rfl) F S rfl rfl ?_; clear F a; intro a F
        refine wE (ev_pickF rfl hc3 rfl) F S rfl fun a F=>?_
        obtain rfl := sinj hm
        refine wpList_nil (then_n ?_); exact ⟨rfl, F.sub ⟨rfl, rfl, rfl, rfl, rfl, rfl, rfl, rfl, rfl, rfl, rfl, trivial⟩⟩
      clear F; rintro a w' ⟨rfl, F⟩
      refine wpList_nil ?_
      refine then_n ?_
      obtain ⟨hc4, hm⟩ | ⟨hc4, hm⟩ := ite_or hm
      ·refine wp_condT F rfl hc4 ?_
       refine wp_seq ?_
       refine wp_region_lit ?_
       refine wE (ev_move rfl) F S rfl fun a F=>?_
       refine wE (ev_move rfl) F S rfl fun a F=>?_
       refine wE (ev_move rfl) F S rfl fun a F=>?_
       refine wE (ev_move rfl) F S rfl fun a F=>?_
       obtain ⟨y6, hy6, hm⟩ := bind_some hm
       refine wl_call0 (wn rfl) rfl F rfl (tablepatch_change_ok (fr := (fl [c3, c4, [bx b3 #[.i6 0, .i6 0] 28], [bx b2 #[vnewer1, vnewer2] 25], [bx b1 #[vold_1, vold_2] 25]] fr)) y3 (-1) y4 v6 (h7.mono l8) y5 v7 h8 S hy6) rfl tc28 rfl rfl ?_; clear F a S
       rintro _ a w ⟨g9, v8, v9, c6, c7, l9, S, h9, h10, rfl⟩ F; replace S : St g9 [c6, c7, c3, c4, [bx b3 #[.i6 0, .i6 0] 28], [bx b2 #[vnewer1, vnewer2] 25], [bx b1 #[vold_1, vold_2] 25]] fr w := S
       obtain ⟨g10, l10, S, h11⟩ : ∃ gz, Le g9 gz ∧ St gz [c7, c3, c4, [bx b3 #[.i6 0, .i6 0] 28], [bx b2 #[vnewer1, vnewer2] 25], [bx b1 #[vold_1, vold_2] 25]] fr w ∧ RepSl gz y6.Old v8 := ⟨_, Le.add _ _, S.freeze 0 rfl, OwnS.freeze (S.front 0 rfl) h9⟩
       obtain ⟨g11, l11, S, h12⟩ : ∃ gz, Le g10 gz ∧ St gz [c3, c4, [bx b3 #[.i6 0, .i6 0] 28], [bx b2 #[vnewer1, vnewer2] 25], [bx b1 #[vold_1, vold_2] 25]] fr w ∧ RepSl gz y6.New v9 := ⟨_, Le.add _ _, S.freeze 0 rfl, OwnS.freeze (S.front 0 rfl) (h10.mono l10)⟩
       refine wl_lit (l := ([y6] : List CellChange)) (vs := [.agg #[.string y6.Key, .i6 y6.Column, v8, v9]]) (parts := [(0, .tmp 45)]) (wn rfl) rfl rfl rfl tu26 te36 (sz_cons rfl sz_nil) rfl (Cat.cons (rep_CellChange_mk (x := y6) (h11.mono l11) h12) (Cat.nil _)) (coa_cons rfl coa_nil) rfl F S rfl rfl ?_; clear F a S
       rintro v10 c8 a w h13 F S
       obtain ⟨cs2, hk1, hr3⟩ := OwnS.reads h13
       obtain ⟨y7, hy7, hm⟩ := bind_some hm
       refine wl_append (wn rfl) rfl tu26 tu26 te36 (by decide) (by decide) F S rfl rfl (k := 2) rfl (h5.mono ((((l7.trans l8).trans l9).trans l10).trans l11)) hk1 rfl (hr3 _ _ _ 0 rfl S) hy7 rfl rfl ?_; clear F a S
       rintro v11 c9 a w h14 S F; replace S : St g11 [c8, c3, c9, [bx b3 #[.i6 0, .i6 0] 28], [bx b2 #[vnewer1, vnewer2] 25], [bx b1 #[vold_1, vold_2] 25]] fr w := S
       refine wE (ev_assign rfl) F S rfl fun a F=>?_
       refine wpList_nil ?_
       refine then_n ?_
       refine wp_exit ?_
       refine then_e ?_
       refine inb_x ?_
       refine then_n ?_
       replace S : St g11 [c9, c3, [bx b3 #[.i6 0, .i6 0] 28], [bx b2 #[vnewer1, vnewer2] 25], [bx b1 #[vold_1, vold_2] 25]] fr w := St.tail [c9, c3, [bx b3 #[.i6 0, .i6 0] 28], [bx b2 #[vnewer1, vnewer2] 25], [bx b1 #[vold_1, vold_2] 25]] _ (((((S.frontC 5 rfl).frontC 5 rfl).frontC 5 rfl).frontC 4 rfl).frontC 6 rfl)
       exact ⟨y7, v11, c9, g11, F.sub ⟨rfl, rfl, rfl, rfl, rfl, rfl, rfl, trivial⟩, ((((l7.trans l8).trans l9).trans l10).trans l11), S, h14, hm⟩
      ·refine wp_condF F rfl hc4 ?_
       refine wp_skip ?_
       refine then_n ?_
       refine wp_seq ?_
       refine wp_region_lit ?_
       refine wE (ev_move rfl) F S rfl fun a F=>?_
       refine wE (ev_lenSh h7 rfl tu22) F S rfl fun a F=>?_
       refine wE (ev_move rfl) F S rfl fun a F=>?_
       refine wpList_nil ?_
       refine then_n ?_
       refine wp_cut1 (fun a w => ∃ (x7 : List CellChange) (v12 : Value) (c10 : Hl) (g12 : Gh), Fr 82 a [(25, .i6 x2), (24, .i6 (y2.length : Int)), (23, v3), (7, v12), (5, bp b3 0), (3, bp b2 0), (2, bp b1 0)] ∧ Le g8 g12 ∧ St g12 [c3, c10, [bx b3 #[.i6 0, .i6 0] 28], [bx b2 #[vnewer1, vnewer2] 25], [bx b1 #[vold_1, vold_2] 25]] fr w ∧ OwnS g12 x7 v12 c10 ∧ tablepatch_Diff.j3 x2 x7 = some x4) ?_ ?_
       ·refine wp_block ?_
        obtain ⟨r2, hr4, hm⟩ := bind_some hm
        have hmo2 := hm; clear hm
        refine wp_iter (σ := Int × (List CellChange)) (ρ := (List CellChange)) (m := fun s => tablepatch_Diff.l2 y3 y4 y5 s.1 s.2) (I := fun s a w => match s with | (x8, x9) => ∃ (v13 : Value) (c11 : Hl) (g13 : Gh), Fr 82 a [(50, .i6 x8), (49, .i6 (y4.length : Int)), (11, v7), (10, v6), (9, .string y3), (25, .i6 x2), (24, .i6 (y2.length : Int)), (23, v3), (7, v13), (5, bp b3 0), (3, bp b2 0), (2, bp b1 0)] ∧ Le g8 g13 ∧ St g13 [c3, c11, [bx b3 #[.i6 0, .i6 0] 28], [bx b2 #[vnewer1, vnewer2] 25], [bx b1 #[vold_1, vold_2] 25]] fr w ∧ OwnS g13 x9 v13 c11) hr4 ?_ ?_
        ·dsimp only
         exact ⟨v4, c4, g8, F.sub ⟨rfl, rfl, rfl, rfl, rfl, rfl, rfl, rfl, rfl, rfl, rfl, rfl, trivial⟩, (Le.refl _), S, (h5.mono (l7.trans l8))⟩
        ·clear F S; rintro ⟨x8, x9⟩ a w x10 ⟨v13, c11, g13, F, l13, S, h16⟩ hx3 hfin2
         have hm : tablepatch_Diff.l2 y3 y4 y5 x8 x9 = some x10 := hx3; clear hx3
         unfold tablepatch_Diff.l2 at hm
         refine wp_seq ?_
         refine wp_region_lit ?_
         refine wE (ev_int rfl rfl (bo_lss _ _ _ _)) F S rfl fun a F=>?_
         refine wpList_nil ?_
         refine then_n ?_
         refine wp_seq ?_
         obtain ⟨hc5, hm⟩ | ⟨hc5, hm⟩ := ite_or hm
         ·refine wp_condT F rfl hc5 ?_
          refine wp_skip ?_
          refine then_n ?_
          refine wp_cut (fun a w => ∃ (x11 : List CellChange) (v14 : Value) (c12 : Hl) (g14 : Gh), Fr 82 a [(7, v14), (50, .i6 x8), (49, .i6 (y4.length : Int)), (11, v7), (10, v6), (9, .string y3), (25, .i6 x2), (24, .i6 (y2.length : Int)), (23, v3), (5, bp b3 0), (3, bp b2 0), (2, bp b1 0)] ∧ Le g13 g14 ∧ St g14 [c12, c3, [bx b3 #[.i6 0, .i6 0] 28], [bx b2 #[vnewer1, vnewer2] 25], [bx b1 #[vold_1, vold_2] 25]] fr w ∧ OwnS g14 x11 v14 c12 ∧ tablepatch_Diff.j4 x8 x11 = some x10) ?_ ?_
          ·refine wp_block ?_
           refine wp_seq ?_
           refine wp_region_lit ?_
           refine wE (ev_move rfl) F S rfl fun a F=>?_
           refine wE (ev_assign rfl) F S rfl fun a F=>?_
           refine wpList_nil ?_
           refine then_n ?_
           refine wp_seq ?_
           refine wp_quiet mo (by kernel_rfl) S ?_
           refine wq_ev (wn rfl) (ev_move rfl) F rfl rfl ?_; clear F a; intro a F
           refine wq_ev (wn rfl) (ev_move rfl) F rfl rfl ?_; clear F a; intro a F
           obtain ⟨y8, hy8, hm⟩ := bind_some hm
           obtain ⟨cs3, hr5, hp1⟩ := elemS (h7.mono (l8.trans l13)) hy8
           obtain rfl := rep_str hr5
           refine wq_ev (wn rfl) (ev_idxS (h7.mono (l8.trans l13)) hy8 tu22 ts9 rfl rfl) F rfl rfl ?_; clear F a; intro a F
           refine wq_ev (wn rfl) (ev_load1 tu9 rfl rfl (ptr_mono (cks := [c3, c11, [bx b3 #[.i6 0, .i6 0] 28], [bx b2 #[vnewer1, vnewer2] 25], [bx b1 #[vold_1, vold_2] 25]]) (fr := fr) hp1 (Le.refl _))) F rfl rfl ?_; clear F a; intro a F
           refine wq_ev (wn rfl) (ev_move rfl) F rfl rfl ?_; clear F a; intro a F
           refine wq_ev (wn rfl) (ev_move rfl) F rfl rfl ?_; clear F a; intro a F
           obtain ⟨y9, hy9, hm⟩ := bind_some hm
           obtain ⟨cs4, hr6, hp2⟩ := elemS (h8.mono l13) hy9
           obtain rfl := rep_str hr6
           refine wq_ev (wn rfl) (ev_idxS (h8.mono l13) hy9 tu22 ts9 rfl rfl) F rfl rfl ?_; clear F a; intro a F
           refine wq_ev (wn rfl) (ev_load1 tu9 rfl rfl (ptr_mono (cks := [c3, c11, [bx b3 #[.i6 0, .i6 0] 28], [bx b2 #[vnewer1, vnewer2] 25], [bx b1 #[vold_1, vold_2] 25]]) (fr := fr) hp2 (Le.refl _))) F rfl rfl ?_; clear F a; intro a F
           refine wq_ev (wn rfl) (ev_str rfl rfl (bs_neq _ _ _)) F rfl rfl ?_; clear F a; intro a F
           refine wq_nil ?_; clear S; intro w S
           refine then_n ?_
           obtain ⟨hc6, hm⟩ | ⟨hc6, hm⟩ := ite_or hm
           ·refine wp_condT F rfl hc6 ?_
            refine wp_dv [16] mo S ?_; clear S; intro ok3 w S
            refine dv_et ok3 0 rfl (ev_move rfl) F rfl fun a F=>?_
            refine dv_et ok3 1 rfl (ev_move rfl) F rfl fun a F=>?_
            refine dv_et ok3 2 rfl (ev_move rfl) F rfl fun a F=>?_
            refine dv_et ok3 3 rfl (ev_move rfl) F rfl fun a F=>?_
            refine dv_et ok3 4 rfl (ev_move rfl) F rfl fun a F=>?_
            refine dv_et ok3 5 rfl (ev_move rfl) F rfl fun a F=>?_
            obtain ⟨z3, hz3, hm⟩ := bind_some hm
            refine dv_et ok3 6 rfl (ev_int rfl rfl (bo_add hz3)) F rfl fun a F=>?_
            obtain ⟨y10, hy10, hm⟩ := bind_some hm
            obtain ⟨v15, h18, he1⟩ := ev_cut (P := Try.prog) (n := 82) (e := [(68, .i6 z3), (67, .i6 x8), (66, .i6 x8), (65, v6), (64, .i6 x8), (63, .string y3), (62, v13), (61, .bool (!decide (y8 = y9))), (60, .string y9), (59, (elemP v7 x8 1)), (58, .i6 x8), (57, v7), (56, .string y8), (55, (elemP v6 x8 1)), (54, .i6 x8), (53, v6), (12, .i6 x8), (52, .i6 x8), (51, .bool (decide (x8 < (y4.length : Int)))), (50, .i6 x8), (49, .i6 (y4.length : Int)), (11, v7), (10, v6), (9, .string y3), (25, .i6 x2), (24, .i6 (y2.length : Int)), (23, v3), (7, v13), (5, bp b3 0), (3, bp b2 0), (2, bp b1 0)]) (C := fun _ => True) (x := .tmp 65) (lo := some (.tmp 66)) (hi := some (.tmp 68)) (h7.mono (l8.trans l13)) hy10 tu22 ts9 rfl (bndV rfl) (bndV rfl)
            refine dv_et ok3 7 rfl he1 F rfl fun a F=>?_
            refine dv_et ok3 8 rfl (ev_move rfl) F rfl fun a F=>?_
            refine dv_et ok3 9 rfl (ev_move rfl) F rfl fun a F=>?_
            refine dv_et ok3 10 rfl (ev_move rfl) F rfl fun a F=>?_
            obtain ⟨z4, hz4, hm⟩ := bind_some hm
            refine dv_et ok3 11 rfl (ev_int rfl rfl (bo_add hz4)) F rfl fun a F=>?_
            obtain ⟨y11, hy11, hm⟩ := bind_some hm
            obtain ⟨v16, h19, he2⟩ := ev_cut (P := Try.prog) (n := 82) (e := [(73, .i6 z4), (72, .i6 x8), (71, .i6 x8), (70, v7), (69, v15), (68, .i6 z3), (67, .i6 x8), (66, .i6 x8), (65, v6), (64, .i6 x8), (63, .string y3), (62, v13), (61, .bool (!decide (y8 = y9))), (60, .string y9), (59, (elemP v7 x8 1)), (58, .i6 x8), (57, v7), (56, .string y8), (55, (elemP v6 x8 1)), (54, .i6 x8), (53, v6), (12, .i6 x8), (52, .i6 x8), (51, .bool (decide (x8 < (y4.length : Int)))), (50, .i6 x8), (49, .i6 (y4.length : Int)), (11, v7), (10, v6), (9, .string y3), (25, .i6 x2), (24, .i6 (y2.length : Int)), (23, v3), (7, v13), (5, bp b3 0), (3, bp b2 0), (2, bp b1 0)]) (C := fun _ => True) (x := .tmp 70) (lo := some (.tmp 71)) (hi := some (.tmp 73)) (h8.mono l13) hy11 tu22 ts9 rfl (bndV rfl) (bndV rfl)
            refine dv_et ok3 12 rfl he2 F rfl fun a F=>?_
            refine dv_op ok3 13 rfl [] ?_
            obtain ⟨y12, hy12, hm⟩ := bind_some hm
            refine wl_call0 (wn rfl) rfl F rfl (tablepatch_change_ok (fr := (fl [c3, c11, [bx b3 #[.i6 0, .i6 0] 28], [bx b2 #[vnewer1, vnewer2] 25], [bx b1 #[vold_1, vold_2] 25]] fr)) y3 x8 y10 v15 h18 y11 v16 h19 S hy12) rfl tc28 rfl rfl ?_; clear F a S
            rintro _ a w ⟨g15, v17, v18, c13, c14, l15, S, h20, h21, rfl⟩ F; replace S : St g15 [c13, c14, c3, c11, [bx b3 #[.i6 0, .i6 0] 28], [bx b2 #[vnewer1, vnewer2] 25], [bx b1 #[vold_1, vold_2] 25]] fr w := S
            refine dv_nx trivial ?_
            refine dv_op ok3 14 rfl [] ?_
            obtain ⟨g16, l16, S, h22⟩ : ∃ gz, Le g15 gz ∧ St gz [c14, c3, c11, [bx b3 #[.i6 0, .i6 0] 28], [bx b2 #[vnewer1, vnewer2] 25], [bx b1 #[vold_1, vold_2] 25]] fr w ∧ RepSl gz y12.Old v17 := ⟨_, Le.add _ _, S.freeze 0 rfl, OwnS.freeze (S.front 0 rfl) h20⟩
            obtain ⟨g17, l17, S, h23⟩ : ∃ gz, Le g16 gz ∧ St gz [c3, c11, [bx b3 #[.i6 0, .i6 0] 28], [bx b2 #[vnewer1, vnewer2] 25], [bx b1 #[vold_1, vold_2] 25]] fr w ∧ RepSl gz y12.New v18 := ⟨_, Le.add _ _, S.freeze 0 rfl, OwnS.freeze (S.front 0 rfl) (h21.mono l16)⟩
            refine wl_lit (l := ([y12] : List CellChange)) (vs := [.agg #[.string y12.Key, .i6 y12.Column, v17, v18]]) (parts := [(0, .tmp 75)]) (wn rfl) rfl rfl rfl tu26 te36 (sz_cons rfl sz_nil) rfl (Cat.cons (rep_CellChange_mk (x := y12) (h22.mono l17) h23) (Cat.nil _)) (coa_cons rfl coa_nil) rfl F S rfl rfl ?_; clear F a S
            rintro v19 c15 a w h24 F S
            refine dv_nx trivial ?_
            refine dv_op ok3 15 rfl [] ?_
            obtain ⟨cs5, hk2, hr7⟩ := OwnS.reads h24
            obtain ⟨y13, hy13, hm⟩ := bind_some hm
            refine wl_append (wn rfl) rfl tu26 tu26 te36 (by decide) (by decide) F S rfl rfl (k := 2) rfl (h16.mono ((l15.trans l16).trans l17)) hk2 rfl (hr7 _ _ _ 0 rfl S) hy13 rfl rfl ?_; clear F a S
            rintro v20 c16 a w h25 S F; replace S : St g17 [c15, c3, c16, [bx b3 #[.i6 0, .i6 0] 28], [bx b2 #[vnewer1, vnewer2] 25], [bx b1 #[vold_1, vold_2] 25]] fr w := S
            refine dv_nx trivial ?_
            refine dv_op ok3 16 rfl [] ?_
            refine wE (ev_assign rfl) F S rfl fun a F=>?_
            refine dv_nx trivial ?_
            refine dv_fin ok3 ?_
            refine inb_n ?_
            refine then_n ?_
            replace S : St g17 [c16, c3, [bx b3 #[.i6 0, .i6 0] 28], [bx b2 #[vnewer1, vnewer2] 25], [bx b1 #[vold_1, vold_2] 25]] fr w := St.tail [c16, c3, [bx b3 #[.i6 0, .i6 0] 28], [bx b2 #[vnewer1, vnewer2] 25], [bx b1 #[vold_1, vold_2] 25]] _ (((((S.frontC 5 rfl).frontC 5 rfl).frontC 5 rfl).frontC 4 rfl).frontC 6 rfl)
            exact ⟨y13, v20, c16, g17, F.sub ⟨rfl, rfl, rfl, rfl, rfl, rfl, rfl, rfl, rfl, rfl, rfl, rfl, trivial⟩, ((l15.trans l16).trans l17), S, h25, hm⟩
           ·refine wp_condF F rfl hc6 ?_
            refine wp_skip ?_
            refine inb_n ?_
            refine then_n ?_
            replace S : St g13 [c11, c3, [bx b3 #[.i6 0, .i6 0] 28], [bx b2 #[vnewer1, vnewer2] 25], [bx b1 #[vold_1, vold_2] 25]] fr w := St.tail [c11, c3, [bx b3 #[.i6 0, .i6 0] 28], [bx b2 #[vnewer1, vnewer2] 25], [bx b1 #[vold_1, vold_2] 25]] _ (((((S.frontC 4 rfl).frontC 4 rfl).frontC 4 rfl).frontC 3 rfl).frontC 5 rfl)
            exact ⟨x9, v13, c11, g13, F.sub ⟨rfl, rfl, rfl, rfl, rfl, rfl, rfl, rfl, rfl, rfl, rfl, rfl, trivial⟩, (Le.refl _), S, h16, hm⟩
          ·clear F S hm; rintro a w ⟨x11, v14, c12, g14, F, l14, S, h17, hm⟩
           refine wp_region_lit ?_
           obtain ⟨z2, hz2, hm⟩ := bind_some hm
           refine wE (ev_int rfl rfl (bo_add hz2)) F S rfl fun a F=>?_
           refine wE (ev_move rfl) F S rfl fun a F=>?_
           refine wpList_nil ?_
           refine then_n ?_
           obtain rfl := sinj hm
           refine ⟨_, rfl, ?_⟩
           dsimp only
           replace S : St g14 [c3, c12, [bx b3 #[.i6 0, .i6 0] 28], [bx b2 #[vnewer1, vnewer2] 25], [bx b1 #[vold_1, vold_2] 25]] fr w := St.tail [c3, c12, [bx b3 #[.i6 0, .i6 0] 28], [bx b2 #[vnewer1, vnewer2] 25], [bx b1 #[vold_1, vold_2] 25]] _ (((((S.frontC 4 rfl).frontC 4 rfl).frontC 4 rfl).frontC 3 rfl).frontC 5 rfl)
           exact ⟨v14, c12, g14, F.sub ⟨rfl, rfl, rfl, rfl, rfl, rfl, rfl, rfl, rfl, rfl, rfl, rfl, trivial⟩, (l13.trans l14), S, h17⟩
         ·refine wp_condF F rfl hc5 ?_
          refine wp_exit ?_
          refine then_e ?_
          refine then_e ?_
          refine inb_x ?_
          refine then_n ?_
          obtain rfl := sinj hm
          obtain rfl := hfin2 _ rfl
          clear hm
          have hm : (tablepatch_Diff.j3 x2 x9 : Option (Step (Int × (List CellChange)) (List CellChange))) = some _ := hmo2
          exact ⟨x9, v13, c11, g13, F.sub ⟨rfl, rfl, rfl, rfl, rfl, rfl, rfl, trivial⟩, l13, S, h16, hm⟩
       ·clear F S hm; rintro a w ⟨x7, v12, c10, g12, F, l12, S, h15, hm⟩
        refine inb_n ?_
        refine then_n ?_
        replace S : St g12 [c10, c3, [bx b3 #[.i6 0, .i6 0] 28], [bx b2 #[vnewer1, vnewer2] 25], [bx b1 #[vold_1, vold_2] 25]] fr w := St.tail [c10, c3, [bx b3 #[.i6 0, .i6 0] 28], [bx b2 #[vnewer1, vnewer2] 25], [bx b1 #[vold_1, vold_2] 25]] _ (((((S.frontC 4 rfl).frontC 4 rfl).frontC 4 rfl).frontC 3 rfl).frontC 5 rfl)
        exact ⟨x7, v12, c10, g12, F.sub ⟨rfl, rfl, rfl, rfl, rfl, rfl, rfl, trivial⟩, ((l7.trans l8).trans l12), S, h15, hm⟩
     ·clear F S hm; rintro a w ⟨x5, v5, c5, g6, F, l6, S, h6, hm⟩
      refine wp_region_lit ?_
      obtain ⟨z1, hz1, hm⟩ := bind_some hm
      refine wE (ev_int rfl rfl (bo_add hz1)) F S rfl fun a F=>?_
      refine wE (ev_move rfl) F S rfl fun a F=>?_
      refine wpList_nil ?_
      refine then_n ?_
      obtain rfl := sinj hm
      refine ⟨_, rfl, ?_⟩
      dsimp only
      replace S : St g6 [c3, c5, [bx b3 #[.i6 0, .i6 0] 28], [bx b2 #[vnewer1, vnewer2] 25], [bx b1 #[vold_1, vold_2] 25]] fr w := St.tail [c3, c5, [bx b3 #[.i6 0, .i6 0] 28], [bx b2 #[vnewer1, vnewer2] 25], [bx b1 #[vold_1, vold_2] 25]] _ (((((S.frontC 4 rfl).frontC 4 rfl).frontC 4 rfl).frontC 3 rfl).frontC 5 rfl)
      exact ⟨v5, c5, g6, F.sub ⟨rfl, rfl, rfl, rfl, rfl, rfl, rfl, trivial⟩, (l5.trans l6), S, h6⟩
    ·refine wp_condF F rfl hc2 ?_
     refine wp_exit ?_
     refine then_e ?_
     refine then_e ?_
     refine inb_x ?_
     refine then_n ?_
     obtain rfl := sinj hm
     obtain rfl := hfin1 _ rfl
     clear hm
     have hm : (tablepatch_Diff.j1 x3 : Option ((List CellChange) × Fault)) = some _ := hmo1
     replace S : St g5 [c4, [bx b3 #[.i6 0, .i6 0] 28]] fr w := St.tail [c4, [bx b3 #[.i6 0, .i6 0] 28]] _ ((S.frontC 2 rfl).frontC 2 rfl)
     exact ⟨x3, v4, c4, g5, F.sub ⟨rfl, rfl, trivial⟩, ((l3.trans l4).trans l5), S, h5, hm⟩
  ·clear F S hm; rintro a w ⟨x1, v1, c1, g2, F, l2, S, h1, hm⟩
   refine wp_seq ?_
   refine wp_region_lit ?_
   refine wE (ev_move rfl) F S rfl fun a F=>?_
   refine wE (ev_build (parts := []) (vs := []) rfl (fun w => tb28_  w)) F S rfl fun a F=>?_
   refine wE (ev_assign rfl) F S rfl fun a F=>?_
   refine wl_storeC (wn rfl) rfl F S rfl rfl (vs := [.i6 0, .i6 0]) rfl ts28 (one_cons rfl (one_cons rfl one_nil)) (k := 1) rfl (lb rfl) (c' := #[.i6 0, .i6 0]) rfl rfl ?_; clear S; intro w S
   refine wpList_nil ?_
   refine then_n ?_
   refine wp_ret ?_
   obtain rfl := sinj hm
   refine post_r _ F rfl (ar_cons (resT rfl) (ar_cons (resA rfl tu28 rfl (box_ptr (cells := [.i6 0, .i6 0]) 1 rfl 0 rfl (lb rfl) w S) ts28) ar_nil)) ?_
   replace S : St g2 [c1] fr w := St.tail [c1] _ (S.frontC 0 rfl)
   exact ⟨_, rfl, g2, v1, c1, (l1.trans l2), S, h1, rfl⟩
end Go.Dc
