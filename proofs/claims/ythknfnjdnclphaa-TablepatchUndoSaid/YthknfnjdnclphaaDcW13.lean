/- Walks: each function comes to what its model says. -/
import Derived.Test.YthknfnjdnclphaaDcTab
import Derived.Test.YthknfnjdnclphaaDcM
import Derived.Test.YthknfnjdnclphaaDcW12
import Derived.Test.YthknfnjdnclphaaDcW5
namespace Go.Dc
open Go Go.Proofs
set_option maxRecDepth 100000
set_option maxHeartbeats 4000000
set_option linter.unusedVariables false
theorem changeforgelaw2_undone_ok {g : Gh} {fr : Hl} {w : World} {r : (List CellChange)} (l_ : (List CellChange)) (vl_1 : Value) (hl_1 : RepSl g l_ vl_1) (S : St g [] fr w) (hm : changeforgelaw2_undone l_ = some r) :
  Calls Try.prog 18 [vl_1].toArray w (fun en w' => ∃ v, en = .returned v ∧ ∃ (g' : Gh) (v1 : Value) (c1 : Hl), Le g g' ∧ St g' [c1] fr w' ∧ OwnS g' r v1 c1 ∧ v1 = v) := by
 unfold changeforgelaw2_undone at hm
 refine calls_enter (fn := Try.f18) Try.func18 rfl Try.ntmps18 (lb rfl) ?_
 intro a F
 replace F : Fr 37 a [(0, vl_1)] := F
 refine wp_seq ?_
 refine wp_region_lit ?_
 refine wE (ev_assign rfl) F S rfl fun a F=>?_
 refine wpList_nil ?_
 refine then_n ?_
 refine wp_seq ?_
 refine wp_region_lit ?_
 refine wE (ev_assign rfl) F S rfl fun a F=>?_
 refine wpList_nil ?_
 refine then_n ?_
 refine wp_cut (fun a w => ∃ (x1 : List CellChange) (v1 : Value) (c1 : Hl) (g1 : Gh), Fr 37 a [(3, v1)] ∧ Le g g1 ∧ St g1 [c1] fr w ∧ OwnS g1 x1 v1 c1 ∧ changeforgelaw2_undone.j1 x1 = some r) ?_ ?_
 ·refine wp_seq ?_
  refine wp_region_lit ?_
  refine wE (ev_move rfl) F S rfl fun a F=>?_
  refine wE (ev_lenSh hl_1 rfl tu26) F S rfl fun a F=>?_
  obtain ⟨z1, hz1, hm⟩ := bind_some hm
  refine wE (ev_int rfl rfl (bo_sub hz1)) F S rfl fun a F=>?_
  refine wE (ev_assign rfl) F S rfl fun a F=>?_
  refine wpList_nil ?_
  refine then_n ?_
  refine wp_block ?_
  obtain ⟨r1, hr1, hm⟩ := bind_some hm
  have hmo1 := hm; clear hm
  refine wp_iter (σ := Int × (List CellChange)) (ρ := (List CellChange)) (m := fun s => changeforgelaw2_undone.l1 l_ s.1 s.2) (I := fun s a w => match s with | (x2, x3) => ∃ (v2 : Value) (c2 : Hl) (g2 : Gh), Fr 37 a [(4, .i6 x2), (3, v2), (0, vl_1)] ∧ Le g g2 ∧ St g2 [c2] fr w ∧ OwnS g2 x3 v2 c2) hr1 ?_ ?_
  ·dsimp only
   replace S : St g [[]] fr w := S
   exact ⟨(nilS), [], g, F.sub ⟨rfl, rfl, rfl, trivial⟩, (Le.refl _), S, (OwnS.nil _)⟩
  ·clear F S; rintro ⟨x2, x3⟩ a w x4 ⟨v2, c2, g2, F, l2, S, h2⟩ hx1 hfin1
   have hm : changeforgelaw2_undone.l1 l_ x2 x3 = some x4 := hx1; clear hx1
   unfold changeforgelaw2_undone.l1 at hm
   refine wp_seq ?_
   refine wp_seq ?_
   refine wp_region_lit ?_
   refine wE (ev_move rfl) F S rfl fun a F=>?_
   refine wE (ev_int rfl rfl (bo_geq _ _ _ _)) F S rfl fun a F=>?_
   refine wpList_nil ?_
   refine then_n ?_
   obtain ⟨hc1, hm⟩ | ⟨hc1, hm⟩ := ite_or hm
   ·refine wp_condT F rfl hc1 ?_
    refine wp_skip ?_
    refine then_n ?_
    refine wp_seq ?_
    refine wp_block ?_
    refine wp_dv [24] mo S ?_; clear S; intro ok1 w S
    refine dv_et ok1 0 rfl (ev_move rfl) F rfl fun a F=>?_
    refine dv_et ok1 1 rfl (ev_move rfl) F rfl fun a F=>?_
    refine dv_et ok1 2 rfl (ev_move rfl) F rfl fun a F=>?_
    obtain ⟨y1, hy1, hm⟩ := bind_some hm
    obtain ⟨cs1, hr2, hp1⟩ := elemS (hl_1.mono l2) hy1
    obtain ⟨v3, v4, rfl, h3, h4⟩ := rep_CellChange hr2
    refine dv_et ok1 3 rfl (ev_idxS (hl_1.mono l2) hy1 tu26 ts36 rfl rfl) F rfl fun a F=>?_
    have hp2 := PtrC.field hp1 0 1 (lb rfl)
    have hp2 : PtrC g2 (addP (elemP vl_1 x2 4) 0) [.string y1.Key] := hp2
    refine dv_et ok1 4 rfl (ev_fieldAddr' tu36 tf36_0 (z := 0) ts9 rfl hp1.ptr rfl) F rfl fun a F=>?_
    refine dv_ev ok1 5 rfl (ev_load1 tu9 rfl rfl (ptr_mono (cks := [c2]) (fr := fr) hp2 (Le.refl _))) F S rfl fun a F=>?_
    refine dv_et ok1 6 rfl (ev_move rfl) F rfl fun a F=>?_
    refine dv_et ok1 7 rfl (ev_move rfl) F rfl fun a F=>?_
    obtain ⟨y2, hy2, hm⟩ := bind_some hm
    obtain ⟨cs2, hr3, hp3⟩ := elemS (hl_1.mono l2) hy2
    obtain ⟨v5, v6, rfl, h5, h6⟩ := rep_CellChange hr3
    refine dv_et ok1 8 rfl (ev_idxS (hl_1.mono l2) hy2 tu26 ts36 rfl rfl) F rfl fun a F=>?_
    have hp4 := PtrC.field hp3 1 1 (lb rfl)
    have hp4 : PtrC g2 (addP (elemP vl_1 x2 4) 1) [.i6 y2.Column] := hp4
    refine dv_et ok1 9 rfl (ev_fieldAddr' tu36 tf36_1 (z := 0) ts3 rfl hp3.ptr rfl) F rfl fun a F=>?_
    refine dv_ev ok1 10 rfl (ev_load1 tu3 rfl rfl (ptr_mono (cks := [c2]) (fr := fr) hp4 (Le.refl _))) F S rfl fun a F=>?_
    refine dv_et ok1 11 rfl (ev_move rfl) F rfl fun a F=>?_
    refine dv_et ok1 12 rfl (ev_move rfl) F rfl fun a F=>?_
    obtain ⟨y3, hy3, hm⟩ := bind_some hm
    obtain ⟨cs3, hr4, hp5⟩ := elemS (hl_1.mono l2) hy3
    obtain ⟨v7, v8, rfl, h7, h8⟩ := rep_CellChange hr4
    refine dv_et ok1 13 rfl (ev_idxS (hl_1.mono l2) hy3 tu26 ts36 rfl rfl) F rfl fun a F=>?_
    have hp6 := PtrC.field hp5 3 1 (lb rfl)
    have hp6 : PtrC g2 (addP (elemP vl_1 x2 4) 3) [v8] := hp6
    refine dv_et ok1 14 rfl (ev_fieldAddr' tu36 tf36_3 (z := 0) ts22 rfl hp5.ptr rfl) F rfl fun a F=>?_
    refine dv_ev ok1 15 rfl (ev_load1 tu22 rfl rfl (ptr_mono (cks := [c2]) (fr := fr) hp6 (Le.refl _))) F S rfl fun a F=>?_
    refine dv_et ok1 16 rfl (ev_move rfl) F rfl fun a F=>?_
    refine dv_et ok1 17 rfl (ev_move rfl) F rfl fun a F=>?_
    obtain ⟨y4, hy4, hm⟩ := bind_some hm
    obtain ⟨cs4, hr5, hp7⟩ := elemS (hl_1.mono l2) hy4
    obtain ⟨v9, v10, rfl, h9, h10⟩ := rep_CellChange hr5
    refine dv_et ok1 18 rfl (ev_idxS (hl_1.mono l2) hy4 tu26 ts36 rfl rfl) F rfl fun a F=>?_
    have hp8 := PtrC.field hp7 2 1 (lb rfl)
    have hp8 : PtrC g2 (addP (elemP vl_1 x2 4) 2) [v9] := hp8
    refine dv_et ok1 19 rfl (ev_fieldAddr' tu36 tf36_2 (z := 0) ts22 rfl hp7.ptr rfl) F rfl fun a F=>?_
    refine dv_ev ok1 20 rfl (ev_load1 tu22 rfl rfl (ptr_mono (cks := [c2]) (fr := fr) hp8 (Le.refl _))) F S rfl fun a F=>?_
    refine dv_et ok1 21 rfl (ev_build (parts := [(0, .tmp 17), (1, .tmp 22), (2, .tmp 27), (3, .tmp 32)]) (vs := [(0, .string y1.Key), (1, .i6 y2.Column), (2, v8), (3, v9)]) rfl (fun w => tb36_0_1_2_3 y1.Key y2.Column v8 (RepSl.isSl h8) v9 (RepSl.isSl h9) w)) F rfl fun a F=>?_
    refine dv_op ok1 22 rfl [] ?_
    refine wl_lit (l := ([({ Key := y1.Key, Column := y2.Column, Old := y3.New, New := y4.Old } : CellChange)] : List CellChange)) (vs := [.agg #[.string y1.Key, .i6 y2.Column, v8, v9]]) (parts := [(0, .tmp 33)]) (wn rfl) rfl rfl rfl tu26 te36 (sz_cons rfl sz_nil) rfl (Cat.cons (rep_CellChange_mk (x := ({ Key := y1.Key, Column := y2.Column, Old := y3.New, New := y4.Old } : CellChange)) h8 h9) (Cat.nil _)) (coa_cons rfl coa_nil) rfl F S rfl rfl ?_; clear F a S
    rintro v11 c3 a w h11 F S
    refine dv_nx trivial ?_
    refine dv_op ok1 23 rfl [] ?_
    obtain ⟨cs5, hk1, hr6⟩ := OwnS.reads h11
    obtain ⟨y5, hy5, hm⟩ := bind_some hm
    refine wl_append (wn rfl) rfl tu26 tu26 te36 (by decide) (by decide) F S rfl rfl (k := 1) rfl h2 hk1 rfl (hr6 _ _ _ 0 rfl S) hy5 rfl rfl ?_; clear F a S
    rintro v12 c4 a w h12 S F; replace S : St g2 [c3, c4] fr w := S
    refine dv_nx trivial ?_
    refine dv_op ok1 24 rfl [] ?_
    refine wE (ev_assign rfl) F S rfl fun a F=>?_
    refine dv_nx trivial ?_
    refine dv_fin ok1 ?_
    refine inb_n ?_
    refine then_n ?_
    refine wp_region_lit ?_
    refine wE (ev_move rfl) F S rfl fun a F=>?_
    obtain ⟨z2, hz2, hm⟩ := bind_some hm
    refine wE (ev_int rfl rfl (bo_sub hz2)) F S rfl fun a F=>?_
    refine wE (ev_assign rfl) F S rfl fun a F=>?_
    refine wpList_nil ?_
    refine then_n ?_
    obtain rfl := sinj hm
    refine ⟨_, rfl, ?_⟩
    dsimp only
    replace S : St g2 [c4] fr w := St.tail [c4] _ (S.frontC 1 rfl)
    exact ⟨v12, c4, g2, F.sub ⟨rfl, rfl, rfl, trivial⟩, l2, S, h12⟩
   ·refine wp_condF F rfl hc1 ?_
    refine wp_exit ?_
    refine then_e ?_
    refine then_e ?_
    refine inb_x ?_
    refine then_n ?_
    obtain rfl := sinj hm
    obtain rfl := hfin1 _ rfl
    clear hm
    have hm : (changeforgelaw2_undone.j1 x3 : Option (List CellChange)) = some _ := hmo1
    exact ⟨x3, v2, c2, g2, F.sub ⟨rfl, trivial⟩, l2, S, h2, hm⟩
 ·clear F S hm; rintro a w ⟨x1, v1, c1, g1, F, l1, S, h1, hm⟩
  refine wp_seq ?_
  refine wp_region_lit ?_
  refine wE (ev_move rfl) F S rfl fun a F=>?_
  refine wE (ev_assign rfl) F S rfl fun a F=>?_
  refine wpList_nil ?_
  refine then_n ?_
  refine wp_ret ?_
  obtain rfl := sinj hm
  refine post_r _ F rfl (ar_cons (resT rfl) ar_nil) ?_
  exact ⟨_, rfl, g1, v1, c1, l1, S, h1, rfl⟩

theorem changeforgelaw2_TablepatchUndo_ok {g : Gh} {fr : Hl} {w : World} {r : Bool} (l_ : (List CellChange)) (vl_1 : Value) (hl_1 : RepSl g l_ vl_1) (t_ : Table) (vt_1 : Value) (ht_1 : RepSl g t_.Columns vt_1) (vt_2 : Value) (ht_2 : RepSl g t_.Rows vt_2) (S : St g [] fr w) (hm : changeforgelaw2_TablepatchUndo l_ t_ = some r) :
  Calls Try.prog 7 [vl_1, .agg #[vt_1, vt_2]].toArray w (fun en w' => ∃ v, en = .returned v ∧ ∃ (g' : Gh), Le g g' ∧ St g' [] fr w' ∧ .bool r = v) := by
 unfold changeforgelaw2_TablepatchUndo at hm
 refine calls_enter (fn := Try.f7) Try.func7 rfl Try.ntmps7 (lb rfl) ?_
 intro a F
 replace F : Fr 37 a [(0, vl_1), (1, .agg #[vt_1, vt_2])] := F
 refine wp_seq ?_
 refine wp_region_lit ?_
 refine wl_boxC (wn rfl) rfl rfl rfl F S rfl rfl ?_; clear F a S; rintro b1 a w F S
 refine wE (ev_assign rfl) F S rfl fun a F=>?_
 refine wpList_nil ?_
 refine then_n ?_
 refine wp_seq ?_
 refine wp_region_lit ?_
 refine wE (ev_move rfl) F S rfl fun a F=>?_
 refine wE (ev_loadA tu25 rfl (cs := [vt_1, vt_2]) ts25 rfl (box_ptr (cells := [vt_1, vt_2]) 0 rfl 0 rfl (lb rfl))) F S rfl fun a F=>?_
 obtain ⟨y1, hy1, hm⟩ := bind_some hm
 refine wl_call0 (wn rfl) rfl F rfl (tablepatch_Apply_ok (fr := (fl [[bx b1 #[vt_1, vt_2] 25]] fr)) l_ vl_1 hl_1 t_ vt_1 ht_1 vt_2 ht_2 S hy1) rfl tc17 rfl rfl ?_; clear F a S
 rintro _ a w ⟨g1, v1, v2, c1, l1, S, h1, h2, rfl⟩ F; replace S : St g1 [c1, [bx b1 #[vt_1, vt_2] 25]] fr w := S
 refine wE (ev_move rfl) F S rfl fun a F=>?_
 refine wE (ev_extract rfl rfl) F S rfl fun a F=>?_
 refine wE (ev_extract rfl rfl) F S rfl fun a F=>?_
 refine wl_alloc (wn rfl) rfl tz25 (cs := [nilS, nilS]) rfl F S rfl rfl ?_; clear F a S; rintro b2 a w F S
 refine wl_alloc (wn rfl) rfl tz28 (cs := [.i6 0, .i6 0]) rfl F S rfl rfl ?_; clear F a S; rintro b3 a w F S
 refine wl_storeC (wn rfl) rfl F S rfl rfl (vs := [v1, v2]) rfl ts25 (one_cons (OwnS.one h1) (one_cons h2.one one_nil)) (k := 1) rfl (lb rfl) (c' := #[v1, v2]) rfl rfl ?_; clear S; intro w S
 refine wl_storeC (wn rfl) rfl F S rfl rfl (vs := [.i6 y1.2.Code, .i6 y1.2.Index]) rfl ts28 (one_cons rfl (one_cons rfl one_nil)) (k := 0) rfl (lb rfl) (c' := #[.i6 y1.2.Code, .i6 y1.2.Index]) rfl rfl ?_; clear S; intro w S
 refine wpList_nil ?_
 refine then_n ?_
 refine wp_seq ?_
 refine wp_seq ?_
 refine wp_region_lit ?_
 refine wE (ev_fieldAddr' tu28 tf28_0 (z := 0) ts3 rfl ⟨_, rfl⟩ rfl) F S rfl fun a F=>?_
 refine wE (ev_load1 tu3 rfl rfl (box_ptr (cells := [.i6 y1.2.Code]) 0 rfl 0 rfl (lb rfl))) F S rfl fun a F=>?_
 refine wE (ev_int rfl rfl (bo_neq _ _ _ _)) F S rfl fun a F=>?_
 refine wpList_nil ?_
 refine then_n ?_
 obtain ⟨hc1, hm⟩ | ⟨hc1, hm⟩ := ite_or hm
 ·refine wp_condT F rfl hc1 ?_
  refine wp_seq ?_
  refine wp_region_lit ?_
  obtain ⟨y2, hy2, hm⟩ := bind_some hm
  refine wl_call0 (wn rfl) rfl F rfl (changeforgelaw2_both_ok (fr := (fl [[bx b3 #[.i6 y1.2.Code, .i6 y1.2.Index] 28], [bx b2 #[v1, v2] 25], c1, [bx b1 #[vt_1, vt_2] 25]] fr))  S hy2) rfl tc14 rfl rfl ?_; clear F a S
  rintro _ a w ⟨g2, l2, S, rfl⟩ F; replace S : St g2 [[bx b3 #[.i6 y1.2.Code, .i6 y1.2.Index] 28], [bx b2 #[v1, v2] 25], c1, [bx b1 #[vt_1, vt_2] 25]] fr w := S
  refine wE (ev_assign rfl) F S rfl fun a F=>?_
  refine wpList_nil ?_
  refine then_n ?_
  refine wp_ret ?_
  refine then_r ?_
  obtain rfl := sinj hm
  refine post_r _ F rfl (ar_cons (resT rfl) ar_nil) ?_
  replace S : St g2 [] fr w := St.tail [] _ S
  exact ⟨_, rfl, g2, (l1.trans l2), S, rfl⟩
 ·refine wp_condF F rfl hc1 ?_
  refine wp_skip ?_
  refine then_n ?_
  refine wp_seq ?_
  refine wp_dv [] mo S ?_; clear S; intro ok1 w S
  refine dv_et ok1 0 rfl (ev_move rfl) F rfl fun a F=>?_
  refine dv_ev ok1 2 rfl (ev_loadA tu25 rfl (cs := [v1, v2]) ts25 rfl (box_ptr (cells := [v1, v2]) 1 rfl 0 rfl (lb rfl))) F S rfl fun a F=>?_
  obtain ⟨y3, hy3, hm⟩ := bind_some hm
  obtain ⟨y4, hy4, hm⟩ := bind_some hm
  refine dv_cut [0, 2, 1, 3, 4, 5, 6, 7, 8] [] (fun a w => ∃ (v6 v7 : Value) (b6 b7 : Nat) (c4 : Hl) (g7 : Gh), Fr 37 a [(8, bp b6 0), (7, bp b7 0), (25, .agg #[.i6 y4.2.Code, .i6 y4.2.Index]), (24, .agg #[v6, v7]), (3, bp b1 0)] ∧ Le g1 g7 ∧ St g7 [[bx b6 #[.i6 0, .i6 0] 28], [bx b7 #[nilS, nilS] 25], c4, [bx b1 #[vt_1, vt_2] 25]] fr w ∧ OwnS g7 y4.1.Columns v6 c4 ∧ RepSl g7 y4.1.Rows v7 ∧ changeforgelaw2_TablepatchUndo.j1 t_ y4 = some r) ?_ ?_
  ·intro HJ
   refine dv_fork ok1 1 [7, 8] (fk 1 rfl [(2, .agg #[v1, v2])] ?_ (fk 7 rfl [(2, .agg #[v1, v2])] ?_ (fk 8 rfl [(2, .agg #[v1, v2])] ?_ trivial)))
   ·refine wl_call0 (wn rfl) rfl F rfl (changeforgelaw2_undone_ok (fr := (fl [[bx b3 #[.i6 y1.2.Code, .i6 y1.2.Index] 28], [bx b2 #[v1, v2] 25], c1, [bx b1 #[vt_1, vt_2] 25]] fr)) l_ vl_1 (hl_1.mono l1) S hy3) rfl tc18 rfl rfl ?_; clear F a S
    rintro _ a w ⟨g3, v3, c2, l3, S, h3, rfl⟩ F; replace S : St g3 [c2, [bx b3 #[.i6 y1.2.Code, .i6 y1.2.Index] 28], [bx b2 #[v1, v2] 25], c1, [bx b1 #[vt_1, vt_2] 25]] fr w := S
    refine dv_nx ⟨yl_ev rfl rfl (ev_loadA tu25 rfl (cs := [v1, v2]) ts25 rfl (box_ptr (cells := [v1, v2]) 2 rfl 0 rfl (lb rfl))) F S, trivial⟩ ?_
    refine dv_fork ok1 3 [7, 8] (fk 3 rfl [] ?_ (fk 7 rfl [(2, .agg #[v1, v2])] ?_ (fk 8 rfl [(2, .agg #[v1, v2])] ?_ trivial)))
    ·obtain ⟨g4, l4, S, h4⟩ : ∃ gz, Le g3 gz ∧ St gz [[bx b3 #[.i6 y1.2.Code, .i6 y1.2.Index] 28], [bx b2 #[v1, v2] 25], c1, [bx b1 #[vt_1, vt_2] 25]] fr w ∧ RepSl gz y3 v3 := ⟨_, Le.add _ _, S.freeze 0 rfl, OwnS.freeze (S.front 0 rfl) h3⟩
     obtain ⟨g5, l5, S, h5⟩ : ∃ gz, Le g4 gz ∧ St gz [[bx b3 #[.i6 y1.2.Code, .i6 y1.2.Index] 28], [bx b2 #[v1, v2] 25], [bx b1 #[vt_1, vt_2] 25]] fr w ∧ RepSl gz y1.1.Columns v1 := ⟨_, Le.add _ _, S.freeze 2 rfl, OwnS.freeze (S.front 2 rfl) (h1.mono (l3.trans l4))⟩
     refine wl_call0 (wn rfl) rfl F rfl (tablepatch_Apply_ok (fr := (fl [[bx b3 #[.i6 y1.2.Code, .i6 y1.2.Index] 28], [bx b2 #[v1, v2] 25], [bx b1 #[vt_1, vt_2] 25]] fr)) y3 v3 (h4.mono l5) y1.1 v1 h5 v2 (h2.mono ((l3.trans l4).trans l5)) S hy4) rfl tc17 rfl rfl ?_; clear F a S
     rintro _ a w ⟨g6, v4, v5, c3, l6, S, h6, h7, rfl⟩ F; replace S : St g6 [c3, [bx b3 #[.i6 y1.2.Code, .i6 y1.2.Index] 28], [bx b2 #[v1, v2] 25], [bx b1 #[vt_1, vt_2] 25]] fr w := S
     refine dv_nx trivial ?_
     refine dv_et ok1 4 rfl (ev_move rfl) F rfl fun a F=>?_
     refine dv_et ok1 5 rfl (ev_extract rfl rfl) F rfl fun a F=>?_
     refine dv_et ok1 6 rfl (ev_extract rfl rfl) F rfl fun a F=>?_
     refine dv_fork ok1 7 [8] (fk 7 rfl [] ?_ (fk 8 rfl [] ?_ trivial))
     ·refine wl_alloc (wn rfl) rfl tz25 (cs := [nilS, nilS]) rfl F S rfl rfl ?_; clear F a S; rintro b4 a w F S
      refine dv_nx trivial ?_
      refine dv_op ok1 8 rfl [] ?_
      refine wl_alloc (wn rfl) rfl tz28 (cs := [.i6 0, .i6 0]) rfl F S rfl rfl ?_; clear F a S; rintro b5 a w F S
      refine dv_nx trivial ?_
      refine dv_join (HJ _ _ ?_)
      replace S : St g6 [[bx b5 #[.i6 0, .i6 0] 28], [bx b4 #[nilS, nilS] 25], c3, [bx b1 #[vt_1, vt_2] 25]] fr w := St.tail [[bx b5 #[.i6 0, .i6 0] 28], [bx b4 #[nilS, nilS] 25], c3, [bx b1 #[vt_1, vt_2] 25]] _ ((((S.frontC 5 rfl).frontC 3 rfl).frontC 3 rfl).frontC 3 rfl)
      exact ⟨v4, v5, b5, b4, c3, g6, F.sub ⟨rfl, rfl, rfl, rfl, rfl, trivial⟩, (((l3.trans l4).trans l5).trans l6), S, h6, h7, hm⟩
     ·refine wl_alloc (wn rfl) rfl tz28 (cs := [.i6 0, .i6 0]) rfl F S rfl rfl ?_; clear F a S; rintro b5 a w F S
      refine dv_nx trivial ?_
      refine dv_op ok1 7 rfl [] ?_
      refine wl_alloc (wn rfl) rfl tz25 (cs := [nilS, nilS]) rfl F S rfl rfl ?_; clear F a S; rintro b4 a w F S
      refine dv_nx trivial ?_
      refine dv_join (HJ _ _ ?_)
      replace S : St g6 [[bx b5 #[.i6 0, .i6 0] 28], [bx b4 #[nilS, nilS] 25], c3, [bx b1 #[vt_1, vt_2] 25]] fr w := St.tail [[bx b5 #[.i6 0, .i6 0] 28], [bx b4 #[nilS, nilS] 25], c3, [bx b1 #[vt_1, vt_2] 25]] _ ((((S.frontC 5 rfl).frontC 3 rfl).frontC 2 rfl).frontC 4 rfl)
      exact ⟨v4, v5, b5, b4, c3, g6, F.sub ⟨rfl, rfl, rfl, rfl, rfl, trivial⟩, (((l3.trans l4).trans l5).trans l6), S, h6, h7, hm⟩
    ·refine wl_alloc (wn rfl) rfl tz25 (cs := [nilS, nilS]) rfl F S rfl rfl ?_; clear F a S; rintro b4 a w F S
     refine dv_nx ⟨yl_ev rfl rfl (ev_loadA tu25 rfl (cs := [v1, v2]) ts25 rfl (box_ptr (cells := [v1, v2]) 3 rfl 0 rfl (lb rfl))) F S, trivial⟩ ?_
     refine dv_fork ok1 3 [8] (fk 3 rfl [] ?_ (fk 8 rfl [(2, .agg #[v1, v2])] ?_ trivial))
     ·obtain ⟨g4, l4, S, h4⟩ : ∃ gz, Le g3 gz ∧ St gz [[bx b4 #[nilS, nilS] 25], [bx b3 #[.i6 y1.2.Code, .i6 y1.2.Index] 28], [bx b2 #[v1, v2] 25], c1, [bx b1 #[vt_1, vt_2] 25]] fr w ∧ RepSl gz y3 v3 := ⟨_, Le.add _ _, S.freeze 1 rfl, OwnS.freeze (S.front 1 rfl) h3⟩
      obtain ⟨g5, l5, S, h5⟩ : ∃ gz, Le g4 gz ∧ St gz [[bx b4 #[nilS, nilS] 25], [bx b3 #[.i6 y1.2.Code, .i6 y1.2.Index] 28], [bx b2 #[v1, v2] 25], [bx b1 #[vt_1, vt_2] 25]] fr w ∧ RepSl gz y1.1.Columns v1 := ⟨_, Le.add _ _, S.freeze 3 rfl, OwnS.freeze (S.front 3 rfl) (h1.mono (l3.trans l4))⟩
      refine wl_call0 (wn rfl) rfl F rfl (tablepatch_Apply_ok (fr := (fl [[bx b4 #[nilS, nilS] 25], [bx b3 #[.i6 y1.2.Code, .i6 y1.2.Index] 28], [bx b2 #[v1, v2] 25], [bx b1 #[vt_1, vt_2] 25]] fr)) y3 v3 (h4.mono l5) y1.1 v1 h5 v2 (h2.mono ((l3.trans l4).trans l5)) S hy4) rfl tc17 rfl rfl ?_; clear F a S
      rintro _ a w ⟨g6, v4, v5, c3, l6, S, h6, h7, rfl⟩ F; replace S : St g6 [c3, [bx b4 #[nilS, nilS] 25], [bx b3 #[.i6 y1.2.Code, .i6 y1.2.Index] 28], [bx b2 #[v1, v2] 25], [bx b1 #[vt_1, vt_2] 25]] fr w := S
      refine dv_nx trivial ?_
      refine dv_et ok1 4 rfl (ev_move rfl) F rfl fun a F=>?_
      refine dv_et ok1 5 rfl (ev_extract rfl rfl) F rfl fun a F=>?_
      refine dv_et ok1 6 rfl (ev_extract rfl rfl) F rfl fun a F=>?_
      refine dv_op ok1 8 rfl [] ?_
      refine wl_alloc (wn rfl) rfl tz28 (cs := [.i6 0, .i6 0]) rfl F S rfl rfl ?_; clear F a S; rintro b5 a w F S
      refine dv_nx trivial ?_
      refine dv_join (HJ _ _ ?_)
      replace S : St g6 [[bx b5 #[.i6 0, .i6 0] 28], [bx b4 #[nilS, nilS] 25], c3, [bx b1 #[vt_1, vt_2] 25]] fr w := St.tail [[bx b5 #[.i6 0, .i6 0] 28], [bx b4 #[nilS, nilS] 25], c3, [bx b1 #[vt_1, vt_2] 25]] _ ((((S.frontC 5 rfl).frontC 2 rfl).frontC 4 rfl).frontC 3 rfl)
      exact ⟨v4, v5, b5, b4, c3, g6, F.sub ⟨rfl, rfl, rfl, rfl, rfl, trivial⟩, (((l3.trans l4).trans l5).trans l6), S, h6, h7, hm⟩
     ·refine wl_alloc (wn rfl) rfl tz28 (cs := [.i6 0, .i6 0]) rfl F S rfl rfl ?_; clear F a S; rintro b5 a w F S
      refine dv_nx ⟨yl_ev rfl rfl (ev_loadA tu25 rfl (cs := [v1, v2]) ts25 rfl (box_ptr (cells := [v1, v2]) 4 rfl 0 rfl (lb rfl))) F S, trivial⟩ ?_
      refine dv_op ok1 3 rfl [] ?_
      obtain ⟨g4, l4, S, h4⟩ : ∃ gz, Le g3 gz ∧ St gz [[bx b5 #[.i6 0, .i6 0] 28], [bx b4 #[nilS, nilS] 25], [bx b3 #[.i6 y1.2.Code, .i6 y1.2.Index] 28], [bx b2 #[v1, v2] 25], c1, [bx b1 #[vt_1, vt_2] 25]] fr w ∧ RepSl gz y3 v3 := ⟨_, Le.add _ _, S.freeze 2 rfl, OwnS.freeze (S.front 2 rfl) h3⟩
      obtain ⟨g5, l5, S, h5⟩ : ∃ gz, Le g4 gz ∧ St gz [[bx b5 #[.i6 0, .i6 0] 28], [bx b4 #[nilS, nilS] 25], [bx b3 #[.i6 y1.2.Code, .i6 y1.2.Index] 28], [bx b2 #[v1, v2] 25], [bx b1 #[vt_1, vt_2] 25]] fr w ∧ RepSl gz y1.1.Columns v1 := ⟨_, Le.add _ _, S.freeze 4 rfl, OwnS.freeze (S.front 4 rfl) (h1.mono (l3.trans l4))⟩
      refine wl_call0 (wn rfl) rfl F rfl (tablepatch_Apply_ok (fr := (fl [[bx b5 #[.i6 0, .i6 0] 28], [bx b4 #[nilS, nilS] 25], [bx b3 #[.i6 y1.2.Code, .i6 y1.2.Index] 28], [bx b2 #[v1, v2] 25], [bx b1 #[vt_1, vt_2] 25]] fr)) y3 v3 (h4.mono l5) y1.1 v1 h5 v2 (h2.mono ((l3.trans l4).trans l5)) S hy4) rfl tc17 rfl rfl ?_; clear F a S
      rintro _ a w ⟨g6, v4, v5, c3, l6, S, h6, h7, rfl⟩ F; replace S : St g6 [c3, [bx b5 #[.i6 0, .i6 0] 28], [bx b4 #[nilS, nilS] 25], [bx b3 #[.i6 y1.2.Code, .i6 y1.2.Index] 28], [bx b2 #[v1, v2] 25], [bx b1 #[vt_1, vt_2] 25]] fr w := S
      refine dv_nx trivial ?_
      refine dv_et ok1 4 rfl (ev_move rfl) F rfl fun a F=>?_
      refine dv_et ok1 5 rfl (ev_extract rfl rfl) F rfl fun a F=>?_
      refine dv_et ok1 6 rfl (ev_extract rfl rfl) F rfl fun a F=>?_
      refine dv_join (HJ _ _ ?_)
      replace S : St g6 [[bx b5 #[.i6 0, .i6 0] 28], [bx b4 #[nilS, nilS] 25], c3, [bx b1 #[vt_1, vt_2] 25]] fr w := St.tail [[bx b5 #[.i6 0, .i6 0] 28], [bx b4 #[nilS, nilS] 25], c3, [bx b1 #[vt_1, vt_2] 25]] _ ((((S.frontC 5 rfl).frontC 1 rfl).frontC 4 rfl).frontC 4 rfl)
      exact ⟨v4, v5, b5, b4, c3, g6, F.sub ⟨rfl, rfl, rfl, rfl, rfl, trivial⟩, (((l3.trans l4).trans l5).trans l6), S, h6, h7, hm⟩
    ·refine wl_alloc (wn rfl) rfl tz28 (cs := [.i6 0, .i6 0]) rfl F S rfl rfl ?_; clear F a S; rintro b5 a w F S
     refine dv_nx ⟨yl_ev rfl rfl (ev_loadA tu25 rfl (cs := [v1, v2]) ts25 rfl (box_ptr (cells := [v1, v2]) 3 rfl 0 rfl (lb rfl))) F S, trivial⟩ ?_
     refine dv_fork ok1 3 [7] (fk 3 rfl [] ?_ (fk 7 rfl [(2, .agg #[v1, v2])] ?_ trivial))
     ·obtain ⟨g4, l4, S, h4⟩ : ∃ gz, Le g3 gz ∧ St gz [[bx b5 #[.i6 0, .i6 0] 28], [bx b3 #[.i6 y1.2.Code, .i6 y1.2.Index] 28], [bx b2 #[v1, v2] 25], c1, [bx b1 #[vt_1, vt_2] 25]] fr w ∧ RepSl gz y3 v3 := ⟨_, Le.add _ _, S.freeze 1 rfl, OwnS.freeze (S.front 1 rfl) h3⟩
      obtain ⟨g5, l5, S, h5⟩ : ∃ gz, Le g4 gz ∧ St gz [[bx b5 #[.i6 0, .i6 0] 28], [bx b3 #[.i6 y1.2.Code, .i6 y1.2.Index] 28], [bx b2 #[v1, v2] 25], [bx b1 #[vt_1, vt_2] 25]] fr w ∧ RepSl gz y1.1.Columns v1 := ⟨_, Le.add _ _, S.freeze 3 rfl, OwnS.freeze (S.front 3 rfl) (h1.mono (l3.trans l4))⟩
      refine wl_call0 (wn rfl) rfl F rfl (tablepatch_Apply_ok (fr := (fl [[bx b5 #[.i6 0, .i6 0] 28], [bx b3 #[.i6 y1.2.Code, .i6 y1.2.Index] 28], [bx b2 #[v1, v2] 25], [bx b1 #[vt_1, vt_2] 25]] fr)) y3 v3 (h4.mono l5) y1.1 v1 h5 v2 (h2.mono ((l3.trans l4).trans l5)) S hy4) rfl tc17 rfl rfl ?_; clear F a S
      rintro _ a w ⟨g6, v4, v5, c3, l6, S, h6, h7, rfl⟩ F; replace S : St g6 [c3, [bx b5 #[.i6 0, .i6 0] 28], [bx b3 #[.i6 y1.2.Code, .i6 y1.2.Index] 28], [bx b2 #[v1, v2] 25], [bx b1 #[vt_1, vt_2] 25]] fr w := S
      refine dv_nx trivial ?_
      refine dv_et ok1 4 rfl (ev_move rfl) F rfl fun a F=>?_
      refine dv_et ok1 5 rfl (ev_extract rfl rfl) F rfl fun a F=>?_
      refine dv_et ok1 6 rfl (ev_extract rfl rfl) F rfl fun a F=>?_
      refine dv_op ok1 7 rfl [] ?_
      refine wl_alloc (wn rfl) rfl tz25 (cs := [nilS, nilS]) rfl F S rfl rfl ?_; clear F a S; rintro b4 a w F S
      refine dv_nx trivial ?_
      refine dv_join (HJ _ _ ?_)
      replace S : St g6 [[bx b5 #[.i6 0, .i6 0] 28], [bx b4 #[nilS, nilS] 25], c3, [bx b1 #[vt_1, vt_2] 25]] fr w := St.tail [[bx b5 #[.i6 0, .i6 0] 28], [bx b4 #[nilS, nilS] 25], c3, [bx b1 #[vt_1, vt_2] 25]] _ ((((S.frontC 5 rfl).frontC 2 rfl).frontC 2 rfl).frontC 5 rfl)
      exact ⟨v4, v5, b5, b4, c3, g6, F.sub ⟨rfl, rfl, rfl, rfl, rfl, trivial⟩, (((l3.trans l4).trans l5).trans l6), S, h6, h7, hm⟩
     ·refine wl_alloc (wn rfl) rfl tz25 (cs := [nilS, nilS]) rfl F S rfl rfl ?_; clear F a S; rintro b4 a w F S
      refine dv_nx ⟨yl_ev rfl rfl (ev_loadA tu25 rfl (cs := [v1, v2]) ts25 rfl (box_ptr (cells := [v1, v2]) 4 rfl 0 rfl (lb rfl))) F S, trivial⟩ ?_
      refine dv_op ok1 3 rfl [] ?_
      obtain ⟨g4, l4, S, h4⟩ : ∃ gz, Le g3 gz ∧ St gz [[bx b4 #[nilS, nilS] 25], [bx b5 #[.i6 0, .i6 0] 28], [bx b3 #[.i6 y1.2.Code, .i6 y1.2.Index] 28], [bx b2 #[v1, v2] 25], c1, [bx b1 #[vt_1, vt_2] 25]] fr w ∧ RepSl gz y3 v3 := ⟨_, Le.add _ _, S.freeze 2 rfl, OwnS.freeze (S.front 2 rfl) h3⟩
      obtain ⟨g5, l5, S, h5⟩ : ∃ gz, Le g4 gz ∧ St gz [[bx b4 #[nilS, nilS] 25], [bx b5 #[.i6 0, .i6 0] 28], [bx b3 #[.i6 y1.2.Code, .i6 y1.2.Index] 28], [bx b2 #[v1, v2] 25], [bx b1 #[vt_1, vt_2] 25]] fr w ∧ RepSl gz y1.1.Columns v1 := ⟨_, Le.add _ _, S.freeze 4 rfl, OwnS.freeze (S.front 4 rfl) (h1.mono (l3.trans l4))⟩
      refine wl_call0 (wn rfl) rfl F rfl (tablepatch_Apply_ok (fr := (fl [[bx b4 #[nilS, nilS] 25], [bx b5 #[.i6 0, .i6 0] 28], [bx b3 #[.i6 y1.2.Code, .i6 y1.2.Index] 28], [bx b2 #[v1, v2] 25], [bx b1 #[vt_1, vt_2] 25]] fr)) y3 v3 (h4.mono l5) y1.1 v1 h5 v2 (h2.mono ((l3.trans l4).trans l5)) S hy4) rfl tc17 rfl rfl ?_; clear F a S
      rintro _ a w ⟨g6, v4, v5, c3, l6, S, h6, h7, rfl⟩ F; replace S : St g6 [c3, [bx b4 #[nilS, nilS] 25], [bx b5 #[.i6 0, .i6 0] 28], [bx b3 #[.i6 y1.2.Code, .i6 y1.2.Index] 28], [bx b2 #[v1, v2] 25], [bx b1 #[vt_1, vt_2] 25]] fr w := S
      refine dv_nx trivial ?_
      refine dv_et ok1 4 rfl (ev_move rfl) F rfl fun a F=>?_
      refine dv_et ok1 5 rfl (ev_extract rfl rfl) F rfl fun a F=>?_
      refine dv_et ok1 6 rfl (ev_extract rfl rfl) F rfl fun a F=>?_
      refine dv_join (HJ _ _ ?_)
      replace S : St g6 [[bx b5 #[.i6 0, .i6 0] 28], [bx b4 #[nilS, nilS] 25], c3, [bx b1 #[vt_1, vt_2] 25]] fr w := St.tail [[bx b5 #[.i6 0, .i6 0] 28], [bx b4 #[nilS, nilS] 25], c3, [bx b1 #[vt_1, vt_2] 25]] _ ((((S.frontC 5 rfl).frontC 1 rfl).frontC 3 rfl).frontC 5 rfl)
      exact ⟨v4, v5, b5, b4, c3, g6, F.sub ⟨rfl, rfl, rfl, rfl, rfl, trivial⟩, (((l3.trans l4).trans l5).trans l6), S, h6, h7, hm⟩
   ·refine wl_alloc (wn rfl) rfl tz25 (cs := [nilS, nilS]) rfl F S rfl rfl ?_; clear F a S; rintro b4 a w F S
    refine dv_nx ⟨yl_ev rfl rfl (ev_loadA tu25 rfl (cs := [v1, v2]) ts25 rfl (box_ptr (cells := [v1, v2]) 2 rfl 0 rfl (lb rfl))) F S, trivial⟩ ?_
    refine dv_fork ok1 1 [8] (fk 1 rfl [(2, .agg #[v1, v2])] ?_ (fk 8 rfl [(2, .agg #[v1, v2])] ?_ trivial))
    ·refine wl_call0 (wn rfl) rfl F rfl (changeforgelaw2_undone_ok (fr := (fl [[bx b4 #[nilS, nilS] 25], [bx b3 #[.i6 y1.2.Code, .i6 y1.2.Index] 28], [bx b2 #[v1, v2] 25], c1, [bx b1 #[vt_1, vt_2] 25]] fr)) l_ vl_1 (hl_1.mono l1) S hy3) rfl tc18 rfl rfl ?_; clear F a S
     rintro _ a w ⟨g3, v3, c2, l3, S, h3, rfl⟩ F; replace S : St g3 [c2, [bx b4 #[nilS, nilS] 25], [bx b3 #[.i6 y1.2.Code, .i6 y1.2.Index] 28], [bx b2 #[v1, v2] 25], c1, [bx b1 #[vt_1, vt_2] 25]] fr w := S
     refine dv_nx ⟨yl_ev rfl rfl (ev_loadA tu25 rfl (cs := [v1, v2]) ts25 rfl (box_ptr (cells := [v1, v2]) 3 rfl 0 rfl (lb rfl))) F S, trivial⟩ ?_
     refine dv_fork ok1 3 [8] (fk 3 rfl [] ?_ (fk 8 rfl [(2, .agg #[v1, v2])] ?_ trivial))
     ·obtain ⟨g4, l4, S, h4⟩ : ∃ gz, Le g3 gz ∧ St gz [[bx b4 #[nilS, nilS] 25], [bx b3 #[.i6 y1.2.Code, .i6 y1.2.Index] 28], [bx b2 #[v1, v2] 25], c1, [bx b1 #[vt_1, vt_2] 25]] fr w ∧ RepSl gz y3 v3 := ⟨_, Le.add _ _, S.freeze 0 rfl, OwnS.freeze (S.front 0 rfl) h3⟩
      obtain ⟨g5, l5, S, h5⟩ : ∃ gz, Le g4 gz ∧ St gz [[bx b4 #[nilS, nilS] 25], [bx b3 #[.i6 y1.2.Code, .i6 y1.2.Index] 28], [bx b2 #[v1, v2] 25], [bx b1 #[vt_1, vt_2] 25]] fr w ∧ RepSl gz y1.1.Columns v1 := ⟨_, Le.add _ _, S.freeze 3 rfl, OwnS.freeze (S.front 3 rfl) (h1.mono (l3.trans l4))⟩
      refine wl_call0 (wn rfl) rfl F rfl (tablepatch_Apply_ok (fr := (fl [[bx b4 #[nilS, nilS] 25], [bx b3 #[.i6 y1.2.Code, .i6 y1.2.Index] 28], [bx b2 #[v1, v2] 25], [bx b1 #[vt_1, vt_2] 25]] fr)) y3 v3 (h4.mono l5) y1.1 v1 h5 v2 (h2.mono ((l3.trans l4).trans l5)) S hy4) rfl tc17 rfl rfl ?_; clear F a S
      rintro _ a w ⟨g6, v4, v5, c3, l6, S, h6, h7, rfl⟩ F; replace S : St g6 [c3, [bx b4 #[nilS, nilS] 25], [bx b3 #[.i6 y1.2.Code, .i6 y1.2.Index] 28], [bx b2 #[v1, v2] 25], [bx b1 #[vt_1, vt_2] 25]] fr w := S
      refine dv_nx trivial ?_
      refine dv_et ok1 4 rfl (ev_move rfl) F rfl fun a F=>?_
      refine dv_et ok1 5 rfl (ev_extract rfl rfl) F rfl fun a F=>?_
      refine dv_et ok1 6 rfl (ev_extract rfl rfl) F rfl fun a F=>?_
      refine dv_op ok1 8 rfl [] ?_
      refine wl_alloc (wn rfl) rfl tz28 (cs := [.i6 0, .i6 0]) rfl F S rfl rfl ?_; clear F a S; rintro b5 a w F S
      refine dv_nx trivial ?_
      refine dv_join (HJ _ _ ?_)
      replace S : St g6 [[bx b5 #[.i6 0, .i6 0] 28], [bx b4 #[nilS, nilS] 25], c3, [bx b1 #[vt_1, vt_2] 25]] fr w := St.tail [[bx b5 #[.i6 0, .i6 0] 28], [bx b4 #[nilS, nilS] 25], c3, [bx b1 #[vt_1, vt_2] 25]] _ ((((S.frontC 5 rfl).frontC 2 rfl).frontC 4 rfl).frontC 3 rfl)
      exact ⟨v4, v5, b5, b4, c3, g6, F.sub ⟨rfl, rfl, rfl, rfl, rfl, trivial⟩, (((l3.trans l4).trans l5).trans l6), S, h6, h7, hm⟩
     ·refine wl_alloc (wn rfl) rfl tz28 (cs := [.i6 0, .i6 0]) rfl F S rfl rfl ?_; clear F a S; rintro b5 a w F S
      refine dv_nx ⟨yl_ev rfl rfl (ev_loadA tu25 rfl (cs := [v1, v2]) ts25 rfl (box_ptr (cells := [v1, v2]) 4 rfl 0 rfl (lb rfl))) F S, trivial⟩ ?_
      refine dv_op ok1 3 rfl [] ?_
      obtain ⟨g4, l4, S, h4⟩ : ∃ gz, Le g3 gz ∧ St gz [[bx b5 #[.i6 0, .i6 0] 28], [bx b4 #[nilS, nilS] 25], [bx b3 #[.i6 y1.2.Code, .i6 y1.2.Index] 28], [bx b2 #[v1, v2] 25], c1, [bx b1 #[vt_1, vt_2] 25]] fr w ∧ RepSl gz y3 v3 := ⟨_, Le.add _ _, S.freeze 1 rfl, OwnS.freeze (S.front 1 rfl) h3⟩
      obtain ⟨g5, l5, S, h5⟩ : ∃ gz, Le g4 gz ∧ St gz [[bx b5 #[.i6 0, .i6 0] 28], [bx b4 #[nilS, nilS] 25], [bx b3 #[.i6 y1.2.Code, .i6 y1.2.Index] 28], [bx b2 #[v1, v2] 25], [bx b1 #[vt_1, vt_2] 25]] fr w ∧ RepSl gz y1.1.Columns v1 := ⟨_, Le.add _ _, S.freeze 4 rfl, OwnS.freeze (S.front 4 rfl) (h1.mono (l3.trans l4))⟩
      refine wl_call0 (wn rfl) rfl F rfl (tablepatch_Apply_ok (fr := (fl [[bx b5 #[.i6 0, .i6 0] 28], [bx b4 #[nilS, nilS] 25], [bx b3 #[.i6 y1.2.Code, .i6 y1.2.Index] 28], [bx b2 #[v1, v2] 25], [bx b1 #[vt_1, vt_2] 25]] fr)) y3 v3 (h4.mono l5) y1.1 v1 h5 v2 (h2.mono ((l3.trans l4).trans l5)) S hy4) rfl tc17 rfl rfl ?_; clear F a S
      rintro _ a w ⟨g6, v4, v5, c3, l6, S, h6, h7, rfl⟩ F; replace S : St g6 [c3, [bx b5 #[.i6 0, .i6 0] 28], [bx b4 #[nilS, nilS] 25], [bx b3 #[.i6 y1.2.Code, .i6 y1.2.Index] 28], [bx b2 #[v1, v2] 25], [bx b1 #[vt_1, vt_2] 25]] fr w := S
      refine dv_nx trivial ?_
      refine dv_et ok1 4 rfl (ev_move rfl) F rfl fun a F=>?_
      refine dv_et ok1 5 rfl (ev_extract rfl rfl) F rfl fun a F=>?_
      refine dv_et ok1 6 rfl (ev_extract rfl rfl) F rfl fun a F=>?_
      refine dv_join (HJ _ _ ?_)
      replace S : St g6 [[bx b5 #[.i6 0, .i6 0] 28], [bx b4 #[nilS, nilS] 25], c3, [bx b1 #[vt_1, vt_2] 25]] fr w := St.tail [[bx b5 #[.i6 0, .i6 0] 28], [bx b4 #[nilS, nilS] 25], c3, [bx b1 #[vt_1, vt_2] 25]] _ ((((S.frontC 5 rfl).frontC 1 rfl).frontC 4 rfl).frontC 4 rfl)
      exact ⟨v4, v5, b5, b4, c3, g6, F.sub ⟨rfl, rfl, rfl, rfl, rfl, trivial⟩, (((l3.trans l4).trans l5).trans l6), S, h6, h7, hm⟩
    ·refine wl_alloc (wn rfl) rfl tz28 (cs := [.i6 0, .i6 0]) rfl F S rfl rfl ?_; clear F a S; rintro b5 a w F S
     refine dv_nx ⟨yl_ev rfl rfl (ev_loadA tu25 rfl (cs := [v1, v2]) ts25 rfl (box_ptr (cells := [v1, v2]) 3 rfl 0 rfl (lb rfl))) F S, trivial⟩ ?_
     refine dv_op ok1 1 rfl [(2, .agg #[v1, v2])] ?_
     refine wl_call0 (wn rfl) rfl F rfl (changeforgelaw2_undone_ok (fr := (fl [[bx b5 #[.i6 0, .i6 0] 28], [bx b4 #[nilS, nilS] 25], [bx b3 #[.i6 y1.2.Code, .i6 y1.2.Index] 28], [bx b2 #[v1, v2] 25], c1, [bx b1 #[vt_1, vt_2] 25]] fr)) l_ vl_1 (hl_1.mono l1) S hy3) rfl tc18 rfl rfl ?_; clear F a S
     rintro _ a w ⟨g3, v3, c2, l3, S, h3, rfl⟩ F; replace S : St g3 [c2, [bx b5 #[.i6 0, .i6 0] 28], [bx b4 #[nilS, nilS] 25], [bx b3 #[.i6 y1.2.Code, .i6 y1.2.Index] 28], [bx b2 #[v1, v2] 25], c1, [bx b1 #[vt_1, vt_2] 25]] fr w := S
     refine dv_nx ⟨yl_ev rfl rfl (ev_loadA tu25 rfl (cs := [v1, v2]) ts25 rfl (box_ptr (cells := [v1, v2]) 4 rfl 0 rfl (lb rfl))) F S, trivial⟩ ?_
     refine dv_op ok1 3 rfl [] ?_
     obtain ⟨g4, l4, S, h4⟩ : ∃ gz, Le g3 gz ∧ St gz [[bx b5 #[.i6 0, .i6 0] 28], [bx b4 #[nilS, nilS] 25], [bx b3 #[.i6 y1.2.Code, .i6 y1.2.Index] 28], [bx b2 #[v1, v2] 25], c1, [bx b1 #[vt_1, vt_2] 25]] fr w ∧ RepSl gz y3 v3 := ⟨_, Le.add _ _, S.freeze 0 rfl, OwnS.freeze (S.front 0 rfl) h3⟩
     obtain ⟨g5, l5, S, h5⟩ : ∃ gz, Le g4 gz ∧ St gz [[bx b5 #[.i6 0, .i6 0] 28], [bx b4 #[nilS, nilS] 25], [bx b3 #[.i6 y1.2.Code, .i6 y1.2.Index] 28], [bx b2 #[v1, v2] 25], [bx b1 #[vt_1, vt_2] 25]] fr w ∧ RepSl gz y1.1.Columns v1 := ⟨_, Le.add _ _, S.freeze 4 rfl, OwnS.freeze (S.front 4 rfl) (h1.mono (l3.trans l4))⟩
     refine wl_call0 (wn rfl) rfl F rfl (tablepatch_Apply_ok (fr := (fl [[bx b5 #[.i6 0, .i6 0] 28], [bx b4 #[nilS, nilS] 25], [bx b3 #[.i6 y1.2.Code, .i6 y1.2.Index] 28], [bx b2 #[v1, v2] 25], [bx b1 #[vt_1, vt_2] 25]] fr)) y3 v3 (h4.mono l5) y1.1 v1 h5 v2 (h2.mono ((l3.trans l4).trans l5)) S hy4) rfl tc17 rfl rfl ?_; clear F a S
     rintro _ a w ⟨g6, v4, v5, c3, l6, S, h6, h7, rfl⟩ F; replace S : St g6 [c3, [bx b5 #[.i6 0, .i6 0] 28], [bx b4 #[nilS, nilS] 25], [bx b3 #[.i6 y1.2.Code, .i6 y1.2.Index] 28], [bx b2 #[v1, v2] 25], [bx b1 #[vt_1, vt_2] 25]] fr w := S
     refine dv_nx trivial ?_
     refine dv_et ok1 4 rfl (ev_move rfl) F rfl fun a F=>?_
     refine dv_et ok1 5 rfl (ev_extract rfl rfl) F rfl fun a F=>?_
     refine dv_et ok1 6 rfl (ev_extract rfl rfl) F rfl fun a F=>?_
     refine dv_join (HJ _ _ ?_)
     replace S : St g6 [[bx b5 #[.i6 0, .i6 0] 28], [bx b4 #[nilS, nilS] 25], c3, [bx b1 #[vt_1, vt_2] 25]] fr w := St.tail [[bx b5 #[.i6 0, .i6 0] 28], [bx b4 #[nilS, nilS] 25], c3, [bx b1 #[vt_1, vt_2] 25]] _ ((((S.frontC 5 rfl).frontC 1 rfl).frontC 4 rfl).frontC 4 rfl)
     exact ⟨v4, v5, b5, b4, c3, g6, F.sub ⟨rfl, rfl, rfl, rfl, rfl, trivial⟩, (((l3.trans l4).trans l5).trans l6), S, h6, h7, hm⟩
   ·refine wl_alloc (wn rfl) rfl tz28 (cs := [.i6 0, .i6 0]) rfl F S rfl rfl ?_; clear F a S; rintro b5 a w F S
    refine dv_nx ⟨yl_ev rfl rfl (ev_loadA tu25 rfl (cs := [v1, v2]) ts25 rfl (box_ptr (cells := [v1, v2]) 2 rfl 0 rfl (lb rfl))) F S, trivial⟩ ?_
    refine dv_fork ok1 1 [7] (fk 1 rfl [(2, .agg #[v1, v2])] ?_ (fk 7 rfl [(2, .agg #[v1, v2])] ?_ trivial))
    ·refine wl_call0 (wn rfl) rfl F rfl (changeforgelaw2_undone_ok (fr := (fl [[bx b5 #[.i6 0, .i6 0] 28], [bx b3 #[.i6 y1.2.Code, .i6 y1.2.Index] 28], [bx b2 #[v1, v2] 25], c1, [bx b1 #[vt_1, vt_2] 25]] fr)) l_ vl_1 (hl_1.mono l1) S hy3) rfl tc18 rfl rfl ?_; clear F a S
     rintro _ a w ⟨g3, v3, c2, l3, S, h3, rfl⟩ F; replace S : St g3 [c2, [bx b5 #[.i6 0, .i6 0] 28], [bx b3 #[.i6 y1.2.Code, .i6 y1.2.Index] 28], [bx b2 #[v1, v2] 25], c1, [bx b1 #[vt_1, vt_2] 25]] fr w := S
     refine dv_nx ⟨yl_ev rfl rfl (ev_loadA tu25 rfl (cs := [v1, v2]) ts25 rfl (box_ptr (cells := [v1, v2]) 3 rfl 0 rfl (lb rfl))) F S, trivial⟩ ?_
     refine dv_fork ok1 3 [7] (fk 3 rfl [] ?_ (fk 7 rfl [(2, .agg #[v1, v2])] ?_ trivial))
     ·obtain ⟨g4, l4, S, h4⟩ : ∃ gz, Le g3 gz ∧ St gz [[bx b5 #[.i6 0, .i6 0] 28], [bx b3 #[.i6 y1.2.Code, .i6 y1.2.Index] 28], [bx b2 #[v1, v2] 25], c1, [bx b1 #[vt_1, vt_2] 25]] fr w ∧ RepSl gz y3 v3 := ⟨_, Le.add _ _, S.freeze 0 rfl, OwnS.freeze (S.front 0 rfl) h3⟩
      obtain ⟨g5, l5, S, h5⟩ : ∃ gz, Le g4 gz ∧ St gz [[bx b5 #[.i6 0, .i6 0] 28], [bx b3 #[.i6 y1.2.Code, .i6 y1.2.Index] 28], [bx b2 #[v1, v2] 25], [bx b1 #[vt_1, vt_2] 25]] fr w ∧ RepSl gz y1.1.Columns v1 := ⟨_, Le.add _ _, S.freeze 3 rfl, OwnS.freeze (S.front 3 rfl) (h1.mono (l3.trans l4))⟩
      refine wl_call0 (wn rfl) rfl F rfl (tablepatch_Apply_ok (fr := (fl [[bx b5 #[.i6 0, .i6 0] 28], [bx b3 #[.i6 y1.2.Code, .i6 y1.2.Index] 28], [bx b2 #[v1, v2] 25], [bx b1 #[vt_1, vt_2] 25]] fr)) y3 v3 (h4.mono l5) y1.1 v1 h5 v2 (h2.mono ((l3.trans l4).trans l5)) S hy4) rfl tc17 rfl rfl ?_; clear F a S
      rintro _ a w ⟨g6, v4, v5, c3, l6, S, h6, h7, rfl⟩ F; replace S : St g6 [c3, [bx b5 #[.i6 0, .i6 0] 28], [bx b3 #[.i6 y1.2.Code, .i6 y1.2.Index] 28], [bx b2 #[v1, v2] 25], [bx b1 #[vt_1, vt_2] 25]] fr w := S
      refine dv_nx trivial ?_
      refine dv_et ok1 4 rfl (ev_move rfl) F rfl fun a F=>?_
      refine dv_et ok1 5 rfl (ev_extract rfl rfl) F rfl fun a F=>?_
      refine dv_et ok1 6 rfl (ev_extract rfl rfl) F rfl fun a F=>?_
      refine dv_op ok1 7 rfl [] ?_
      refine wl_alloc (wn rfl) rfl tz25 (cs := [nilS, nilS]) rfl F S rfl rfl ?_; clear F a S; rintro b4 a w F S
      refine dv_nx trivial ?_
      refine dv_join (HJ _ _ ?_)
      replace S : St g6 [[bx b5 #[.i6 0, .i6 0] 28], [bx b4 #[nilS, nilS] 25], c3, [bx b1 #[vt_1, vt_2] 25]] fr w := St.tail [[bx b5 #[.i6 0, .i6 0] 28], [bx b4 #[nilS, nilS] 25], c3, [bx b1 #[vt_1, vt_2] 25]] _ ((((S.frontC 5 rfl).frontC 2 rfl).frontC 2 rfl).frontC 5 rfl)
      exact ⟨v4, v5, b5, b4, c3, g6, F.sub ⟨rfl, rfl, rfl, rfl, rfl, trivial⟩, (((l3.trans l4).trans l5).trans l6), S, h6, h7, hm⟩
     ·refine wl_alloc (wn rfl) rfl tz25 (cs := [nilS, nilS]) rfl F S rfl rfl ?_; clear F a S; rintro b4 a w F S
      refine dv_nx ⟨yl_ev rfl rfl (ev_loadA tu25 rfl (cs := [v1, v2]) ts25 rfl (box_ptr (cells := [v1, v2]) 4 rfl 0 rfl (lb rfl))) F S, trivial⟩ ?_
      refine dv_op ok1 3 rfl [] ?_
      obtain ⟨g4, l4, S, h4⟩ : ∃ gz, Le g3 gz ∧ St gz [[bx b4 #[nilS, nilS] 25], [bx b5 #[.i6 0, .i6 0] 28], [bx b3 #[.i6 y1.2.Code, .i6 y1.2.Index] 28], [bx b2 #[v1, v2] 25], c1, [bx b1 #[vt_1, vt_2] 25]] fr w ∧ RepSl gz y3 v3 := ⟨_, Le.add _ _, S.freeze 1 rfl, OwnS.freeze (S.front 1 rfl) h3⟩
      obtain ⟨g5, l5, S, h5⟩ : ∃ gz, Le g4 gz ∧ St gz [[bx b4 #[nilS, nilS] 25], [bx b5 #[.i6 0, .i6 0] 28], [bx b3 #[.i6 y1.2.Code, .i6 y1.2.Index] 28], [bx b2 #[v1, v2] 25], [bx b1 #[vt_1, vt_2] 25]] fr w ∧ RepSl gz y1.1.Columns v1 := ⟨_, Le.add _ _, S.freeze 4 rfl, OwnS.freeze (S.front 4 rfl) (h1.mono (l3.trans l4))⟩
      refine wl_call0 (wn rfl) rfl F rfl (tablepatch_Apply_ok (fr := (fl [[bx b4 #[nilS, nilS] 25], [bx b5 #[.i6 0, .i6 0] 28], [bx b3 #[.i6 y1.2.Code, .i6 y1.2.Index] 28], [bx b2 #[v1, v2] 25], [bx b1 #[vt_1, vt_2] 25]] fr)) y3 v3 (h4.mono l5) y1.1 v1 h5 v2 (h2.mono ((l3.trans l4).trans l5)) S hy4) rfl tc17 rfl rfl ?_; clear F a S
      rintro _ a w ⟨g6, v4, v5, c3, l6, S, h6, h7, rfl⟩ F; replace S : St g6 [c3, [bx b4 #[nilS, nilS] 25], [bx b5 #[.i6 0, .i6 0] 28], [bx b3 #[.i6 y1.2.Code, .i6 y1.2.Index] 28], [bx b2 #[v1, v2] 25], [bx b1 #[vt_1, vt_2] 25]] fr w := S
      refine dv_nx trivial ?_
      refine dv_et ok1 4 rfl (ev_move rfl) F rfl fun a F=>?_
      refine dv_et ok1 5 rfl (ev_extract rfl rfl) F rfl fun a F=>?_
      refine dv_et ok1 6 rfl (ev_extract rfl rfl) F rfl fun a F=>?_
      refine dv_join (HJ _ _ ?_)
      replace S : St g6 [[bx b5 #[.i6 0, .i6 0] 28], [bx b4 #[nilS, nilS] 25], c3, [bx b1 #[vt_1, vt_2] 25]] fr w := St.tail [[bx b5 #[.i6 0, .i6 0] 28], [bx b4 #[nilS, nilS] 25], c3, [bx b1 #[vt_1, vt_2] 25]] _ ((((S.frontC 5 rfl).frontC 1 rfl).frontC 3 rfl).frontC 5 rfl)
      exact ⟨v4, v5, b5, b4, c3, g6, F.sub ⟨rfl, rfl, rfl, rfl, rfl, trivial⟩, (((l3.trans l4).trans l5).trans l6), S, h6, h7, hm⟩
    ·refine wl_alloc (wn rfl) rfl tz25 (cs := [nilS, nilS]) rfl F S rfl rfl ?_; clear F a S; rintro b4 a w F S
     refine dv_nx ⟨yl_ev rfl rfl (ev_loadA tu25 rfl (cs := [v1, v2]) ts25 rfl (box_ptr (cells := [v1, v2]) 3 rfl 0 rfl (lb rfl))) F S, trivial⟩ ?_
     refine dv_op ok1 1 rfl [(2, .agg #[v1, v2])] ?_
     refine wl_call0 (wn rfl) rfl F rfl (changeforgelaw2_undone_ok (fr := (fl [[bx b4 #[nilS, nilS] 25], [bx b5 #[.i6 0, .i6 0] 28], [bx b3 #[.i6 y1.2.Code, .i6 y1.2.Index] 28], [bx b2 #[v1, v2] 25], c1, [bx b1 #[vt_1, vt_2] 25]] fr)) l_ vl_1 (hl_1.mono l1) S hy3) rfl tc18 rfl rfl ?_; clear F a S
     rintro _ a w ⟨g3, v3, c2, l3, S, h3, rfl⟩ F; replace S : St g3 [c2, [bx b4 #[nilS, nilS] 25], [bx b5 #[.i6 0, .i6 0] 28], [bx b3 #[.i6 y1.2.Code, .i6 y1.2.Index] 28], [bx b2 #[v1, v2] 25], c1, [bx b1 #[vt_1, vt_2] 25]] fr w := S
     refine dv_nx ⟨yl_ev rfl rfl (ev_loadA tu25 rfl (cs := [v1, v2]) ts25 rfl (box_ptr (cells := [v1, v2]) 4 rfl 0 rfl (lb rfl))) F S, trivial⟩ ?_
     refine dv_op ok1 3 rfl [] ?_
     obtain ⟨g4, l4, S, h4⟩ : ∃ gz, Le g3 gz ∧ St gz [[bx b4 #[nilS, nilS] 25], [bx b5 #[.i6 0, .i6 0] 28], [bx b3 #[.i6 y1.2.Code, .i6 y1.2.Index] 28], [bx b2 #[v1, v2] 25], c1, [bx b1 #[vt_1, vt_2] 25]] fr w ∧ RepSl gz y3 v3 := ⟨_, Le.add _ _, S.freeze 0 rfl, OwnS.freeze (S.front 0 rfl) h3⟩
     obtain ⟨g5, l5, S, h5⟩ : ∃ gz, Le g4 gz ∧ St gz [[bx b4 #[nilS, nilS] 25], [bx b5 #[.i6 0, .i6 0] 28], [bx b3 #[.i6 y1.2.Code, .i6 y1.2.Index] 28], [bx b2 #[v1, v2] 25], [bx b1 #[vt_1, vt_2] 25]] fr w ∧ RepSl gz y1.1.Columns v1 := ⟨_, Le.add _ _, S.freeze 4 rfl, OwnS.freeze (S.front 4 rfl) (h1.mono (l3.trans l4))⟩
     refine wl_call0 (wn rfl) rfl F rfl (tablepatch_Apply_ok (fr := (fl [[bx b4 #[nilS, nilS] 25], [bx b5 #[.i6 0, .i6 0] 28], [bx b3 #[.i6 y1.2.Code, .i6 y1.2.Index] 28], [bx b2 #[v1, v2] 25], [bx b1 #[vt_1, vt_2] 25]] fr)) y3 v3 (h4.mono l5) y1.1 v1 h5 v2 (h2.mono ((l3.trans l4).trans l5)) S hy4) rfl tc17 rfl rfl ?_; clear F a S
     rintro _ a w ⟨g6, v4, v5, c3, l6, S, h6, h7, rfl⟩ F; replace S : St g6 [c3, [bx b4 #[nilS, nilS] 25], [bx b5 #[.i6 0, .i6 0] 28], [bx b3 #[.i6 y1.2.Code, .i6 y1.2.Index] 28], [bx b2 #[v1, v2] 25], [bx b1 #[vt_1, vt_2] 25]] fr w := S
     refine dv_nx trivial ?_
     refine dv_et ok1 4 rfl (ev_move rfl) F rfl fun a F=>?_
     refine dv_et ok1 5 rfl (ev_extract rfl rfl) F rfl fun a F=>?_
     refine dv_et ok1 6 rfl (ev_extract rfl rfl) F rfl fun a F=>?_
     refine dv_join (HJ _ _ ?_)
     replace S : St g6 [[bx b5 #[.i6 0, .i6 0] 28], [bx b4 #[nilS, nilS] 25], c3, [bx b1 #[vt_1, vt_2] 25]] fr w := St.tail [[bx b5 #[.i6 0, .i6 0] 28], [bx b4 #[nilS, nilS] 25], c3, [bx b1 #[vt_1, vt_2] 25]] _ ((((S.frontC 5 rfl).frontC 1 rfl).frontC 3 rfl).frontC 5 rfl)
     exact ⟨v4, v5, b5, b4, c3, g6, F.sub ⟨rfl, rfl, rfl, rfl, rfl, trivial⟩, (((l3.trans l4).trans l5).trans l6), S, h6, h7, hm⟩
  ·clear F S hm; rintro a w ⟨v6, v7, b6, b7, c4, g7, F, l7, S, h8, h9, hm⟩
   refine dv_op ok1 9 rfl [] ?_
   refine wl_storeC (wn rfl) rfl F S rfl rfl (vs := [v6, v7]) rfl ts25 (one_cons (OwnS.one h8) (one_cons h9.one one_nil)) (k := 1) rfl (lb rfl) (c' := #[v6, v7]) rfl rfl ?_; clear S; intro w S
   refine dv_nx trivial ?_
   refine dv_op ok1 10 rfl [] ?_
   refine wl_storeC (wn rfl) rfl F S rfl rfl (vs := [.i6 y4.2.Code, .i6 y4.2.Index]) rfl ts28 (one_cons rfl (one_cons rfl one_nil)) (k := 0) rfl (lb rfl) (c' := #[.i6 y4.2.Code, .i6 y4.2.Index]) rfl rfl ?_; clear S; intro w S
   refine dv_nx trivial ?_
   refine dv_fin ok1 ?_
   refine then_n ?_
   refine wp_seq ?_
   refine wp_region_lit ?_
   refine wE (ev_fieldAddr' tu28 tf28_0 (z := 0) ts3 rfl ⟨_, rfl⟩ rfl) F S rfl fun a F=>?_
   refine wE (ev_load1 tu3 rfl rfl (box_ptr (cells := [.i6 y4.2.Code]) 0 rfl 0 rfl (lb rfl))) F S rfl fun a F=>?_
   refine wE (ev_int rfl rfl (bo_eql _ _ _ _)) F S rfl fun a F=>?_
   refine wE (ev_move rfl) F S rfl fun a F=>?_
   obtain ⟨g8, l8, S, h10⟩ : ∃ gz, Le g7 gz ∧ St gz [[bx b6 #[.i6 y4.2.Code, .i6 y4.2.Index] 28], [bx b7 #[v6, v7] 25], [bx b1 #[vt_1, vt_2] 25]] fr w ∧ RepSl gz y4.1.Columns v6 := ⟨_, Le.add _ _, S.freeze 2 rfl, OwnS.freeze (S.front 2 rfl) h8⟩
   obtain ⟨x3, hx1, hm⟩ := bind_some hm
   refine wl_cut 4 (fun a w => ∃ g9, Fr 37 a [(33, .bool x3)] ∧ Le g8 g9 ∧ St g9 [[bx b6 #[.i6 y4.2.Code, .i6 y4.2.Index] 28], [bx b7 #[v6, v7] 25], [bx b1 #[vt_1, vt_2] 25]] fr w) ?_ ?_
   ·clear hm; obtain ⟨hc2, hm⟩ | ⟨hc2, hm⟩ := ite_or hx1
    ·refine wl_ev (wg F rfl rfl rfl rfl hc2) (ev_loadA tu25 rfl (cs := [v6, v7]) ts25 rfl (box_ptr (cells := [v6, v7]) 1 rfl 0 rfl (lb rfl))) F S rfl rfl ?_; clear F a; intro a F
     refine wl_ev (wg F rfl rfl rfl rfl hc2) (ev_loadA tu25 rfl (cs := [vt_1, vt_2]) ts25 rfl (box_ptr (cells := [vt_1, vt_2]) 2 rfl 0 rfl (lb rfl))) F S rfl rfl ?_; clear F a; intro a F
     obtain ⟨y5, hy5, hm⟩ := bind_some hm
     refine wl_call0 (wg F rfl rfl rfl rfl hc2) rfl F rfl (changeforgeequal_Table_ok (fr := (fl [[bx b6 #[.i6 y4.2.Code, .i6 y4.2.Index] 28], [bx b7 #[v6, v7] 25], [bx b1 #[vt_1, vt_2] 25]] fr)) y4.1 v6 h10 v7 (h9.mono l8) t_ vt_1 (ht_1.mono ((l1.trans l7).trans l8)) vt_2 (ht_2.mono ((l1.trans l7).trans l8)) S hy5) rfl tc12 rfl rfl ?_; clear F a S
     rintro _ a w ⟨g10, l10, S, rfl⟩ F; replace S : St g10 [[bx b6 #[.i6 y4.2.Code, .i6 y4.2.Index] 28], [bx b7 #[v6, v7] 25], [bx b1 #[vt_1, vt_2] 25]] fr w := S
     refine wE (ev_pickT rfl hc2 rfl) F S rfl fun a F=>?_
     obtain rfl := sinj hm
     refine wpList_nil (then_n ?_); exact ⟨g10, F.sub ⟨rfl, trivial⟩, l10, S⟩
    ·refine wl_skip rfl rfl rfl rfl (ne_tf hc2) F rfl rfl ?_; clear F a; intro a F
     refine wl_skip rfl rfl rfl rfl (ne_tf hc2) F rfl rfl ?_; clear F a; intro a F
     refine wl_skip rfl rfl rfl rfl (ne_tf hc2) F rfl rfl ?_; clear F a; intro a F
     refine wE (ev_pickF rfl hc2 rfl) F S rfl fun a F=>?_
     obtain rfl := sinj hm
     refine wpList_nil (then_n ?_); exact ⟨g8, F.sub ⟨rfl, trivial⟩, (Le.refl _), S⟩
   clear F S; rintro a w ⟨g9, F, l9, S⟩
   refine wE (ev_move rfl) F S rfl fun a F=>?_
   obtain ⟨x4, hx2, hm⟩ := bind_some hm
   refine wl_cut 2 (fun a w => ∃ g11, Fr 37 a [(36, .bool x4)] ∧ Le g9 g11 ∧ St g11 [[bx b6 #[.i6 y4.2.Code, .i6 y4.2.Index] 28], [bx b7 #[v6, v7] 25], [bx b1 #[vt_1, vt_2] 25]] fr w) ?_ ?_
   ·clear hm; obtain ⟨hc3, hm⟩ | ⟨hc3, hm⟩ := ite_or hx2
    ·obtain ⟨y6, hy6, hm⟩ := bind_some hm
     refine wl_call0 (wg F rfl rfl rfl rfl hc3) rfl F rfl (changeforgelaw2_both_ok (fr := (fl [[bx b6 #[.i6 y4.2.Code, .i6 y4.2.Index] 28], [bx b7 #[v6, v7] 25], [bx b1 #[vt_1, vt_2] 25]] fr))  S hy6) rfl tc14 rfl rfl ?_; clear F a S
     rintro _ a w ⟨g12, l12, S, rfl⟩ F; replace S : St g12 [[bx b6 #[.i6 y4.2.Code, .i6 y4.2.Index] 28], [bx b7 #[v6, v7] 25], [bx b1 #[vt_1, vt_2] 25]] fr w := S
     refine wE (ev_pickT rfl hc3 rfl) F S rfl fun a F=>?_
     obtain rfl := sinj hm
     refine wpList_nil (then_n ?_); exact ⟨g12, F.sub ⟨rfl, trivial⟩, l12, S⟩
    ·refine wl_skip rfl rfl rfl rfl (ne_tf hc3) F rfl rfl ?_; clear F a; intro a F
     refine wE (ev_pickF rfl hc3 rfl) F S rfl fun a F=>?_
     obtain rfl := sinj hm
     refine wpList_nil (then_n ?_); exact ⟨g9, F.sub ⟨rfl, trivial⟩, (Le.refl _), S⟩
   clear F S; rintro a w ⟨g11, F, l11, S⟩
   refine wE (ev_assign rfl) F S rfl fun a F=>?_
   refine wpList_nil ?_
   refine then_n ?_
   refine wp_ret ?_
   obtain rfl := sinj hm
   refine post_r _ F rfl (ar_cons (resT rfl) ar_nil) ?_
   replace S : St g11 [] fr w := St.tail [] _ S
   exact ⟨_, rfl, g11, ((((l1.trans l7).trans l8).trans l9).trans l11), S, rfl⟩
end Go.Dc
