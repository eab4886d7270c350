/- Walks: each function comes to what its model says. -/
import Derived.Test.YthknfnjdnclphaaDcTab
import Derived.Test.YthknfnjdnclphaaDcM
import Derived.Test.YthknfnjdnclphaaDcW1
import Derived.Test.YthknfnjdnclphaaDcW11
import Derived.Test.YthknfnjdnclphaaDcW3
namespace Go.Dc
open Go Go.Proofs
set_option maxRecDepth 100000
set_option maxHeartbeats 4000000
set_option linter.unusedVariables false
theorem tablepatch_Apply_ok {g : Gh} {fr : Hl} {w : World} {r : Table × Fault} (changes : (List CellChange)) (vchanges1 : Value) (hchanges1 : RepSl g changes vchanges1) (t_ : Table) (vt_1 : Value) (ht_1 : RepSl g t_.Columns vt_1) (vt_2 : Value) (ht_2 : RepSl g t_.Rows vt_2) (S : St g [] fr w) (hm : tablepatch_Apply changes t_ = some r) :
  Calls Try.prog 17 [vchanges1, .agg #[vt_1, vt_2]].toArray w (fun en w' => ∃ v, en = .returned v ∧ ∃ (g' : Gh) (v1 v2 : Value) (c1 : Hl), Le g g' ∧ St g' [c1] fr w' ∧ OwnS g' r.1.Columns v1 c1 ∧ RepSl g' r.1.Rows v2 ∧ .tuple #[.agg #[v1, v2], .agg #[.i6 r.2.Code, .i6 r.2.Index]] = v) := by
 unfold tablepatch_Apply at hm
 refine calls_enter (fn := Try.f17) Try.func17 rfl Try.ntmps17 (lb rfl) ?_
 intro a F
 replace F : Fr 67 a [(0, vchanges1), (1, .agg #[vt_1, vt_2])] := F
 refine wp_seq ?_
 refine wp_region_lit ?_
 refine wl_boxC (wn rfl) rfl rfl rfl F S rfl rfl ?_; clear F a S; rintro b1 a w F S
 refine wl_alloc (wn rfl) rfl tz25 (cs := [nilS, nilS]) rfl F S rfl rfl ?_; clear F a S; rintro b2 a w F S
 refine wl_alloc (wn rfl) rfl tz28 (cs := [.i6 0, .i6 0]) rfl F S rfl rfl ?_; clear F a S; rintro b3 a w F S
 refine wpList_nil ?_
 refine then_n ?_
 refine wp_seq ?_
 refine wp_seq ?_
 refine wp_region_lit ?_
 refine wE (ev_loadA tu25 rfl (cs := [vt_1, vt_2]) ts25 rfl (box_ptr (cells := [vt_1, vt_2]) 2 rfl 0 rfl (lb rfl))) F S rfl fun a F=>?_
 obtain ⟨y1, hy1, hm⟩ := bind_some hm
 refine wl_call0 (wn rfl) rfl F rfl (tablepatch_Validate_ok (fr := (fl [[bx b3 #[.i6 0, .i6 0] 28], [bx b2 #[nilS, nilS] 25], [bx b1 #[vt_1, vt_2] 25]] fr)) t_ vt_1 ht_1 vt_2 ht_2 S hy1) rfl tc16 rfl rfl ?_; clear F a S
 rintro _ a w ⟨g1, l1, S, rfl⟩ F; replace S : St g1 [[bx b3 #[.i6 0, .i6 0] 28], [bx b2 #[nilS, nilS] 25], [bx b1 #[vt_1, vt_2] 25]] fr w := S
 refine wl_alloc (wn rfl) rfl tz28 (cs := [.i6 0, .i6 0]) rfl F S rfl rfl ?_; clear F a S; rintro b4 a w F S
 refine wl_storeC (wn rfl) rfl F S rfl rfl (vs := [.i6 y1.Code, .i6 y1.Index]) rfl ts28 (one_cons rfl (one_cons rfl one_nil)) (k := 0) rfl (lb rfl) (c' := #[.i6 y1.Code, .i6 y1.Index]) rfl rfl ?_; clear S; intro w S
 refine wpList_nil ?_
 refine then_n ?_
 refine wp_seq ?_
 refine wp_region_lit ?_
 refine wE (ev_loadA tu28 rfl (cs := [.i6 y1.Code, .i6 y1.Index]) ts28 rfl (box_ptr (cells := [.i6 y1.Code, .i6 y1.Index]) 0 rfl 0 rfl (lb rfl))) F S rfl fun a F=>?_
 refine wE (ev_build (parts := []) (vs := []) rfl (fun w => tb28_  w)) F S rfl fun a F=>?_
 refine wE (ev_neS tu28 tqa28 tqb28 tqc28 (xs := [.i6 y1.Code, .i6 y1.Index]) (ys := [.i6 0, .i6 0]) rfl rfl ⟨_, _, rfl, by decide, ⟨_, _, rfl, rfl, leaf_int tu3⟩, ⟨_, _, rfl, by decide, ⟨_, _, rfl, rfl, leaf_int tu3⟩, rfl⟩⟩) F S rfl fun a F=>?_
 refine wpList_nil ?_
 refine then_n ?_
 obtain ⟨hc1, hm⟩ | ⟨hc1, hm⟩ := ite_or hm
 ·refine wp_condT F rfl hc1 ?_
  refine wp_seq ?_
  refine wp_dv [] mo S ?_; clear S; intro ok1 w S
  refine dv_et ok1 0 rfl (ev_build (parts := []) (vs := []) rfl (fun w => tb25_  w)) F rfl fun a F=>?_
  refine dv_et ok1 1 rfl (ev_fieldAddr' tu28 tf28_0 (z := 0) ts3 rfl ⟨_, rfl⟩ rfl) F rfl fun a F=>?_
  refine dv_ev ok1 2 rfl (ev_load1 tu3 rfl rfl (box_ptr (cells := [.i6 y1.Code]) 0 rfl 0 rfl (lb rfl))) F S rfl fun a F=>?_
  refine dv_et ok1 3 rfl (ev_build (parts := [(0, .tmp 21), (1, .const (.i6 (-2)))]) (vs := [(0, .i6 y1.Code), (1, .i6 (-2))]) rfl (fun w => tb28_0_1 y1.Code (-2) w)) F rfl fun a F=>?_
  refine dv_op ok1 4 rfl [(2, .i6 y1.Code)] ?_
  refine wl_storeC (wn rfl) rfl F S rfl rfl (vs := [nilS, nilS]) rfl ts25 (one_cons rfl (one_cons rfl one_nil)) (k := 2) rfl (lb rfl) (c' := #[nilS, nilS]) rfl rfl ?_; clear S; intro w S
  refine dv_nx ⟨yl_ev rfl rfl (ev_load1 tu3 rfl rfl (box_ptr (cells := [.i6 y1.Code]) 0 rfl 0 rfl (lb rfl))) F S, trivial⟩ ?_
  refine dv_op ok1 5 rfl [] ?_
  refine wl_storeC (wn rfl) rfl F S rfl rfl (vs := [.i6 y1.Code, .i6 (-2)]) rfl ts28 (one_cons rfl (one_cons rfl one_nil)) (k := 1) rfl (lb rfl) (c' := #[.i6 y1.Code, .i6 (-2)]) rfl rfl ?_; clear S; intro w S
  refine dv_nx trivial ?_
  refine dv_fin ok1 ?_
  refine then_n ?_
  refine wp_ret ?_
  refine then_r ?_
  obtain rfl := sinj hm
  replace S : St g1 [[], [bx b4 #[.i6 y1.Code, .i6 y1.Index] 28], [bx b3 #[.i6 y1.Code, .i6 (-2)] 28], [bx b2 #[nilS, nilS] 25], [bx b1 #[vt_1, vt_2] 25]] fr w := S
  refine post_r _ F rfl (ar_cons (resA rfl tu25 rfl (box_ptr (cells := [nilS, nilS]) 3 rfl 0 rfl (lb rfl) w S) ts25) (ar_cons (resA rfl tu28 rfl (box_ptr (cells := [.i6 y1.Code, .i6 (-2)]) 2 rfl 0 rfl (lb rfl) w S) ts28) ar_nil)) ?_
  replace S : St g1 [[]] fr w := St.tail [[]] _ (S.frontC 0 rfl)
  exact ⟨_, rfl, g1, (nilS), (nilS), [], l1, S, (OwnS.nil _), (RepSl.nil _), rfl⟩
 ·refine wp_condF F rfl hc1 ?_
  refine wp_skip ?_
  refine then_n ?_
  refine wp_seq ?_
  refine wp_seq ?_
  refine wp_region_lit ?_
  refine wE (ev_move rfl) F S rfl fun a F=>?_
  refine wE (ev_lenSh hchanges1 rfl tu26) F S rfl fun a F=>?_
  refine wE (ev_int rfl rfl (bo_gtr _ _ _ _)) F S rfl fun a F=>?_
  refine wpList_nil ?_
  refine then_n ?_
  obtain ⟨hc2, hm⟩ | ⟨hc2, hm⟩ := ite_or hm
  ·refine wp_condT F rfl hc2 ?_
   refine wp_seq ?_
   refine wp_region_lit ?_
   refine wE (ev_build (parts := []) (vs := []) rfl (fun w => tb25_  w)) F S rfl fun a F=>?_
   refine wE (ev_build (parts := [(0, .const (.i6 2)), (1, .const (.i6 (-1)))]) (vs := [(0, .i6 2), (1, .i6 (-1))]) rfl (fun w => tb28_0_1 2 (-1) w)) F S rfl fun a F=>?_
   refine wl_storeC (wn rfl) rfl F S rfl rfl (vs := [nilS, nilS]) rfl ts25 (one_cons rfl (one_cons rfl one_nil)) (k := 2) rfl (lb rfl) (c' := #[nilS, nilS]) rfl rfl ?_; clear S; intro w S
   refine wl_storeC (wn rfl) rfl F S rfl rfl (vs := [.i6 2, .i6 (-1)]) rfl ts28 (one_cons rfl (one_cons rfl one_nil)) (k := 1) rfl (lb rfl) (c' := #[.i6 2, .i6 (-1)]) rfl rfl ?_; clear S; intro w S
   refine wpList_nil ?_
   refine then_n ?_
   refine wp_ret ?_
   refine then_r ?_
   obtain rfl := sinj hm
   replace S : St g1 [[], [bx b4 #[.i6 y1.Code, .i6 y1.Index] 28], [bx b3 #[.i6 2, .i6 (-1)] 28], [bx b2 #[nilS, nilS] 25], [bx b1 #[vt_1, vt_2] 25]] fr w := S
   refine post_r _ F rfl (ar_cons (resA rfl tu25 rfl (box_ptr (cells := [nilS, nilS]) 3 rfl 0 rfl (lb rfl) w S) ts25) (ar_cons (resA rfl tu28 rfl (box_ptr (cells := [.i6 2, .i6 (-1)]) 2 rfl 0 rfl (lb rfl) w S) ts28) ar_nil)) ?_
   replace S : St g1 [[]] fr w := St.tail [[]] _ (S.frontC 0 rfl)
   exact ⟨_, rfl, g1, (nilS), (nilS), [], l1, S, (OwnS.nil _), (RepSl.nil _), rfl⟩
  ·refine wp_condF F rfl hc2 ?_
   refine wp_skip ?_
   refine then_n ?_
   refine wp_cut (fun a w => ∃ (g2 : Gh), Fr 67 a [(5, bp b3 0), (4, bp b2 0), (3, bp b1 0), (0, vchanges1)] ∧ Le g1 g2 ∧ St g2 [[bx b3 #[.i6 0, .i6 0] 28], [bx b2 #[nilS, nilS] 25], [bx b1 #[vt_1, vt_2] 25]] fr w ∧ tablepatch_Apply.j1 changes t_ = some r) ?_ ?_
   ·refine wp_seq ?_
    refine wp_region_lit ?_
    refine wE (ev_move rfl) F S rfl fun a F=>?_
    refine wE (ev_lenSh hchanges1 rfl tu26) F S rfl fun a F=>?_
    refine wE (ev_move rfl) F S rfl fun a F=>?_
    refine wpList_nil ?_
    refine then_n ?_
    refine wp_block ?_
    obtain ⟨r2, hr6, hm⟩ := bind_some hm
    have hmo2 := hm; clear hm
    refine wp_iter (σ := Int) (ρ := (Table × Fault) ⊕ Unit) (m := fun s => tablepatch_Apply.l2 changes t_ s) (I := fun x8 a w => ∃ (g13 : Gh), Fr 67 a [(30, .i6 x8), (29, .i6 (changes.length : Int)), (28, vchanges1), (5, bp b3 0), (4, bp b2 0), (3, bp b1 0), (0, vchanges1)] ∧ Le g1 g13 ∧ St g13 [[bx b3 #[.i6 0, .i6 0] 28], [bx b2 #[nilS, nilS] 25], [bx b1 #[vt_1, vt_2] 25]] fr w) hr6 ?_ ?_
    ·replace S : St g1 [[bx b3 #[.i6 0, .i6 0] 28], [bx b2 #[nilS, nilS] 25], [bx b1 #[vt_1, vt_2] 25]] fr w := St.tail [[bx b3 #[.i6 0, .i6 0] 28], [bx b2 #[nilS, nilS] 25], [bx b1 #[vt_1, vt_2] 25]] _ (((S.frontC 3 rfl).frontC 3 rfl).frontC 3 rfl)
     exact ⟨g1, F.sub ⟨rfl, rfl, rfl, rfl, rfl, rfl, rfl, trivial⟩, (Le.refl _), S⟩
    ·clear F S; rintro x8 a w x9 ⟨g13, F, l13, S⟩ hx3 hfin2
     have hm : tablepatch_Apply.l2 changes t_ x8 = some x9 := hx3; clear hx3
     unfold tablepatch_Apply.l2 at hm
     refine wp_seq ?_
     refine wp_region_lit ?_
     refine wE (ev_int rfl rfl (bo_lss _ _ _ _)) F S rfl fun a F=>?_
     refine wpList_nil ?_
     refine then_n ?_
     refine wp_seq ?_
     obtain ⟨hc13, hm⟩ | ⟨hc13, hm⟩ := ite_or hm
     ·refine wp_condT F rfl hc13 ?_
      refine wp_skip ?_
      refine then_n ?_
      refine wp_seq ?_
      refine wp_block ?_
      refine wp_seq ?_
      refine wp_region_lit ?_
      refine wE (ev_move rfl) F S rfl fun a F=>?_
      obtain ⟨y16, hy16, hm⟩ := bind_some hm
      obtain ⟨cs6, hr7, hp4⟩ := elemS (hchanges1.mono (l1.trans l13)) hy16
      obtain ⟨v13, v14, rfl, h19, h20⟩ := rep_CellChange hr7
      refine wE (ev_idxS (hchanges1.mono (l1.trans l13)) hy16 tu26 ts36 rfl rfl) F S rfl fun a F=>?_
      refine wE (ev_loadA tu36 rfl (cs := [.string y16.Key, .i6 y16.Column, v13, v14]) ts36 rfl (ptr_mono (cks := [[bx b3 #[.i6 0, .i6 0] 28], [bx b2 #[nilS, nilS] 25], [bx b1 #[vt_1, vt_2] 25]]) (fr := fr) hp4 (Le.refl _))) F S rfl fun a F=>?_
      refine wl_alloc (wn rfl) rfl tz36 (cs := [.string ByteArray.empty, .i6 0, nilS, nilS]) rfl F S rfl rfl ?_; clear F a S; rintro b8 a w F S
      refine wE (ev_assign rfl) F S rfl fun a F=>?_
      refine wl_storeC (wn rfl) rfl F S rfl rfl (vs := [.string y16.Key, .i6 y16.Column, v13, v14]) rfl ts36 (one_cons rfl (one_cons rfl (one_cons h19.one (one_cons h20.one one_nil)))) (k := 0) rfl (lb rfl) (c' := #[.string y16.Key, .i6 y16.Column, v13, v14]) rfl rfl ?_; clear S; intro w S
      refine wpList_nil ?_
      refine then_n ?_
      refine wp_seq ?_
      refine wp_region_lit ?_
      refine wE (ev_loadA tu36 rfl (cs := [.string y16.Key, .i6 y16.Column, v13, v14]) ts36 rfl (box_ptr (cells := [.string y16.Key, .i6 y16.Column, v13, v14]) 0 rfl 0 rfl (lb rfl))) F S rfl fun a F=>?_
      refine wE (ev_fieldAddr' tu25 tf25_0 (z := 0) ts22 rfl ⟨_, rfl⟩ rfl) F S rfl fun a F=>?_
      refine wE (ev_load1 tu22 rfl rfl (box_ptr (cells := [vt_1]) 3 rfl 0 rfl (lb rfl))) F S rfl fun a F=>?_
      refine wE (ev_lenSh ht_1 rfl tu22) F S rfl fun a F=>?_
      obtain ⟨y17, hy17, hm⟩ := bind_some hm
      refine wl_call0 (wn rfl) rfl F rfl (tablepatch_check_ok (fr := (fl [[bx b8 #[.string y16.Key, .i6 y16.Column, v13, v14] 36], [bx b3 #[.i6 0, .i6 0] 28], [bx b2 #[nilS, nilS] 25], [bx b1 #[vt_1, vt_2] 25]] fr)) y16 v13 h19 v14 h20 (t_.Columns.length : Int) S hy17) rfl tc38 rfl rfl ?_; clear F a S
      rintro _ a w ⟨g14, l14, S, rfl⟩ F; replace S : St g14 [[bx b8 #[.string y16.Key, .i6 y16.Column, v13, v14] 36], [bx b3 #[.i6 0, .i6 0] 28], [bx b2 #[nilS, nilS] 25], [bx b1 #[vt_1, vt_2] 25]] fr w := S
      refine wE (ev_assign rfl) F S rfl fun a F=>?_
      refine wpList_nil ?_
      refine then_n ?_
      refine wp_seq ?_
      refine wp_region_lit ?_
      refine wE (ev_move rfl) F S rfl fun a F=>?_
      refine wE (ev_int rfl rfl (bo_neq _ _ _ _)) F S rfl fun a F=>?_
      refine wpList_nil ?_
      refine then_n ?_
      obtain ⟨hc14, hm⟩ | ⟨hc14, hm⟩ := ite_or hm
      ·refine wp_condT F rfl hc14 ?_
       refine wp_seq ?_
       refine wp_region_lit ?_
       refine wE (ev_build (parts := []) (vs := []) rfl (fun w => tb25_  w)) F S rfl fun a F=>?_
       refine wE (ev_move rfl) F S rfl fun a F=>?_
       refine wE (ev_move rfl) F S rfl fun a F=>?_
       refine wE (ev_build (parts := [(0, .tmp 43), (1, .tmp 44)]) (vs := [(0, .i6 y17), (1, .i6 x8)]) rfl (fun w => tb28_0_1 y17 x8 w)) F S rfl fun a F=>?_
       refine wl_storeC (wn rfl) rfl F S rfl rfl (vs := [nilS, nilS]) rfl ts25 (one_cons rfl (one_cons rfl one_nil)) (k := 2) rfl (lb rfl) (c' := #[nilS, nilS]) rfl rfl ?_; clear S; intro w S
       refine wl_storeC (wn rfl) rfl F S rfl rfl (vs := [.i6 y17, .i6 x8]) rfl ts28 (one_cons rfl (one_cons rfl one_nil)) (k := 1) rfl (lb rfl) (c' := #[.i6 y17, .i6 x8]) rfl rfl ?_; clear S; intro w S
       refine wpList_nil ?_
       refine then_n ?_
       refine wp_ret ?_
       refine inb_r ?_
       refine then_r ?_
       refine then_r ?_
       refine inb_r ?_
       refine then_r ?_
       obtain rfl := sinj hm
       obtain rfl := hfin2 _ rfl
       clear hm
       have hm : (some (({ Columns := [], Rows := [] } : Table), ({ Code := y17, Index := x8 } : Fault)) : Option (Table × Fault)) = some _ := hmo2
       obtain rfl := sinj hm
       replace S : St g14 [[], [bx b8 #[.string y16.Key, .i6 y16.Column, v13, v14] 36], [bx b3 #[.i6 y17, .i6 x8] 28], [bx b2 #[nilS, nilS] 25], [bx b1 #[vt_1, vt_2] 25]] fr w := S
       refine post_r _ F rfl (ar_cons (resA rfl tu25 rfl (box_ptr (cells := [nilS, nilS]) 3 rfl 0 rfl (lb rfl) w S) ts25) (ar_cons (resA rfl tu28 rfl (box_ptr (cells := [.i6 y17, .i6 x8]) 2 rfl 0 rfl (lb rfl) w S) ts28) ar_nil)) ?_
       replace S : St g14 [[]] fr w := St.tail [[]] _ (S.frontC 0 rfl)
       exact ⟨_, rfl, g14, (nilS), (nilS), [], ((l1.trans l13).trans l14), S, (OwnS.nil _), (RepSl.nil _), rfl⟩
      ·refine wp_condF F rfl hc14 ?_
       refine wp_skip ?_
       refine inb_n ?_
       refine then_n ?_
       refine wp_region_lit ?_
       obtain ⟨z3, hz3, hm⟩ := bind_some hm
       refine wE (ev_int rfl rfl (bo_add hz3)) F S rfl fun a F=>?_
       refine wE (ev_move rfl) F S rfl fun a F=>?_
       refine wpList_nil ?_
       refine then_n ?_
       obtain rfl := sinj hm
       refine ⟨_, rfl, ?_⟩
       replace S : St g14 [[bx b3 #[.i6 0, .i6 0] 28], [bx b2 #[nilS, nilS] 25], [bx b1 #[vt_1, vt_2] 25]] fr w := St.tail [[bx b3 #[.i6 0, .i6 0] 28], [bx b2 #[nilS, nilS] 25], [bx b1 #[vt_1, vt_2] 25]] _ (((S.frontC 3 rfl).frontC 3 rfl).frontC 3 rfl)
       exact ⟨g14, F.sub ⟨rfl, rfl, rfl, rfl, rfl, rfl, rfl, trivial⟩, (l13.trans l14), S⟩
     ·refine wp_condF F rfl hc13 ?_
      refine wp_exit ?_
      refine then_e ?_
      refine then_e ?_
      refine inb_x ?_
      refine then_n ?_
      obtain rfl := sinj hm
      obtain rfl := hfin2 _ rfl
      clear hm
      have hm : (tablepatch_Apply.j1 changes t_ : Option (Table × Fault)) = some _ := hmo2
      exact ⟨g13, F.sub ⟨rfl, rfl, rfl, rfl, trivial⟩, l13, S, hm⟩
   ·clear F S hm; rintro a w ⟨g2, F, l2, S, hm⟩
    refine wp_seq ?_
    refine wp_region_lit ?_
    refine wE (ev_loadA tu25 rfl (cs := [vt_1, vt_2]) ts25 rfl (box_ptr (cells := [vt_1, vt_2]) 2 rfl 0 rfl (lb rfl))) F S rfl fun a F=>?_
    obtain ⟨y2, hy2, hm⟩ := bind_some hm
    refine wl_call0 (wn rfl) rfl F rfl (tablepatch_clone_ok (fr := (fl [[bx b3 #[.i6 0, .i6 0] 28], [bx b2 #[nilS, nilS] 25], [bx b1 #[vt_1, vt_2] 25]] fr)) t_ vt_1 (ht_1.mono (l1.trans l2)) vt_2 (ht_2.mono (l1.trans l2)) S hy2) rfl tc39 rfl rfl ?_; clear F a S
    rintro _ a w ⟨g3, v1, v2, c1, c2, l3, S, h1, h2, rfl⟩ F; replace S : St g3 [c1, c2, [bx b3 #[.i6 0, .i6 0] 28], [bx b2 #[nilS, nilS] 25], [bx b1 #[vt_1, vt_2] 25]] fr w := S
    refine wl_alloc (wn rfl) rfl tz25 (cs := [nilS, nilS]) rfl F S rfl rfl ?_; clear F a S; rintro b5 a w F S
    refine wl_storeC (wn rfl) rfl F S rfl rfl (vs := [v1, v2]) rfl ts25 (one_cons (OwnS.one h1) (one_cons (OwnN.one h2) one_nil)) (k := 0) rfl (lb rfl) (c' := #[v1, v2]) rfl rfl ?_; clear S; intro w S
    refine wpList_nil ?_
    refine then_n ?_
    refine wp_cut (fun a w => ∃ (x1 : List Row) (v3 : Value) (c3 : Hl) (g4 : Gh), Fr 67 a [(10, bp b5 0), (5, bp b3 0), (4, bp b2 0)] ∧ Le g3 g4 ∧ St g4 [[bx b5 #[v1, v3] 25], [bx b3 #[.i6 0, .i6 0] 28], [bx b2 #[nilS, nilS] 25], c1, c3] fr w ∧ OwnN g4 x1 v3 c3 ∧ tablepatch_Apply.j2 y2 x1 = some r) ?_ ?_
    ·refine wp_seq ?_
     refine wp_region_lit ?_
     refine wE (ev_move rfl) F S rfl fun a F=>?_
     refine wE (ev_lenSh hchanges1 rfl tu26) F S rfl fun a F=>?_
     refine wE (ev_move rfl) F S rfl fun a F=>?_
     refine wpList_nil ?_
     refine then_n ?_
     refine wp_block ?_
     obtain ⟨r1, hr1, hm⟩ := bind_some hm
     have hmo1 := hm; clear hm
     refine wp_iter (σ := Int × (List Row)) (ρ := (Table × Fault) ⊕ (List Row)) (m := fun s => tablepatch_Apply.l1 changes s.1 s.2) (I := fun s a w => match s with | (x2, x3) => ∃ (v4 : Value) (c4 : Hl) (g6 : Gh), Fr 67 a [(51, .i6 x2), (50, .i6 (changes.length : Int)), (49, vchanges1), (10, bp b5 0), (5, bp b3 0), (4, bp b2 0)] ∧ Le g3 g6 ∧ St g6 [[bx b5 #[v1, v4] 25], [bx b3 #[.i6 0, .i6 0] 28], [bx b2 #[nilS, nilS] 25], c1, c4] fr w ∧ OwnN g6 x3 v4 c4) hr1 ?_ ?_
     ·dsimp only
      replace S : St g3 [[bx b5 #[v1, v2] 25], [bx b3 #[.i6 0, .i6 0] 28], [bx b2 #[nilS, nilS] 25], c1, c2] fr w := St.tail [[bx b5 #[v1, v2] 25], [bx b3 #[.i6 0, .i6 0] 28], [bx b2 #[nilS, nilS] 25], c1, c2] _ (((((S.frontC 2 rfl).frontC 2 rfl).frontC 6 rfl).frontC 6 rfl).frontC 4 rfl)
      exact ⟨v2, c2, g3, F.sub ⟨rfl, rfl, rfl, rfl, rfl, rfl, trivial⟩, (Le.refl _), S, h2⟩
     ·clear F S; rintro ⟨x2, x3⟩ a w x4 ⟨v4, c4, g6, F, l6, S, h5⟩ hx1 hfin1
      have hm : tablepatch_Apply.l1 changes x2 x3 = some x4 := hx1; clear hx1
      unfold tablepatch_Apply.l1 at hm
      refine wp_seq ?_
      refine wp_region_lit ?_
      refine wE (ev_int rfl rfl (bo_lss _ _ _ _)) F S rfl fun a F=>?_
      refine wpList_nil ?_
      refine then_n ?_
      refine wp_seq ?_
      obtain ⟨hc3, hm⟩ | ⟨hc3, hm⟩ := ite_or hm
      ·refine wp_condT F rfl hc3 ?_
       refine wp_skip ?_
       refine then_n ?_
       refine wp_seq ?_
       refine wp_block ?_
       refine wp_seq ?_
       refine wp_region_lit ?_
       refine wE (ev_move rfl) F S rfl fun a F=>?_
       obtain ⟨y3, hy3, hm⟩ := bind_some hm
       obtain ⟨cs1, hr2, hp1⟩ := elemS (hchanges1.mono (((l1.trans l2).trans l3).trans l6)) hy3
       obtain ⟨v5, v6, rfl, h6, h7⟩ := rep_CellChange hr2
       refine wE (ev_idxS (hchanges1.mono (((l1.trans l2).trans l3).trans l6)) hy3 tu26 ts36 rfl rfl) F S rfl fun a F=>?_
       refine wE (ev_loadA tu36 rfl (cs := [.string y3.Key, .i6 y3.Column, v5, v6]) ts36 rfl (ptr_mono (cks := [[bx b5 #[v1, v4] 25], [bx b3 #[.i6 0, .i6 0] 28], [bx b2 #[nilS, nilS] 25], c1, c4]) (fr := fr) hp1 (Le.refl _))) F S rfl fun a F=>?_
       refine wl_alloc (wn rfl) rfl tz36 (cs := [.string ByteArray.empty, .i6 0, nilS, nilS]) rfl F S rfl rfl ?_; clear F a S; rintro b6 a w F S
       refine wE (ev_assign rfl) F S rfl fun a F=>?_
       refine wl_storeC (wn rfl) rfl F S rfl rfl (vs := [.string y3.Key, .i6 y3.Column, v5, v6]) rfl ts36 (one_cons rfl (one_cons rfl (one_cons h6.one (one_cons h7.one one_nil)))) (k := 0) rfl (lb rfl) (c' := #[.string y3.Key, .i6 y3.Column, v5, v6]) rfl rfl ?_; clear S; intro w S
       refine wpList_nil ?_
       refine then_n ?_
       refine wp_seq ?_
       refine wp_region_lit ?_
       refine wE (ev_loadA tu36 rfl (cs := [.string y3.Key, .i6 y3.Column, v5, v6]) ts36 rfl (box_ptr (cells := [.string y3.Key, .i6 y3.Column, v5, v6]) 0 rfl 0 rfl (lb rfl))) F S rfl fun a F=>?_
       refine wl_call (wn rfl) rfl (xs := [.tmp 56, .tmp 10]) (vs := [.agg #[.string y3.Key, .i6 y3.Column, v5, v6], bp b5 0]) (cap := []) (R := fun u1 w => ∃ (x5 : Int) (x6 : List Row) (v7 : Value) (c5 : Hl) (g7 : Gh), u1 = .i6 x5 ∧ Le g6 g7 ∧ St g7 [[bx b5 #[v1, v7] 25], [bx b3 #[.i6 0, .i6 0] 28], [bx b2 #[nilS, nilS] 25], c1, c5] fr w ∧ OwnN g7 x6 v7 c5 ∧ tablepatch_Apply.j3 x2 x5 x6 = some x4) F rfl rfl tc40 (calls_enter (fn := Try.f40) Try.func40 rfl Try.ntmps40 (lb rfl) ?_) rfl rfl ?_
       ·clear F a; intro a F
        replace F : Fr 97 a [(0, .agg #[.string y3.Key, .i6 y3.Column, v5, v6]), (1, bp b5 0)] := F
        refine wp_seq ?_
        refine wp_region_lit ?_
        refine wl_boxC (wn rfl) rfl rfl rfl F S rfl rfl ?_; clear F a S; rintro b7 a w F S
        refine wE (ev_assign rfl) F S rfl fun a F=>?_
        refine wpList_nil ?_
        refine then_n ?_
        refine wp_seq ?_
        refine wp_quiet mo (by kernel_rfl) S ?_
        refine wq_ev (wn rfl) (ev_move rfl) F rfl rfl ?_; clear F a; intro a F
        refine wq_ev (wn rfl) (ev_nil rfl) F rfl rfl ?_; clear F a; intro a F
        refine wq_ev (wn rfl) (ev_fieldAddr' tu25 tf25_1 (z := 0) ts23 rfl ⟨_, rfl⟩ rfl) F rfl rfl ?_; clear F a; intro a F
        refine wq_ev (wn rfl) (ev_load1 tu23 rfl rfl (box_ptr (cells := [v4]) 2 rfl 1 rfl (lb rfl))) F rfl rfl ?_; clear F a; intro a F
        refine wq_ev (wn rfl) (ev_fieldAddr' tu36 tf36_0 (z := 0) ts9 rfl ⟨_, rfl⟩ rfl) F rfl rfl ?_; clear F a; intro a F
        refine wq_ev (wn rfl) (ev_load1 tu9 rfl rfl (box_ptr (cells := [.string y3.Key]) 0 rfl 0 rfl (lb rfl))) F rfl rfl ?_; clear F a; intro a F
        obtain ⟨y4, hy4, hm⟩ := bind_some hm
        refine wq_call (wn rfl) rfl (xs := [.tmp 12, .tmp 14]) (vs := [v4, .string y3.Key]) (cap := []) F rfl rfl tc47 (v := .tuple #[.i6 y4.1, .bool y4.2]) (fun w S => by replace S : St g6 [c4, [bx b7 #[.string y3.Key, .i6 y3.Column, v5, v6] 36], [bx b6 #[.string y3.Key, .i6 y3.Column, v5, v6] 36], [bx b5 #[v1, v4] 25], [bx b3 #[.i6 0, .i6 0] 28], [bx b2 #[nilS, nilS] 25], c1] fr w := (St.tail [c4, [bx b7 #[.string y3.Key, .i6 y3.Column, v5, v6] 36], [bx b6 #[.string y3.Key, .i6 y3.Column, v5, v6] 36], [bx b5 #[v1, v4] 25], [bx b3 #[.i6 0, .i6 0] 28], [bx b2 #[nilS, nilS] 25], c1] _ (((((((S.frontC 5 rfl).frontC 5 rfl).frontC 5 rfl).frontC 5 rfl).frontC 5 rfl).frontC 5 rfl).frontC 12 rfl)); exact (lend (c := c4) (cks := [[bx b7 #[.string y3.Key, .i6 y3.Column, v5, v6] 36], [bx b6 #[.string y3.Key, .i6 y3.Column, v5, v6] 36], [bx b5 #[v1, v4] 25], [bx b3 #[.i6 0, .i6 0] 28], [bx b2 #[nilS, nilS] 25], c1]) S fun S hz => tablepatch_find_ok (fr := fl [[bx b7 #[.string y3.Key, .i6 y3.Column, v5, v6] 36], [bx b6 #[.string y3.Key, .i6 y3.Column, v5, v6] 36], [bx b5 #[v1, v4] 25], [bx b3 #[.i6 0, .i6 0] 28], [bx b2 #[nilS, nilS] 25], c1] fr) x3 v4 (OwnN.fz (Le.add _ _) hz h5) y3.Key S hy4).mono (by rintro en w' ⟨_, rfl, g2, l2, S2, rfl⟩; have S3 : St g6 [c4, [bx b7 #[.string y3.Key, .i6 y3.Column, v5, v6] 36], [bx b6 #[.string y3.Key, .i6 y3.Column, v5, v6] 36], [bx b5 #[v1, v4] 25], [bx b3 #[.i6 0, .i6 0] 28], [bx b2 #[nilS, nilS] 25], c1] fr w' := S2.weak l2; exact ⟨rfl, (St.tail [[bx b7 #[.string y3.Key, .i6 y3.Column, v5, v6] 36], [bx b6 #[.string y3.Key, .i6 y3.Column, v5, v6] 36], [bx b5 #[v1, v4] 25], [bx b3 #[.i6 0, .i6 0] 28], [bx b2 #[nilS, nilS] 25], c1, c4] _ (((((((S3.frontC 0 rfl).frontC 7 rfl).frontC 7 rfl).frontC 7 rfl).frontC 7 rfl).frontC 7 rfl).frontC 7 rfl))⟩)) rfl rfl ?_; clear F a; intro a F
        refine wq_ev (wn rfl) (ev_move rfl) F rfl rfl ?_; clear F a; intro a F
        refine wq_ev (wn rfl) (ev_extract rfl rfl) F rfl rfl ?_; clear F a; intro a F
        refine wq_ev (wn rfl) (ev_extract rfl rfl) F rfl rfl ?_; clear F a; intro a F
        refine wq_ev (wn rfl) (ev_assign rfl) F rfl rfl ?_; clear F a; intro a F
        refine wq_ev (wn rfl) (ev_assign rfl) F rfl rfl ?_; clear F a; intro a F
        refine wq_nil ?_; clear S; intro w S
        refine then_n ?_
        refine wp_seq ?_
        refine wp_seq ?_
        refine wp_region_lit ?_
        refine wE (ev_fieldAddr' tu36 tf36_1 (z := 0) ts3 rfl ⟨_, rfl⟩ rfl) F S rfl fun a F=>?_
        refine wE (ev_load1 tu3 rfl rfl (box_ptr (cells := [.i6 y3.Column]) 0 rfl 1 rfl (lb rfl))) F S rfl fun a F=>?_
        refine wE (ev_int rfl rfl (bo_eql _ _ _ _)) F S rfl fun a F=>?_
        refine wE (ev_move rfl) F S rfl fun a F=>?_
        obtain ⟨x7, hx2, hm⟩ := bind_some hm
        refine wl_cut 5 (fun a w' => w = w' ∧ Fr 97 a [(26, .bool x7), (6, .bool y4.2), (5, .i6 y4.1), (2, bp b7 0), (1, bp b5 0)]) ?_ ?_
        ·clear hm; obtain ⟨hc5, hm⟩ | ⟨hc5, hm⟩ := ite_or hx2
         ·refine wl_ev (wg F rfl rfl rfl rfl hc5) (ev_fieldAddr' tu36 tf36_2 (z := 0) ts22 rfl ⟨_, rfl⟩ rfl) F S rfl rfl ?_; clear F a; intro a F
          refine wl_ev (wg F rfl rfl rfl rfl hc5) (ev_load1 tu22 rfl rfl (box_ptr (cells := [v5]) 0 rfl 2 rfl (lb rfl))) F S rfl rfl ?_; clear F a; intro a F
          refine wl_ev (wg F rfl rfl rfl rfl hc5) (ev_lenSh h6 rfl tu22) F S rfl rfl ?_; clear F a; intro a F
          refine wl_ev (wg F rfl rfl rfl rfl hc5) (ev_int rfl rfl (bo_eql _ _ _ _)) F S rfl rfl ?_; clear F a; intro a F
          refine wE (ev_pickT rfl hc5 rfl) F S rfl fun a F=>?_
          obtain rfl := sinj hm
          refine wpList_nil (then_n ?_); exact ⟨rfl, F.sub ⟨rfl, rfl, rfl, rfl, rfl, trivial⟩⟩
         ·refine wl_skip rfl rfl rfl rfl (ne_tf hc5) F rfl rfl ?_; clear F a; intro a F
          refine wl_skip rfl rfl rfl rfl (ne_tf hc5) F rfl rfl ?_; clear F a; intro a F
          refine wl_skip rfl rfl rfl rfl (ne_tf hc5) F rfl rfl ?_; clear F a; intro a F
          refine wl_skip rfl rfl rfl rfl (ne_tf hc5) F rfl rfl ?_; clear F a; intro a F
          refine wE (ev_pickF rfl hc5 rfl) F S rfl fun a F=>?_
          obtain rfl := sinj hm
          refine wpList_nil (then_n ?_); exact ⟨rfl, F.sub ⟨rfl, rfl, rfl, rfl, rfl, trivial⟩⟩
        clear F; rintro a w' ⟨rfl, F⟩
        refine wpList_nil ?_
        refine then_n ?_
        obtain ⟨hc6, hm⟩ | ⟨hc6, hm⟩ := ite_or hm
        ·refine wp_condT F rfl hc6 ?_
         refine wp_seq ?_
         refine wp_seq ?_
         refine wp_region_lit ?_
         refine wE (ev_move rfl) F S rfl fun a F=>?_
         refine wpList_nil ?_
         refine then_n ?_
         obtain ⟨hc7, hm⟩ | ⟨hc7, hm⟩ := ite_or hm
         ·refine wp_condT F rfl hc7 ?_
          refine wp_seq ?_
          refine wp_region_lit ?_
          refine wE (ev_assign rfl) F S rfl fun a F=>?_
          refine wpList_nil ?_
          refine then_n ?_
          refine wp_ret ?_
          refine then_r ?_
          refine then_r ?_
          refine post_r _ F rfl (ar_cons (resT rfl) ar_nil) ?_
          replace S : St g6 [[bx b5 #[v1, v4] 25], [bx b3 #[.i6 0, .i6 0] 28], [bx b2 #[nilS, nilS] 25], c1, c4] fr w := St.tail [[bx b5 #[v1, v4] 25], [bx b3 #[.i6 0, .i6 0] 28], [bx b2 #[nilS, nilS] 25], c1, c4] _ (((((S.frontC 6 rfl).frontC 6 rfl).frontC 6 rfl).frontC 6 rfl).frontC 6 rfl)
          exact ⟨_, rfl, ⟨7, x3, v4, c4, g6, rfl, (Le.refl _), S, h5, hm⟩⟩
         ·refine wp_condF F rfl hc7 ?_
          refine wp_skip ?_
          refine then_n ?_
          refine wp_seq ?_
          refine wp_seq ?_
          refine wp_region_lit ?_
          refine wE (ev_move rfl) F S rfl fun a F=>?_
          refine wE (ev_nil rfl) F S rfl fun a F=>?_
          refine wE (ev_fieldAddr' tu25 tf25_1 (z := 0) ts23 rfl ⟨_, rfl⟩ rfl) F S rfl fun a F=>?_
          refine wE (ev_load1 tu23 rfl rfl (box_ptr (cells := [v4]) 2 rfl 1 rfl (lb rfl))) F S rfl fun a F=>?_
          refine wE (ev_lenOwN h5 rfl tu23) F S rfl fun a F=>?_
          refine wE (ev_int rfl rfl (bo_geq _ _ _ _)) F S rfl fun a F=>?_
          refine wpList_nil ?_
          refine then_n ?_
          obtain ⟨hc8, hm⟩ | ⟨hc8, hm⟩ := ite_or hm
          ·refine wp_condT F rfl hc8 ?_
           refine wp_seq ?_
           refine wp_region_lit ?_
           refine wE (ev_assign rfl) F S rfl fun a F=>?_
           refine wpList_nil ?_
           refine then_n ?_
           refine wp_ret ?_
           refine then_r ?_
           refine then_r ?_
           refine post_r _ F rfl (ar_cons (resT rfl) ar_nil) ?_
           replace S : St g6 [[bx b5 #[v1, v4] 25], [bx b3 #[.i6 0, .i6 0] 28], [bx b2 #[nilS, nilS] 25], c1, c4] fr w := St.tail [[bx b5 #[v1, v4] 25], [bx b3 #[.i6 0, .i6 0] 28], [bx b2 #[nilS, nilS] 25], c1, c4] _ (((((S.frontC 6 rfl).frontC 6 rfl).frontC 6 rfl).frontC 6 rfl).frontC 6 rfl)
           exact ⟨_, rfl, ⟨14, x3, v4, c4, g6, rfl, (Le.refl _), S, h5, hm⟩⟩
          ·refine wp_condF F rfl hc8 ?_
           refine wp_skip ?_
           refine then_n ?_
           refine wp_seq ?_
           refine wp_dv [] mo S ?_; clear S; intro ok2 w S
           refine dv_et ok2 0 rfl (ev_move rfl) F rfl fun a F=>?_
           refine dv_et ok2 1 rfl (ev_move rfl) F rfl fun a F=>?_
           refine dv_et ok2 2 rfl (ev_nil rfl) F rfl fun a F=>?_
           refine dv_et ok2 3 rfl (ev_fieldAddr' tu25 tf25_1 (z := 0) ts23 rfl ⟨_, rfl⟩ rfl) F rfl fun a F=>?_
           refine dv_ev ok2 4 rfl (ev_load1 tu23 rfl rfl (box_ptr (cells := [v4]) 2 rfl 1 rfl (lb rfl))) F S rfl fun a F=>?_
           refine dv_et ok2 5 rfl (ev_move rfl) F rfl fun a F=>?_
           refine dv_et ok2 6 rfl (ev_fieldAddr' tu36 tf36_0 (z := 0) ts9 rfl ⟨_, rfl⟩ rfl) F rfl fun a F=>?_
           refine dv_ev ok2 7 rfl (ev_load1 tu9 rfl rfl (box_ptr (cells := [.string y3.Key]) 0 rfl 0 rfl (lb rfl))) F S rfl fun a F=>?_
           refine dv_et ok2 8 rfl (ev_fieldAddr' tu36 tf36_3 (z := 0) ts22 rfl ⟨_, rfl⟩ rfl) F rfl fun a F=>?_
           refine dv_ev ok2 9 rfl (ev_load1 tu22 rfl rfl (box_ptr (cells := [v6]) 0 rfl 3 rfl (lb rfl))) F S rfl fun a F=>?_
           refine dv_op ok2 10 rfl [(7, .string y3.Key), (4, v4)] ?_
           obtain ⟨y5, hy5, hm⟩ := bind_some hm
           refine wl_call0 (wn rfl) rfl F rfl (slices_Clone_ok (fr := (fl [[bx b7 #[.string y3.Key, .i6 y3.Column, v5, v6] 36], [bx b6 #[.string y3.Key, .i6 y3.Column, v5, v6] 36], [bx b5 #[v1, v4] 25], [bx b3 #[.i6 0, .i6 0] 28], [bx b2 #[nilS, nilS] 25], c1, c4] fr)) y3.New v6 h7 S hy5) rfl tc24 rfl rfl ?_; clear F a S
           rintro _ a w ⟨g9, v8, c6, l9, S, h9, rfl⟩ F; replace S : St g9 [c6, [bx b7 #[.string y3.Key, .i6 y3.Column, v5, v6] 36], [bx b6 #[.string y3.Key, .i6 y3.Column, v5, v6] 36], [bx b5 #[v1, v4] 25], [bx b3 #[.i6 0, .i6 0] 28], [bx b2 #[nilS, nilS] 25], c1, c4] fr w := S
           refine dv_nx ⟨yl_ev rfl rfl (ev_load1 tu9 rfl rfl (box_ptr (cells := [.string y3.Key]) 1 rfl 0 rfl (lb rfl))) F S, yl_ev rfl rfl (ev_load1 tu23 rfl rfl (box_ptr (cells := [v4]) 3 rfl 1 rfl (lb rfl))) F S, trivial⟩ ?_
           refine dv_et ok2 11 rfl (ev_build (parts := [(0, .tmp 41), (1, .tmp 44)]) (vs := [(0, .string y3.Key), (1, v8)]) rfl (fun w => tb54_0_1 y3.Key v8 (OwnS.isSl h9) w)) F rfl fun a F=>?_
           refine dv_op ok2 12 rfl [(4, v4)] ?_
           replace S : St g9 [(c6 ++ []), [bx b7 #[.string y3.Key, .i6 y3.Column, v5, v6] 36], [bx b6 #[.string y3.Key, .i6 y3.Column, v5, v6] 36], [bx b5 #[v1, v4] 25], [bx b3 #[.i6 0, .i6 0] 28], [bx b2 #[nilS, nilS] 25], c1, c4] fr w := S.of_eq (by simp only [fl, List.append_assoc, List.append_nil, List.nil_append])
           refine wl_lit1N (p := ({ Key := y3.Key, Cells := y5 } : Row)) (wn rfl) rfl rfl tu23 te54 rfl rfl rfl (orep_Row_mk (x := ({ Key := y3.Key, Cells := y5 } : Row)) h9) F S rfl rfl ?_; clear F a S
           rintro v9 c7 a w h10 F S
           refine dv_nx ⟨yl_ev rfl rfl (ev_load1 tu23 rfl rfl (box_ptr (cells := [v4]) 3 rfl 1 rfl (lb rfl))) F S, trivial⟩ ?_
           refine dv_op ok2 13 rfl [] ?_
           replace S : St g9 [c4, c7, [bx b7 #[.string y3.Key, .i6 y3.Column, v5, v6] 36], [bx b6 #[.string y3.Key, .i6 y3.Column, v5, v6] 36], [bx b5 #[v1, v4] 25], [bx b3 #[.i6 0, .i6 0] 28], [bx b2 #[nilS, nilS] 25], c1] fr w := ((((((((S.frontC 6 rfl).frontC 6 rfl).frontC 6 rfl).frontC 6 rfl).frontC 6 rfl).frontC 6 rfl).frontC 6 rfl).frontC 14 rfl)
           obtain ⟨y6, hy6, hm⟩ := bind_some hm
           refine wl_call0 (wn rfl) rfl F rfl (slices_Insert_54N_ok (fr := (fl [[bx b7 #[.string y3.Key, .i6 y3.Column, v5, v6] 36], [bx b6 #[.string y3.Key, .i6 y3.Column, v5, v6] 36], [bx b5 #[v1, v4] 25], [bx b3 #[.i6 0, .i6 0] 28], [bx b2 #[nilS, nilS] 25], c1] fr)) x3 v4 c4 (h5.mono l9) y4.1 ([({ Key := y3.Key, Cells := y5 } : Row)] : List Row) v9 c7 h10 S hy6) rfl tc52 rfl rfl ?_; clear F a S
           rintro _ a w ⟨g10, v10, c8, l10, S, h11, rfl⟩ F; replace S : St g10 [c8, [bx b7 #[.string y3.Key, .i6 y3.Column, v5, v6] 36], [bx b6 #[.string y3.Key, .i6 y3.Column, v5, v6] 36], [bx b5 #[v1, v4] 25], [bx b3 #[.i6 0, .i6 0] 28], [bx b2 #[nilS, nilS] 25], c1] fr w := S
           refine dv_nx trivial ?_
           refine dv_et ok2 14 rfl (ev_nil rfl) F rfl fun a F=>?_
           refine dv_et ok2 15 rfl (ev_fieldAddr' tu25 tf25_1 (z := 0) ts23 rfl ⟨_, rfl⟩ rfl) F rfl fun a F=>?_
           refine dv_op ok2 16 rfl [] ?_
           refine wl_storeC (wn rfl) rfl F S rfl rfl (vs := [v10]) (OwnN.cl h11) ts23 (one_cons (OwnN.one h11) one_nil) (k := 3) rfl (lb rfl) (c' := #[v1, v10]) rfl rfl ?_; clear S; intro w S
           refine dv_nx trivial ?_
           refine dv_fin ok2 ?_
           refine then_n ?_
           refine wp_seq ?_
           refine wp_region_lit ?_
           refine wE (ev_assign rfl) F S rfl fun a F=>?_
           refine wpList_nil ?_
           refine then_n ?_
           refine wp_ret ?_
           refine then_r ?_
           refine post_r _ F rfl (ar_cons (resT rfl) ar_nil) ?_
           replace S : St g10 [[bx b5 #[v1, v10] 25], [bx b3 #[.i6 0, .i6 0] 28], [bx b2 #[nilS, nilS] 25], c1, c8] fr w := St.tail [[bx b5 #[v1, v10] 25], [bx b3 #[.i6 0, .i6 0] 28], [bx b2 #[nilS, nilS] 25], c1, c8] _ (((((S.frontC 0 rfl).frontC 7 rfl).frontC 7 rfl).frontC 7 rfl).frontC 7 rfl)
           exact ⟨_, rfl, ⟨0, y6, v10, c8, g10, rfl, (l9.trans l10), S, h11, hm⟩⟩
        ·refine wp_condF F rfl hc6 ?_
         refine wp_skip ?_
         refine then_n ?_
         refine wp_seq ?_
         refine wp_seq ?_
         refine wp_region_lit ?_
         refine wE (ev_move rfl) F S rfl fun a F=>?_
         refine wE (ev_not rfl) F S rfl fun a F=>?_
         refine wpList_nil ?_
         refine then_n ?_
         obtain ⟨hc9, hm⟩ | ⟨hc9, hm⟩ := ite_or hm
         ·refine wp_condT F rfl hc9 ?_
          refine wp_seq ?_
          refine wp_region_lit ?_
          refine wE (ev_assign rfl) F S rfl fun a F=>?_
          refine wpList_nil ?_
          refine then_n ?_
          refine wp_ret ?_
          refine then_r ?_
          refine post_r _ F rfl (ar_cons (resT rfl) ar_nil) ?_
          replace S : St g6 [[bx b5 #[v1, v4] 25], [bx b3 #[.i6 0, .i6 0] 28], [bx b2 #[nilS, nilS] 25], c1, c4] fr w := St.tail [[bx b5 #[v1, v4] 25], [bx b3 #[.i6 0, .i6 0] 28], [bx b2 #[nilS, nilS] 25], c1, c4] _ (((((S.frontC 6 rfl).frontC 6 rfl).frontC 6 rfl).frontC 6 rfl).frontC 6 rfl)
          exact ⟨_, rfl, ⟨6, x3, v4, c4, g6, rfl, (Le.refl _), S, h5, hm⟩⟩
         ·refine wp_condF F rfl hc9 ?_
          refine wp_skip ?_
          refine then_n ?_
          refine wp_seq ?_
          refine wp_region_lit ?_
          refine wE (ev_move rfl) F S rfl fun a F=>?_
          refine wE (ev_nil rfl) F S rfl fun a F=>?_
          refine wE (ev_fieldAddr' tu25 tf25_1 (z := 0) ts23 rfl ⟨_, rfl⟩ rfl) F S rfl fun a F=>?_
          refine wE (ev_load1 tu23 rfl rfl (box_ptr (cells := [v4]) 2 rfl 1 rfl (lb rfl))) F S rfl fun a F=>?_
          refine wE (ev_move rfl) F S rfl fun a F=>?_
          obtain ⟨y7, hy7, hm⟩ := bind_some hm
          refine wE (ev_idxN h5 hy7 tu23 ts54 rfl rfl) F S rfl fun a F=>?_
          refine wE (ev_fieldAddr' tu54 tf54_1 (z := 0) ts22 rfl (elemN_ptr h5 hy7) rfl) F S rfl fun a F=>?_
          replace S : St g6 [c4, [bx b7 #[.string y3.Key, .i6 y3.Column, v5, v6] 36], [bx b6 #[.string y3.Key, .i6 y3.Column, v5, v6] 36], [bx b5 #[v1, v4] 25], [bx b3 #[.i6 0, .i6 0] 28], [bx b2 #[nilS, nilS] 25], c1] fr w := (((((((S.frontC 5 rfl).frontC 5 rfl).frontC 5 rfl).frontC 5 rfl).frontC 5 rfl).frontC 5 rfl).frontC 12 rfl)
          obtain ⟨cs2, ca1, cr1, ci1, hH1, hR1, hP1⟩ := OwnN.hole h5 hy7
          replace S : St g6 [ca1, cr1, ci1, [bx b7 #[.string y3.Key, .i6 y3.Column, v5, v6] 36], [bx b6 #[.string y3.Key, .i6 y3.Column, v5, v6] 36], [bx b5 #[v1, v4] 25], [bx b3 #[.i6 0, .i6 0] 28], [bx b2 #[nilS, nilS] 25], c1] fr w := St.split3 hP1 S
          obtain ⟨v11, c9, rfl, rfl, h12⟩ := orep_Row hR1
          replace S : St g6 [ca1, cr1, c9, [bx b7 #[.string y3.Key, .i6 y3.Column, v5, v6] 36], [bx b6 #[.string y3.Key, .i6 y3.Column, v5, v6] 36], [bx b5 #[v1, v4] 25], [bx b3 #[.i6 0, .i6 0] 28], [bx b2 #[nilS, nilS] 25], c1] fr w := S.of_eq (by simp only [fl, List.append_assoc, List.append_nil, List.nil_append])
          refine wE (ev_load1 tu22 rfl rfl (fun w s => fieldP (cells := [v11]) 1 ((HoleN.ptr hH1 _ _ 0 rfl) w s) rfl (lb rfl))) F S rfl fun a F=>?_
          refine wE (ev_assign rfl) F S rfl fun a F=>?_
          refine wpList_nil ?_
          refine then_n ?_
          refine wp_seq ?_
          refine wp_seq ?_
          refine wp_region_lit ?_
          refine wE (ev_fieldAddr' tu36 tf36_1 (z := 0) ts3 rfl ⟨_, rfl⟩ rfl) F S rfl fun a F=>?_
          refine wE (ev_load1 tu3 rfl rfl (box_ptr (cells := [.i6 y3.Column]) 3 rfl 1 rfl (lb rfl))) F S rfl fun a F=>?_
          refine wE (ev_int rfl rfl (bo_eql _ _ _ _)) F S rfl fun a F=>?_
          refine wpList_nil ?_
          refine then_n ?_
          obtain ⟨hc10, hm⟩ | ⟨hc10, hm⟩ := ite_or hm
          ·refine wp_condT F rfl hc10 ?_
           refine wp_seq ?_
           refine wp_seq ?_
           refine wp_region_lit ?_
           refine wE (ev_move rfl) F S rfl fun a F=>?_
           refine wE (ev_fieldAddr' tu36 tf36_2 (z := 0) ts22 rfl ⟨_, rfl⟩ rfl) F S rfl fun a F=>?_
           refine wE (ev_load1 tu22 rfl rfl (box_ptr (cells := [v5]) 3 rfl 2 rfl (lb rfl))) F S rfl fun a F=>?_
           replace S : St g6 [c9, ca1, cr1, [bx b7 #[.string y3.Key, .i6 y3.Column, v5, v6] 36], [bx b6 #[.string y3.Key, .i6 y3.Column, v5, v6] 36], [bx b5 #[v1, v4] 25], [bx b3 #[.i6 0, .i6 0] 28], [bx b2 #[nilS, nilS] 25], c1] fr w := (((((((((S.frontC 8 rfl).frontC 8 rfl).frontC 8 rfl).frontC 8 rfl).frontC 8 rfl).frontC 8 rfl).frontC 7 rfl).frontC 7 rfl).frontC 10 rfl)
           obtain ⟨y8, hy8, hm⟩ := bind_some hm
           refine wl_call0 (wn rfl) rfl F rfl (lend (c := c9) (cks := [ca1, cr1, [bx b7 #[.string y3.Key, .i6 y3.Column, v5, v6] 36], [bx b6 #[.string y3.Key, .i6 y3.Column, v5, v6] 36], [bx b5 #[v1, v4] 25], [bx b3 #[.i6 0, .i6 0] 28], [bx b2 #[nilS, nilS] 25], c1]) S fun S hz => slices_Equal_ok (fr := fl [ca1, cr1, [bx b7 #[.string y3.Key, .i6 y3.Column, v5, v6] 36], [bx b6 #[.string y3.Key, .i6 y3.Column, v5, v6] 36], [bx b5 #[v1, v4] 25], [bx b3 #[.i6 0, .i6 0] 28], [bx b2 #[nilS, nilS] 25], c1] fr) y7.Cells v11 (OwnS.fz (Le.add _ _) hz h12) y3.Old v5 (RepSl.mono (Le.add _ _) h6) S hy8) rfl tc27 rfl rfl ?_; clear F a S
           rintro _ a w ⟨g11, l11, S, rfl⟩ F; replace S : St g11 [c9, ca1, cr1, [bx b7 #[.string y3.Key, .i6 y3.Column, v5, v6] 36], [bx b6 #[.string y3.Key, .i6 y3.Column, v5, v6] 36], [bx b5 #[v1, v4] 25], [bx b3 #[.i6 0, .i6 0] 28], [bx b2 #[nilS, nilS] 25], c1] fr w := S
           refine wE (ev_not rfl) F S rfl fun a F=>?_
           refine wpList_nil ?_
           refine then_n ?_
           obtain ⟨hc11, hm⟩ | ⟨hc11, hm⟩ := ite_or hm
           ·refine wp_condT F rfl hc11 ?_
            refine wp_seq ?_
            refine wp_region_lit ?_
            refine wE (ev_assign rfl) F S rfl fun a F=>?_
            refine wpList_nil ?_
            refine then_n ?_
            refine wp_ret ?_
            refine then_r ?_
            refine then_r ?_
            replace S : St g11 [ca1, cr1, c9, [bx b7 #[.string y3.Key, .i6 y3.Column, v5, v6] 36], [bx b6 #[.string y3.Key, .i6 y3.Column, v5, v6] 36], [bx b5 #[v1, v4] 25], [bx b3 #[.i6 0, .i6 0] 28], [bx b2 #[nilS, nilS] 25], c1] fr w := (((((((((S.frontC 8 rfl).frontC 8 rfl).frontC 8 rfl).frontC 8 rfl).frontC 8 rfl).frontC 8 rfl).frontC 6 rfl).frontC 9 rfl).frontC 9 rfl)
            have h13 : OwnN g11 x3 v4 (ca1 ++ (cr1 ++ (c9 ++ []))) := HoleN.shut0 (hH1.mono l11) hy7 (orep_Row_mk (x := y7) (h12.mono l11))
            replace S : St g11 [(ca1 ++ (cr1 ++ (c9 ++ []))), [bx b7 #[.string y3.Key, .i6 y3.Column, v5, v6] 36], [bx b6 #[.string y3.Key, .i6 y3.Column, v5, v6] 36], [bx b5 #[v1, v4] 25], [bx b3 #[.i6 0, .i6 0] 28], [bx b2 #[nilS, nilS] 25], c1] fr w := S.of_eq (by simp only [fl, List.append_assoc, List.append_nil, List.nil_append])
            generalize (ca1 ++ (cr1 ++ (c9 ++ []))) = c10 at S h13
            replace F := F.sub (e' := [(4, .i6 19), (67, .bool !y8), (66, .bool y8), (65, v5), (64, bp b7 2), (62, .bool (decide (y3.Column = (-1)))), (61, .i6 y3.Column), (60, bp b7 1), (58, addP (elemP v4 y4.1 2) 1), (57, elemP v4 y4.1 2), (56, .i6 y4.1), (55, v4), (54, bp b5 1), (53, bp b5 0), (52, bp b5 0), (51, .bool !y4.2), (50, .bool y4.2), (26, .bool x7), (6, .bool y4.2), (5, .i6 y4.1), (2, bp b7 0), (1, bp b5 0)]) ⟨rfl, rfl, rfl, rfl, rfl, rfl, rfl, rfl, rfl, rfl, rfl, rfl, rfl, rfl, rfl, rfl, rfl, rfl, rfl, rfl, rfl, rfl, trivial⟩
            refine post_r _ F rfl (ar_cons (resT rfl) ar_nil) ?_
            replace S : St g11 [[bx b5 #[v1, v4] 25], [bx b3 #[.i6 0, .i6 0] 28], [bx b2 #[nilS, nilS] 25], c1, c10] fr w := St.tail [[bx b5 #[v1, v4] 25], [bx b3 #[.i6 0, .i6 0] 28], [bx b2 #[nilS, nilS] 25], c1, c10] _ (((((S.frontC 0 rfl).frontC 7 rfl).frontC 7 rfl).frontC 7 rfl).frontC 7 rfl)
            exact ⟨_, rfl, ⟨19, x3, v4, c10, g11, rfl, l11, S, h13, hm⟩⟩
           ·refine wp_condF F rfl hc11 ?_
            refine wp_skip ?_
            refine then_n ?_
            refine wp_seq ?_
            refine wp_region_lit ?_
            refine wE (ev_move rfl) F S rfl fun a F=>?_
            refine wE (ev_move rfl) F S rfl fun a F=>?_
            refine wE (ev_nil rfl) F S rfl fun a F=>?_
            refine wE (ev_fieldAddr' tu25 tf25_1 (z := 0) ts23 rfl ⟨_, rfl⟩ rfl) F S rfl fun a F=>?_
            refine wE (ev_load1 tu23 rfl rfl (box_ptr (cells := [v4]) 5 rfl 1 rfl (lb rfl))) F S rfl fun a F=>?_
            refine wE (ev_move rfl) F S rfl fun a F=>?_
            refine wE (ev_move rfl) F S rfl fun a F=>?_
            obtain ⟨z2, hz2, hm⟩ := bind_some hm
            refine wE (ev_int rfl rfl (bo_add hz2)) F S rfl fun a F=>?_
            replace S : St g11 [ca1, cr1, c9, [bx b7 #[.string y3.Key, .i6 y3.Column, v5, v6] 36], [bx b6 #[.string y3.Key, .i6 y3.Column, v5, v6] 36], [bx b5 #[v1, v4] 25], [bx b3 #[.i6 0, .i6 0] 28], [bx b2 #[nilS, nilS] 25], c1] fr w := (((((((((S.frontC 8 rfl).frontC 8 rfl).frontC 8 rfl).frontC 8 rfl).frontC 8 rfl).frontC 8 rfl).frontC 6 rfl).frontC 9 rfl).frontC 9 rfl)
            have h14 : OwnN g11 x3 v4 (ca1 ++ (cr1 ++ (c9 ++ []))) := HoleN.shut0 (hH1.mono l11) hy7 (orep_Row_mk (x := y7) (h12.mono l11))
            replace S : St g11 [(ca1 ++ (cr1 ++ (c9 ++ []))), [bx b7 #[.string y3.Key, .i6 y3.Column, v5, v6] 36], [bx b6 #[.string y3.Key, .i6 y3.Column, v5, v6] 36], [bx b5 #[v1, v4] 25], [bx b3 #[.i6 0, .i6 0] 28], [bx b2 #[nilS, nilS] 25], c1] fr w := S.of_eq (by simp only [fl, List.append_assoc, List.append_nil, List.nil_append])
            generalize (ca1 ++ (cr1 ++ (c9 ++ []))) = c11 at S h14
            replace F := F.sub (e' := [(75, .i6 z2), (74, .i6 y4.1), (73, .i6 y4.1), (72, v4), (71, bp b5 1), (70, bp b5 0), (69, bp b5 0), (68, bp b5 0), (67, .bool !y8), (66, .bool y8), (65, v5), (64, bp b7 2), (62, .bool (decide (y3.Column = (-1)))), (61, .i6 y3.Column), (60, bp b7 1), (58, addP (elemP v4 y4.1 2) 1), (57, elemP v4 y4.1 2), (56, .i6 y4.1), (55, v4), (54, bp b5 1), (53, bp b5 0), (52, bp b5 0), (51, .bool !y4.2), (50, .bool y4.2), (26, .bool x7), (6, .bool y4.2), (5, .i6 y4.1), (2, bp b7 0), (1, bp b5 0)]) ⟨rfl, rfl, rfl, rfl, rfl, rfl, rfl, rfl, rfl, rfl, rfl, rfl, rfl, rfl, rfl, rfl, rfl, rfl, rfl, rfl, rfl, rfl, rfl, rfl, rfl, rfl, rfl, rfl, rfl, trivial⟩
            obtain ⟨y9, hy9, hm⟩ := bind_some hm
            refine wl_call0 (wn rfl) rfl F rfl (slices_Delete_54N_ok (fr := (fl [[bx b7 #[.string y3.Key, .i6 y3.Column, v5, v6] 36], [bx b6 #[.string y3.Key, .i6 y3.Column, v5, v6] 36], [bx b5 #[v1, v4] 25], [bx b3 #[.i6 0, .i6 0] 28], [bx b2 #[nilS, nilS] 25], c1] fr)) x3 v4 c11 h14 y4.1 z2 S hy9) rfl tc53 rfl rfl ?_; clear F a S
            rintro _ a w ⟨g12, v12, c12, l12, S, h15, rfl⟩ F; replace S : St g12 [c12, [bx b7 #[.string y3.Key, .i6 y3.Column, v5, v6] 36], [bx b6 #[.string y3.Key, .i6 y3.Column, v5, v6] 36], [bx b5 #[v1, v4] 25], [bx b3 #[.i6 0, .i6 0] 28], [bx b2 #[nilS, nilS] 25], c1] fr w := S
            refine wE (ev_nil rfl) F S rfl fun a F=>?_
            refine wE (ev_fieldAddr' tu25 tf25_1 (z := 0) ts23 rfl ⟨_, rfl⟩ rfl) F S rfl fun a F=>?_
            refine wl_storeC (wn rfl) rfl F S rfl rfl (vs := [v12]) (OwnN.cl h15) ts23 (one_cons (OwnN.one h15) one_nil) (k := 3) rfl (lb rfl) (c' := #[v1, v12]) rfl rfl ?_; clear S; intro w S
            refine wpList_nil ?_
            refine then_n ?_
            refine wp_seq ?_
            refine wp_region_lit ?_
            refine wE (ev_assign rfl) F S rfl fun a F=>?_
            refine wpList_nil ?_
            refine then_n ?_
            refine wp_ret ?_
            refine then_r ?_
            refine post_r _ F rfl (ar_cons (resT rfl) ar_nil) ?_
            replace S : St g12 [[bx b5 #[v1, v12] 25], [bx b3 #[.i6 0, .i6 0] 28], [bx b2 #[nilS, nilS] 25], c1, c12] fr w := St.tail [[bx b5 #[v1, v12] 25], [bx b3 #[.i6 0, .i6 0] 28], [bx b2 #[nilS, nilS] 25], c1, c12] _ (((((S.frontC 0 rfl).frontC 7 rfl).frontC 7 rfl).frontC 7 rfl).frontC 7 rfl)
            exact ⟨_, rfl, ⟨0, y9, v12, c12, g12, rfl, (l11.trans l12), S, h15, hm⟩⟩
          ·refine wp_condF F rfl hc10 ?_
           refine wp_skip ?_
           refine then_n ?_
           refine wp_seq ?_
           refine wp_seq ?_
           refine wp_quiet mo (by kernel_rfl) S ?_
           refine wq_ev (wn rfl) (ev_move rfl) F rfl rfl ?_; clear F a; intro a F
           refine wq_ev (wn rfl) (ev_fieldAddr' tu36 tf36_1 (z := 0) ts3 rfl ⟨_, rfl⟩ rfl) F rfl rfl ?_; clear F a; intro a F
           refine wq_ev (wn rfl) (ev_load1 tu3 rfl rfl (box_ptr (cells := [.i6 y3.Column]) 3 rfl 1 rfl (lb rfl))) F rfl rfl ?_; clear F a; intro a F
           obtain ⟨y10, hy10, hm⟩ := bind_some hm
           refine wq_ev (wn rfl) (ev_idxO h12 hy10 tu22 ts9 rfl rfl) F rfl rfl ?_; clear F a; intro a F
           obtain ⟨cs3, hr3, hq1⟩ := elemO h12 hy10
           obtain rfl := rep_str hr3
           refine wq_ev (wn rfl) (ev_load1 tu9 rfl rfl (hq1 _ _ 2 rfl)) F rfl rfl ?_; clear F a; intro a F
           refine wq_ev (wn rfl) (ev_fieldAddr' tu36 tf36_2 (z := 0) ts22 rfl ⟨_, rfl⟩ rfl) F rfl rfl ?_; clear F a; intro a F
           refine wq_ev (wn rfl) (ev_load1 tu22 rfl rfl (box_ptr (cells := [v5]) 3 rfl 2 rfl (lb rfl))) F rfl rfl ?_; clear F a; intro a F
           obtain ⟨y11, hy11, hm⟩ := bind_some hm
           obtain ⟨cs4, hr4, hp2⟩ := elemS h6 hy11
           obtain rfl := rep_str hr4
           refine wq_ev (wn rfl) (ev_idxS h6 hy11 tu22 ts9 rfl rfl) F rfl rfl ?_; clear F a; intro a F
           refine wq_ev (wn rfl) (ev_load1 tu9 rfl rfl (ptr_mono (cks := [ca1, cr1, c9, [bx b7 #[.string y3.Key, .i6 y3.Column, v5, v6] 36], [bx b6 #[.string y3.Key, .i6 y3.Column, v5, v6] 36], [bx b5 #[v1, v4] 25], [bx b3 #[.i6 0, .i6 0] 28], [bx b2 #[nilS, nilS] 25], c1]) (fr := fr) hp2 (Le.refl _))) F rfl rfl ?_; clear F a; intro a F
           refine wq_ev (wn rfl) (ev_str rfl rfl (bs_neq _ _ _)) F rfl rfl ?_; clear F a; intro a F
           refine wq_nil ?_; clear S; intro w S
           refine then_n ?_
           obtain ⟨hc12, hm⟩ | ⟨hc12, hm⟩ := ite_or hm
           ·refine wp_condT F rfl hc12 ?_
            refine wp_seq ?_
            refine wp_region_lit ?_
            refine wE (ev_assign rfl) F S rfl fun a F=>?_
            refine wpList_nil ?_
            refine then_n ?_
            refine wp_ret ?_
            refine then_r ?_
            have h16 : OwnN g6 x3 v4 (ca1 ++ (cr1 ++ (c9 ++ []))) := HoleN.shut0 hH1 hy7 (orep_Row_mk (x := y7) h12)
            replace S : St g6 [(ca1 ++ (cr1 ++ (c9 ++ []))), [bx b7 #[.string y3.Key, .i6 y3.Column, v5, v6] 36], [bx b6 #[.string y3.Key, .i6 y3.Column, v5, v6] 36], [bx b5 #[v1, v4] 25], [bx b3 #[.i6 0, .i6 0] 28], [bx b2 #[nilS, nilS] 25], c1] fr w := S.of_eq (by simp only [fl, List.append_assoc, List.append_nil, List.nil_append])
            generalize (ca1 ++ (cr1 ++ (c9 ++ []))) = c13 at S h16
            replace F := F.sub (e' := [(4, .i6 19), (88, .bool (!decide (y10 = y11))), (87, .string y11), (86, (elemP v5 0 1)), (85, v5), (84, bp b7 2), (83, .string y10), (81, .i6 y3.Column), (80, bp b7 1), (62, .bool (decide (y3.Column = (-1)))), (61, .i6 y3.Column), (60, bp b7 1), (58, addP (elemP v4 y4.1 2) 1), (57, elemP v4 y4.1 2), (56, .i6 y4.1), (55, v4), (54, bp b5 1), (53, bp b5 0), (52, bp b5 0), (51, .bool !y4.2), (50, .bool y4.2), (26, .bool x7), (6, .bool y4.2), (5, .i6 y4.1), (2, bp b7 0), (1, bp b5 0)]) ⟨rfl, rfl, rfl, rfl, rfl, rfl, rfl, rfl, rfl, rfl, rfl, rfl, rfl, rfl, rfl, rfl, rfl, rfl, rfl, rfl, rfl, rfl, rfl, rfl, rfl, rfl, trivial⟩
            refine post_r _ F rfl (ar_cons (resT rfl) ar_nil) ?_
            replace S : St g6 [[bx b5 #[v1, v4] 25], [bx b3 #[.i6 0, .i6 0] 28], [bx b2 #[nilS, nilS] 25], c1, c13] fr w := St.tail [[bx b5 #[v1, v4] 25], [bx b3 #[.i6 0, .i6 0] 28], [bx b2 #[nilS, nilS] 25], c1, c13] _ (((((S.frontC 0 rfl).frontC 7 rfl).frontC 7 rfl).frontC 7 rfl).frontC 7 rfl)
            exact ⟨_, rfl, ⟨19, x3, v4, c13, g6, rfl, (Le.refl _), S, h16, hm⟩⟩
           ·refine wp_condF F rfl hc12 ?_
            refine wp_skip ?_
            refine then_n ?_
            refine wp_seq ?_
            refine wp_dv [] mo S ?_; clear S; intro ok3 w S
            refine dv_et ok3 0 rfl (ev_move rfl) F rfl fun a F=>?_
            refine dv_et ok3 1 rfl (ev_fieldAddr' tu36 tf36_1 (z := 0) ts3 rfl ⟨_, rfl⟩ rfl) F rfl fun a F=>?_
            refine dv_ev ok3 2 rfl (ev_load1 tu3 rfl rfl (box_ptr (cells := [.i6 y3.Column]) 3 rfl 1 rfl (lb rfl))) F S rfl fun a F=>?_
            refine dv_et ok3 3 rfl (ev_fieldAddr' tu36 tf36_3 (z := 0) ts22 rfl ⟨_, rfl⟩ rfl) F rfl fun a F=>?_
            refine dv_ev ok3 4 rfl (ev_load1 tu22 rfl rfl (box_ptr (cells := [v6]) 3 rfl 3 rfl (lb rfl))) F S rfl fun a F=>?_
            obtain ⟨y12, hy12, hm⟩ := bind_some hm
            obtain ⟨cs5, hr5, hp3⟩ := elemS h7 hy12
            obtain rfl := rep_str hr5
            refine dv_et ok3 5 rfl (ev_idxS h7 hy12 tu22 ts9 rfl rfl) F rfl fun a F=>?_
            refine dv_ev ok3 6 rfl (ev_load1 tu9 rfl rfl (ptr_mono (cks := [ca1, cr1, c9, [bx b7 #[.string y3.Key, .i6 y3.Column, v5, v6] 36], [bx b6 #[.string y3.Key, .i6 y3.Column, v5, v6] 36], [bx b5 #[v1, v4] 25], [bx b3 #[.i6 0, .i6 0] 28], [bx b2 #[nilS, nilS] 25], c1]) (fr := fr) hp3 (Le.refl _))) F S rfl fun a F=>?_
            obtain ⟨y13, hy13, hm⟩ := bind_some hm
            refine dv_et ok3 7 rfl (ev_idxO h12 hy13 tu22 ts9 rfl rfl) F rfl fun a F=>?_
            refine dv_op ok3 8 rfl [] ?_
            obtain ⟨y14, hy14, hm⟩ := bind_some hm
            refine wl_storeW (z' := y12) (wn rfl) rfl F S h12 hy13 rfl rfl (us := [.string y12]) rfl ts9 (one_cons rfl one_nil) (k := 2) rfl rfl (show Rep.rep _ y12 _ from rfl) rfl ?_; clear S
            rintro c14 w h17 S; replace S : St g6 [ca1, cr1, c14, [bx b7 #[.string y3.Key, .i6 y3.Column, v5, v6] 36], [bx b6 #[.string y3.Key, .i6 y3.Column, v5, v6] 36], [bx b5 #[v1, v4] 25], [bx b3 #[.i6 0, .i6 0] 28], [bx b2 #[nilS, nilS] 25], c1] fr w := S; replace h17 : OwnS g6 y14 v11 c14 := sinj hy14 ▸ h17
            refine dv_nx trivial ?_
            refine dv_fin ok3 ?_
            refine then_n ?_
            refine wp_seq ?_
            refine wp_region_lit ?_
            refine wE (ev_assign rfl) F S rfl fun a F=>?_
            refine wpList_nil ?_
            refine then_n ?_
            refine wp_ret ?_
            obtain ⟨y15, hy15, hm⟩ := bind_some hm
            have h18 := HoleN.shut hH1 (orep_Row_mk (x := ({ Key := y7.Key, Cells := y14 } : Row)) h17); replace h18 : OwnN g6 y15 v4 (ca1 ++ (cr1 ++ (c14 ++ []))) := sinj hy15 ▸ h18
            replace S : St g6 [(ca1 ++ (cr1 ++ (c14 ++ []))), [bx b7 #[.string y3.Key, .i6 y3.Column, v5, v6] 36], [bx b6 #[.string y3.Key, .i6 y3.Column, v5, v6] 36], [bx b5 #[v1, v4] 25], [bx b3 #[.i6 0, .i6 0] 28], [bx b2 #[nilS, nilS] 25], c1] fr w := S.of_eq (by simp only [fl, List.append_assoc, List.append_nil, List.nil_append])
            generalize (ca1 ++ (cr1 ++ (c14 ++ []))) = c15 at S h18
            replace F := F.sub (e' := [(4, .i6 0), (95, .string y12), (94, (elemP v6 0 1)), (93, v6), (92, bp b7 3), (91, .i6 y3.Column), (90, bp b7 1), (88, .bool (!decide (y10 = y11))), (87, .string y11), (86, (elemP v5 0 1)), (85, v5), (84, bp b7 2), (83, .string y10), (81, .i6 y3.Column), (80, bp b7 1), (62, .bool (decide (y3.Column = (-1)))), (61, .i6 y3.Column), (60, bp b7 1), (58, addP (elemP v4 y4.1 2) 1), (57, elemP v4 y4.1 2), (56, .i6 y4.1), (55, v4), (54, bp b5 1), (53, bp b5 0), (52, bp b5 0), (51, .bool !y4.2), (50, .bool y4.2), (26, .bool x7), (6, .bool y4.2), (5, .i6 y4.1), (2, bp b7 0), (1, bp b5 0)]) ⟨rfl, rfl, rfl, rfl, rfl, rfl, rfl, rfl, rfl, rfl, rfl, rfl, rfl, rfl, rfl, rfl, rfl, rfl, rfl, rfl, rfl, rfl, rfl, rfl, rfl, rfl, rfl, rfl, rfl, rfl, rfl, rfl, trivial⟩
            refine post_r _ F rfl (ar_cons (resT rfl) ar_nil) ?_
            replace S : St g6 [[bx b5 #[v1, v4] 25], [bx b3 #[.i6 0, .i6 0] 28], [bx b2 #[nilS, nilS] 25], c1, c15] fr w := St.tail [[bx b5 #[v1, v4] 25], [bx b3 #[.i6 0, .i6 0] 28], [bx b2 #[nilS, nilS] 25], c1, c15] _ (((((S.frontC 0 rfl).frontC 7 rfl).frontC 7 rfl).frontC 7 rfl).frontC 7 rfl)
            exact ⟨_, rfl, ⟨0, y15, v4, c15, g6, rfl, (Le.refl _), S, h18, hm⟩⟩
       ·clear F S hm; rintro _ a w ⟨x5, x6, v7, c5, g7, rfl, l7, S, h8, hm⟩ F
        replace F := F.sub (e' := [(57, .i6 x5), (11, .i6 x2), (51, .i6 x2), (50, .i6 (changes.length : Int)), (49, vchanges1), (10, bp b5 0), (5, bp b3 0), (4, bp b2 0)]) ⟨rfl, rfl, rfl, rfl, rfl, rfl, rfl, rfl, trivial⟩
        refine wE (ev_assign rfl) F S rfl fun a F=>?_
        refine wpList_nil ?_
        refine then_n ?_
        refine wp_seq ?_
        refine wp_region_lit ?_
        refine wE (ev_move rfl) F S rfl fun a F=>?_
        refine wE (ev_int rfl rfl (bo_neq _ _ _ _)) F S rfl fun a F=>?_
        refine wpList_nil ?_
        refine then_n ?_
        obtain ⟨hc4, hm⟩ | ⟨hc4, hm⟩ := ite_or hm
        ·refine wp_condT F rfl hc4 ?_
         refine wp_seq ?_
         refine wp_region_lit ?_
         refine wE (ev_build (parts := []) (vs := []) rfl (fun w => tb25_  w)) F S rfl fun a F=>?_
         refine wE (ev_move rfl) F S rfl fun a F=>?_
         refine wE (ev_move rfl) F S rfl fun a F=>?_
         refine wE (ev_build (parts := [(0, .tmp 61), (1, .tmp 62)]) (vs := [(0, .i6 x5), (1, .i6 x2)]) rfl (fun w => tb28_0_1 x5 x2 w)) F S rfl fun a F=>?_
         refine wl_storeC (wn rfl) rfl F S rfl rfl (vs := [nilS, nilS]) rfl ts25 (one_cons rfl (one_cons rfl one_nil)) (k := 2) rfl (lb rfl) (c' := #[nilS, nilS]) rfl rfl ?_; clear S; intro w S
         refine wl_storeC (wn rfl) rfl F S rfl rfl (vs := [.i6 x5, .i6 x2]) rfl ts28 (one_cons rfl (one_cons rfl one_nil)) (k := 1) rfl (lb rfl) (c' := #[.i6 x5, .i6 x2]) rfl rfl ?_; clear S; intro w S
         refine wpList_nil ?_
         refine then_n ?_
         refine wp_ret ?_
         refine inb_r ?_
         refine then_r ?_
         refine then_r ?_
         refine inb_r ?_
         refine then_r ?_
         obtain rfl := sinj hm
         obtain rfl := hfin1 _ rfl
         clear hm
         have hm : (some (({ Columns := [], Rows := [] } : Table), ({ Code := x5, Index := x2 } : Fault)) : Option (Table × Fault)) = some _ := hmo1
         obtain rfl := sinj hm
         replace S : St g7 [[], [bx b5 #[v1, v7] 25], [bx b3 #[.i6 x5, .i6 x2] 28], [bx b2 #[nilS, nilS] 25], c1, c5] fr w := S
         refine post_r _ F rfl (ar_cons (resA rfl tu25 rfl (box_ptr (cells := [nilS, nilS]) 3 rfl 0 rfl (lb rfl) w S) ts25) (ar_cons (resA rfl tu28 rfl (box_ptr (cells := [.i6 x5, .i6 x2]) 2 rfl 0 rfl (lb rfl) w S) ts28) ar_nil)) ?_
         replace S : St g7 [[]] fr w := St.tail [[]] _ (S.frontC 0 rfl)
         exact ⟨_, rfl, g7, (nilS), (nilS), [], ((((l1.trans l2).trans l3).trans l6).trans l7), S, (OwnS.nil _), (RepSl.nil _), rfl⟩
        ·refine wp_condF F rfl hc4 ?_
         refine wp_skip ?_
         refine inb_n ?_
         refine then_n ?_
         refine wp_region_lit ?_
         obtain ⟨z1, hz1, hm⟩ := bind_some hm
         refine wE (ev_int rfl rfl (bo_add hz1)) F S rfl fun a F=>?_
         refine wE (ev_move rfl) F S rfl fun a F=>?_
         refine wpList_nil ?_
         refine then_n ?_
         obtain rfl := sinj hm
         refine ⟨_, rfl, ?_⟩
         dsimp only
         exact ⟨v7, c5, g7, F.sub ⟨rfl, rfl, rfl, rfl, rfl, rfl, trivial⟩, (l6.trans l7), S, h8⟩
      ·refine wp_condF F rfl hc3 ?_
       refine wp_exit ?_
       refine then_e ?_
       refine then_e ?_
       refine inb_x ?_
       refine then_n ?_
       obtain rfl := sinj hm
       obtain rfl := hfin1 _ rfl
       clear hm
       have hm : (tablepatch_Apply.j2 y2 x3 : Option (Table × Fault)) = some _ := hmo1
       exact ⟨x3, v4, c4, g6, F.sub ⟨rfl, rfl, rfl, trivial⟩, l6, S, h5, hm⟩
    ·clear F S hm; rintro a w ⟨x1, v3, c3, g4, F, l4, S, h3, hm⟩
     refine wp_seq ?_
     refine wp_region_lit ?_
     refine wE (ev_loadA tu25 rfl (cs := [v1, v3]) ts25 rfl (box_ptr (cells := [v1, v3]) 0 rfl 0 rfl (lb rfl))) F S rfl fun a F=>?_
     refine wE (ev_build (parts := []) (vs := []) rfl (fun w => tb28_  w)) F S rfl fun a F=>?_
     refine wl_storeC (wn rfl) rfl F S rfl rfl (vs := [v1, v3]) rfl ts25 (one_cons (OwnS.one h1) (one_cons (OwnN.one h3) one_nil)) (k := 2) rfl (lb rfl) (c' := #[v1, v3]) rfl rfl ?_; clear S; intro w S
     refine wl_storeC (wn rfl) rfl F S rfl rfl (vs := [.i6 0, .i6 0]) rfl ts28 (one_cons rfl (one_cons rfl one_nil)) (k := 1) rfl (lb rfl) (c' := #[.i6 0, .i6 0]) rfl rfl ?_; clear S; intro w S
     refine wpList_nil ?_
     refine then_n ?_
     refine wp_ret ?_
     obtain rfl := sinj hm
     obtain ⟨g5, l5, S, h4⟩ : ∃ gz, Le g4 gz ∧ St gz [[bx b5 #[v1, v3] 25], [bx b3 #[.i6 0, .i6 0] 28], [bx b2 #[v1, v3] 25], c1] fr w ∧ RepSl gz x1 v3 := ⟨_, Le.add _ _, S.freeze 4 rfl, OwnN.freeze (S.front 4 rfl) h3⟩
     refine post_r _ F rfl (ar_cons (resA rfl tu25 rfl (box_ptr (cells := [v1, v3]) 2 rfl 0 rfl (lb rfl) w S) ts25) (ar_cons (resA rfl tu28 rfl (box_ptr (cells := [.i6 0, .i6 0]) 1 rfl 0 rfl (lb rfl) w S) ts28) ar_nil)) ?_
     replace S : St g5 [c1] fr w := St.tail [c1] _ (S.frontC 3 rfl)
     exact ⟨_, rfl, g5, v1, v3, c1, ((((l1.trans l2).trans l3).trans l4).trans l5), S, (h1.mono (l4.trans l5)), h4, rfl⟩
end Go.Dc
