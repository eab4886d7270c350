/- Walks: each function comes to what its model says. -/
import Derived.Test.YthknfnjdnclphaaDcTab
import Derived.Test.YthknfnjdnclphaaDcM
import Derived.Test.YthknfnjdnclphaaDcW3
import Derived.Test.YthknfnjdnclphaaDcW6
namespace Go.Dc
open Go Go.Proofs
set_option maxRecDepth 100000
set_option maxHeartbeats 4000000
set_option linter.unusedVariables false
theorem changeforgelaw2_TablepatchMergeSymmetric_ok {g : Gh} {fr : Hl} {w : World} {r : Bool} (base : Table) (vbase1 : Value) (hbase1 : RepSl g base.Columns vbase1) (vbase2 : Value) (hbase2 : RepSl g base.Rows vbase2) (left : Table) (vleft1 : Value) (hleft1 : RepSl g left.Columns vleft1) (vleft2 : Value) (hleft2 : RepSl g left.Rows vleft2) (right : Table) (vright1 : Value) (hright1 : RepSl g right.Columns vright1) (vright2 : Value) (hright2 : RepSl g right.Rows vright2) (S : St g [] fr w) (hm : changeforgelaw2_TablepatchMergeSymmetric base left right = some r) :
  Calls Try.prog 4 [.agg #[vbase1, vbase2], .agg #[vleft1, vleft2], .agg #[vright1, vright2]].toArray w (fun en w' => ∃ v, en = .returned v ∧ ∃ (g' : Gh), Le g g' ∧ St g' [] fr w' ∧ .bool r = v) := by
 unfold changeforgelaw2_TablepatchMergeSymmetric at hm
 refine calls_enter (fn := Try.f4) Try.func4 rfl Try.ntmps4 (lb rfl) ?_
 intro a F
 replace F : Fr 113 a [(0, .agg #[vbase1, vbase2]), (1, .agg #[vleft1, vleft2]), (2, .agg #[vright1, vright2])] := F
 refine wp_seq ?_
 refine wp_region_lit ?_
 refine wl_boxC (wn rfl) rfl rfl rfl F S rfl rfl ?_; clear F a S; rintro b1 a w F S
 refine wl_boxC (wn rfl) rfl rfl rfl F S rfl rfl ?_; clear F a S; rintro b2 a w F S
 refine wl_boxC (wn rfl) rfl rfl rfl F S rfl rfl ?_; clear F a S; rintro b3 a w F S
 refine wE (ev_assign rfl) F S rfl fun a F=>?_
 refine wpList_nil ?_
 refine then_n ?_
 refine wp_seq ?_
 refine wp_region_lit ?_
 refine wE (ev_loadA tu25 rfl (cs := [vbase1, vbase2]) ts25 rfl (box_ptr (cells := [vbase1, vbase2]) 2 rfl 0 rfl (lb rfl))) F S rfl fun a F=>?_
 refine wE (ev_loadA tu25 rfl (cs := [vleft1, vleft2]) ts25 rfl (box_ptr (cells := [vleft1, vleft2]) 1 rfl 0 rfl (lb rfl))) F S rfl fun a F=>?_
 refine wE (ev_loadA tu25 rfl (cs := [vright1, vright2]) ts25 rfl (box_ptr (cells := [vright1, vright2]) 0 rfl 0 rfl (lb rfl))) F S rfl fun a F=>?_
 obtain ⟨y1, hy1, hm⟩ := bind_some hm
 refine wl_call0 (wn rfl) rfl F rfl (tablepatch_Merge_ok (fr := (fl [[bx b3 #[vright1, vright2] 25], [bx b2 #[vleft1, vleft2] 25], [bx b1 #[vbase1, vbase2] 25]] fr)) base vbase1 hbase1 vbase2 hbase2 left vleft1 hleft1 vleft2 hleft2 right vright1 hright1 vright2 hright2 S hy1) rfl tc10 rfl rfl ?_; clear F a S
 rintro _ a w ⟨g1, v1, v2, v3, c1, c2, c3, l1, S, h1, h2, h3, rfl⟩ F; replace S : St g1 [c1, c2, c3, [bx b3 #[vright1, vright2] 25], [bx b2 #[vleft1, vleft2] 25], [bx b1 #[vbase1, vbase2] 25]] fr w := S
 refine wE (ev_move rfl) F S rfl fun a F=>?_
 refine wE (ev_extract rfl rfl) F S rfl fun a F=>?_
 refine wE (ev_extract rfl rfl) F S rfl fun a F=>?_
 refine wE (ev_extract rfl rfl) F S rfl fun a F=>?_
 refine wl_alloc (wn rfl) rfl tz25 (cs := [nilS, nilS]) rfl F S rfl rfl ?_; clear F a S; rintro b4 a w F S
 refine wl_alloc (wn rfl) rfl tz28 (cs := [.i6 0, .i6 0]) rfl F S rfl rfl ?_; clear F a S; rintro b5 a w F S
 refine wl_storeC (wn rfl) rfl F S rfl rfl (vs := [v1, v2]) rfl ts25 (one_cons (OwnS.one h1) (one_cons (OwnS.one h2) one_nil)) (k := 1) rfl (lb rfl) (c' := #[v1, v2]) rfl rfl ?_; clear S; intro w S
 refine wE (ev_assign rfl) F S rfl fun a F=>?_
 refine wl_storeC (wn rfl) rfl F S rfl rfl (vs := [.i6 y1.2.2.Code, .i6 y1.2.2.Index]) rfl ts28 (one_cons rfl (one_cons rfl one_nil)) (k := 0) rfl (lb rfl) (c' := #[.i6 y1.2.2.Code, .i6 y1.2.2.Index]) rfl rfl ?_; clear S; intro w S
 refine wpList_nil ?_
 refine then_n ?_
 refine wp_seq ?_
 refine wp_region_lit ?_
 refine wE (ev_loadA tu25 rfl (cs := [vbase1, vbase2]) ts25 rfl (box_ptr (cells := [vbase1, vbase2]) 7 rfl 0 rfl (lb rfl))) F S rfl fun a F=>?_
 refine wE (ev_loadA tu25 rfl (cs := [vright1, vright2]) ts25 rfl (box_ptr (cells := [vright1, vright2]) 5 rfl 0 rfl (lb rfl))) F S rfl fun a F=>?_
 refine wE (ev_loadA tu25 rfl (cs := [vleft1, vleft2]) ts25 rfl (box_ptr (cells := [vleft1, vleft2]) 6 rfl 0 rfl (lb rfl))) F S rfl fun a F=>?_
 obtain ⟨y2, hy2, hm⟩ := bind_some hm
 refine wl_call0 (wn rfl) rfl F rfl (tablepatch_Merge_ok (fr := (fl [[bx b5 #[.i6 y1.2.2.Code, .i6 y1.2.2.Index] 28], [bx b4 #[v1, v2] 25], c1, c2, c3, [bx b3 #[vright1, vright2] 25], [bx b2 #[vleft1, vleft2] 25], [bx b1 #[vbase1, vbase2] 25]] fr)) base vbase1 (hbase1.mono l1) vbase2 (hbase2.mono l1) right vright1 (hright1.mono l1) vright2 (hright2.mono l1) left vleft1 (hleft1.mono l1) vleft2 (hleft2.mono l1) S hy2) rfl tc10 rfl rfl ?_; clear F a S
 rintro _ a w ⟨g2, v4, v5, v6, c4, c5, c6, l2, S, h4, h5, h6, rfl⟩ F; replace S : St g2 [c4, c5, c6, [bx b5 #[.i6 y1.2.2.Code, .i6 y1.2.2.Index] 28], [bx b4 #[v1, v2] 25], c1, c2, c3, [bx b3 #[vright1, vright2] 25], [bx b2 #[vleft1, vleft2] 25], [bx b1 #[vbase1, vbase2] 25]] fr w := S
 refine wE (ev_move rfl) F S rfl fun a F=>?_
 refine wE (ev_extract rfl rfl) F S rfl fun a F=>?_
 refine wE (ev_extract rfl rfl) F S rfl fun a F=>?_
 refine wE (ev_extract rfl rfl) F S rfl fun a F=>?_
 refine wl_alloc (wn rfl) rfl tz25 (cs := [nilS, nilS]) rfl F S rfl rfl ?_; clear F a S; rintro b6 a w F S
 refine wl_alloc (wn rfl) rfl tz28 (cs := [.i6 0, .i6 0]) rfl F S rfl rfl ?_; clear F a S; rintro b7 a w F S
 refine wl_storeC (wn rfl) rfl F S rfl rfl (vs := [v4, v5]) rfl ts25 (one_cons (OwnS.one h4) (one_cons (OwnS.one h5) one_nil)) (k := 1) rfl (lb rfl) (c' := #[v4, v5]) rfl rfl ?_; clear S; intro w S
 refine wE (ev_assign rfl) F S rfl fun a F=>?_
 refine wl_storeC (wn rfl) rfl F S rfl rfl (vs := [.i6 y2.2.2.Code, .i6 y2.2.2.Index]) rfl ts28 (one_cons rfl (one_cons rfl one_nil)) (k := 0) rfl (lb rfl) (c' := #[.i6 y2.2.2.Code, .i6 y2.2.2.Index]) rfl rfl ?_; clear S; intro w S
 refine wpList_nil ?_
 refine then_n ?_
 refine wp_seq ?_
 refine wp_seq ?_
 refine wp_region_lit ?_
 refine wE (ev_fieldAddr' tu28 tf28_0 (z := 0) ts3 rfl ⟨_, rfl⟩ rfl) F S rfl fun a F=>?_
 refine wE (ev_load1 tu3 rfl rfl (box_ptr (cells := [.i6 y1.2.2.Code]) 5 rfl 0 rfl (lb rfl))) F S rfl fun a F=>?_
 refine wE (ev_int rfl rfl (bo_neq _ _ _ _)) F S rfl fun a F=>?_
 refine wE (ev_move rfl) F S rfl fun a F=>?_
 obtain ⟨x1, hx1, hm⟩ := bind_some hm
 refine wl_cut 4 (fun a w' => w = w' ∧ Fr 113 a [(37, .bool x1), (11, v6), (10, bp b6 0), (8, v3), (7, bp b4 0)]) ?_ ?_
 ·clear hm; obtain ⟨hc1, hm⟩ | ⟨hc1, hm⟩ := ite_or hx1
  ·refine wl_skip rfl rfl rfl rfl (ne_ft hc1) F rfl rfl ?_; clear F a; intro a F
   refine wl_skip rfl rfl rfl rfl (ne_ft hc1) F rfl rfl ?_; clear F a; intro a F
   refine wl_skip rfl rfl rfl rfl (ne_ft hc1) F rfl rfl ?_; clear F a; intro a F
   refine wE (ev_pickT rfl hc1 rfl) F S rfl fun a F=>?_
   obtain rfl := sinj hm
   refine wpList_nil (then_n ?_); exact ⟨rfl, F.sub ⟨rfl, rfl, rfl, rfl, rfl, trivial⟩⟩
  ·refine wl_ev (wg F rfl rfl rfl rfl hc1) (ev_fieldAddr' tu28 tf28_0 (z := 0) ts3 rfl ⟨_, rfl⟩ rfl) F S rfl rfl ?_; clear F a; intro a F
   refine wl_ev (wg F rfl rfl rfl rfl hc1) (ev_load1 tu3 rfl rfl (box_ptr (cells := [.i6 y2.2.2.Code]) 0 rfl 0 rfl (lb rfl))) F S rfl rfl ?_; clear F a; intro a F
   refine wl_ev (wg F rfl rfl rfl rfl hc1) (ev_int rfl rfl (bo_neq _ _ _ _)) F S rfl rfl ?_; clear F a; intro a F
   refine wE (ev_pickF rfl hc1 rfl) F S rfl fun a F=>?_
   obtain rfl := sinj hm
   refine wpList_nil (then_n ?_); exact ⟨rfl, F.sub ⟨rfl, rfl, rfl, rfl, rfl, trivial⟩⟩
 clear F; rintro a w' ⟨rfl, F⟩
 refine wpList_nil ?_
 refine then_n ?_
 obtain ⟨hc2, hm⟩ | ⟨hc2, hm⟩ := ite_or hm
 ·refine wp_condT F rfl hc2 ?_
  refine wp_seq ?_
  refine wp_region_lit ?_
  obtain ⟨y3, hy3, hm⟩ := bind_some hm
  refine wl_call0 (wn rfl) rfl F rfl (changeforgelaw2_both_ok (fr := (fl [[bx b7 #[.i6 y2.2.2.Code, .i6 y2.2.2.Index] 28], [bx b6 #[v4, v5] 25], c4, c5, c6, [bx b5 #[.i6 y1.2.2.Code, .i6 y1.2.2.Index] 28], [bx b4 #[v1, v2] 25], c1, c2, c3, [bx b3 #[vright1, vright2] 25], [bx b2 #[vleft1, vleft2] 25], [bx b1 #[vbase1, vbase2] 25]] fr))  S hy3) rfl tc14 rfl rfl ?_; clear F a S
  rintro _ a w ⟨g3, l3, S, rfl⟩ F; replace S : St g3 [[bx b7 #[.i6 y2.2.2.Code, .i6 y2.2.2.Index] 28], [bx b6 #[v4, v5] 25], c4, c5, c6, [bx b5 #[.i6 y1.2.2.Code, .i6 y1.2.2.Index] 28], [bx b4 #[v1, v2] 25], c1, c2, c3, [bx b3 #[vright1, vright2] 25], [bx b2 #[vleft1, vleft2] 25], [bx b1 #[vbase1, vbase2] 25]] fr w := S
  refine wE (ev_assign rfl) F S rfl fun a F=>?_
  refine wpList_nil ?_
  refine then_n ?_
  refine wp_ret ?_
  refine then_r ?_
  obtain rfl := sinj hm
  refine post_r _ F rfl (ar_cons (resT rfl) ar_nil) ?_
  replace S : St g3 [] fr w := St.tail [] _ S
  exact ⟨_, rfl, g3, ((l1.trans l2).trans l3), S, rfl⟩
 ·refine wp_condF F rfl hc2 ?_
  refine wp_skip ?_
  refine then_n ?_
  refine wp_seq ?_
  refine wp_seq ?_
  refine wp_region_lit ?_
  refine wE (ev_move rfl) F S rfl fun a F=>?_
  refine wE (ev_lenOw h3 rfl tu26) F S rfl fun a F=>?_
  refine wE (ev_move rfl) F S rfl fun a F=>?_
  refine wE (ev_lenOw h6 rfl tu26) F S rfl fun a F=>?_
  refine wE (ev_int rfl rfl (bo_neq _ _ _ _)) F S rfl fun a F=>?_
  refine wpList_nil ?_
  refine then_n ?_
  obtain ⟨hc3, hm⟩ | ⟨hc3, hm⟩ := ite_or hm
  ·refine wp_condT F rfl hc3 ?_
   refine wp_seq ?_
   refine wp_region_lit ?_
   refine wE (ev_assign rfl) F S rfl fun a F=>?_
   refine wpList_nil ?_
   refine then_n ?_
   refine wp_ret ?_
   refine then_r ?_
   obtain rfl := sinj hm
   refine post_r _ F rfl (ar_cons (resT rfl) ar_nil) ?_
   replace S : St g2 [] fr w := St.tail [] _ S
   exact ⟨_, rfl, g2, (l1.trans l2), S, rfl⟩
  ·refine wp_condF F rfl hc3 ?_
   refine wp_skip ?_
   refine then_n ?_
   refine wp_cut (fun a w => ∃ (g4 : Gh), Fr 113 a [(10, bp b6 0), (8, v3), (7, bp b4 0)] ∧ Le g2 g4 ∧ St g4 [[bx b6 #[v4, v5] 25], c3, [bx b4 #[v1, v2] 25], c4, c5, c1, c2] fr w ∧ changeforgelaw2_TablepatchMergeSymmetric.j1 y1 y2 = some r) ?_ ?_
   ·refine wp_seq ?_
    refine wp_region_lit ?_
    refine wE (ev_assign rfl) F S rfl fun a F=>?_
    refine wpList_nil ?_
    refine then_n ?_
    refine wp_block ?_
    obtain ⟨r1, hr1, hm⟩ := bind_some hm
    have hmo1 := hm; clear hm
    refine wp_iter (σ := Int) (ρ := Bool ⊕ Unit) (m := fun s => changeforgelaw2_TablepatchMergeSymmetric.l1 y1 y2 s) (I := fun x4 a w => ∃ (g13 : Gh), Fr 113 a [(13, .i6 x4), (11, v6), (10, bp b6 0), (8, v3), (7, bp b4 0)] ∧ Le g2 g13 ∧ St g13 [c6, [bx b6 #[v4, v5] 25], c3, [bx b4 #[v1, v2] 25], c4, c5, c1, c2] fr w) hr1 ?_ ?_
    ·replace S : St g2 [c6, [bx b6 #[v4, v5] 25], c3, [bx b4 #[v1, v2] 25], c4, c5, c1, c2] fr w := St.tail [c6, [bx b6 #[v4, v5] 25], c3, [bx b4 #[v1, v2] 25], c4, c5, c1, c2] _ ((((((((S.frontC 8 rfl).frontC 8 rfl).frontC 5 rfl).frontC 5 rfl).frontC 10 rfl).frontC 14 rfl).frontC 7 rfl).frontC 11 rfl)
     exact ⟨g2, F.sub ⟨rfl, rfl, rfl, rfl, rfl, trivial⟩, (Le.refl _), S⟩
    ·clear F S; rintro x4 a w x5 ⟨g13, F, l13, S⟩ hx4 hfin1
     have hm : changeforgelaw2_TablepatchMergeSymmetric.l1 y1 y2 x4 = some x5 := hx4; clear hx4
     unfold changeforgelaw2_TablepatchMergeSymmetric.l1 at hm
     refine wp_seq ?_
     refine wp_seq ?_
     refine wp_region_lit ?_
     refine wE (ev_move rfl) F S rfl fun a F=>?_
     refine wE (ev_move rfl) F S rfl fun a F=>?_
     refine wE (ev_lenOw h3 rfl tu26) F S rfl fun a F=>?_
     refine wE (ev_int rfl rfl (bo_lss _ _ _ _)) F S rfl fun a F=>?_
     refine wpList_nil ?_
     refine then_n ?_
     obtain ⟨hc6, hm⟩ | ⟨hc6, hm⟩ := ite_or hm
     ·refine wp_condT F rfl hc6 ?_
      refine wp_skip ?_
      refine then_n ?_
      refine wp_seq ?_
      refine wp_block ?_
      refine wp_seq ?_
      refine wp_quiet mo (by kernel_rfl) S ?_
      refine wq_ev (wn rfl) (ev_move rfl) F rfl rfl ?_; clear F a; intro a F
      refine wq_ev (wn rfl) (ev_move rfl) F rfl rfl ?_; clear F a; intro a F
      obtain ⟨y6, hy6, hm⟩ := bind_some hm
      refine wq_ev (wn rfl) (ev_idxO (h3.mono (l2.trans l13)) hy6 tu26 ts36 rfl rfl) F rfl rfl ?_; clear F a; intro a F
      refine wq_ev (wn rfl) (ev_fieldAddr' tu36 tf36_0 (z := 0) ts9 rfl (elemO_ptr (h3.mono (l2.trans l13)) hy6) addP_zero) F rfl rfl ?_; clear F a; intro a F
      obtain ⟨cs1, hr2, hq1⟩ := elemO (h3.mono (l2.trans l13)) hy6
      obtain ⟨v7, v8, rfl, h11, h12⟩ := rep_CellChange hr2
      refine wq_ev (wn rfl) (ev_load1 tu9 rfl rfl (fun w s => addP_zero ▸ fieldP (cells := [.string y6.Key]) 0 (hq1 _ _ 2 rfl w s) rfl (lb rfl))) F rfl rfl ?_; clear F a; intro a F
      refine wq_ev (wn rfl) (ev_move rfl) F rfl rfl ?_; clear F a; intro a F
      refine wq_ev (wn rfl) (ev_move rfl) F rfl rfl ?_; clear F a; intro a F
      obtain ⟨y7, hy7, hm⟩ := bind_some hm
      refine wq_ev (wn rfl) (ev_idxO (h6.mono l13) hy7 tu26 ts36 rfl rfl) F rfl rfl ?_; clear F a; intro a F
      refine wq_ev (wn rfl) (ev_fieldAddr' tu36 tf36_0 (z := 0) ts9 rfl (elemO_ptr (h6.mono l13) hy7) addP_zero) F rfl rfl ?_; clear F a; intro a F
      obtain ⟨cs2, hr3, hq2⟩ := elemO (h6.mono l13) hy7
      obtain ⟨v9, v10, rfl, h13, h14⟩ := rep_CellChange hr3
      refine wq_ev (wn rfl) (ev_load1 tu9 rfl rfl (fun w s => addP_zero ▸ fieldP (cells := [.string y7.Key]) 0 (hq2 _ _ 0 rfl w s) rfl (lb rfl))) F rfl rfl ?_; clear F a; intro a F
      refine wq_ev (wn rfl) (ev_str rfl rfl (bs_neq _ _ _)) F rfl rfl ?_; clear F a; intro a F
      refine wq_ev (wn rfl) (ev_move rfl) F rfl rfl ?_; clear F a; intro a F
      obtain ⟨x6, hx5, hm⟩ := bind_some hm
      refine wq_cut 12 (fun a => Fr 113 a [(73, .bool x6), (13, .i6 x4), (11, v6), (10, bp b6 0), (8, v3), (7, bp b4 0)]) ?_ ?_
      ·clear hm; obtain ⟨hc7, hm⟩ | ⟨hc7, hm⟩ := ite_or hx5
       ·refine wq_skip rfl rfl rfl rfl (ne_ft hc7) F rfl rfl ?_; clear F a; intro a F
        refine wq_skip rfl rfl rfl rfl (ne_ft hc7) F rfl rfl ?_; clear F a; intro a F
        refine wq_skip rfl rfl rfl rfl (ne_ft hc7) F rfl rfl ?_; clear F a; intro a F
        refine wq_skip rfl rfl rfl rfl (ne_ft hc7) F rfl rfl ?_; clear F a; intro a F
        refine wq_skip rfl rfl rfl rfl (ne_ft hc7) F rfl rfl ?_; clear F a; intro a F
        refine wq_skip rfl rfl rfl rfl (ne_ft hc7) F rfl rfl ?_; clear F a; intro a F
        refine wq_skip rfl rfl rfl rfl (ne_ft hc7) F rfl rfl ?_; clear F a; intro a F
        refine wq_skip rfl rfl rfl rfl (ne_ft hc7) F rfl rfl ?_; clear F a; intro a F
        refine wq_skip rfl rfl rfl rfl (ne_ft hc7) F rfl rfl ?_; clear F a; intro a F
        refine wq_skip rfl rfl rfl rfl (ne_ft hc7) F rfl rfl ?_; clear F a; intro a F
        refine wq_skip rfl rfl rfl rfl (ne_ft hc7) F rfl rfl ?_; clear F a; intro a F
        refine wq_ev (wn rfl) (ev_pickT rfl hc7 rfl) F rfl rfl ?_; clear F a; intro a F
        obtain rfl := sinj hm
        refine wq_nil ?_; exact F.sub ⟨rfl, rfl, rfl, rfl, rfl, rfl, trivial⟩
       ·refine wq_ev (wg F rfl rfl rfl rfl hc7) (ev_move rfl) F rfl rfl ?_; clear F a; intro a F
        refine wq_ev (wg F rfl rfl rfl rfl hc7) (ev_move rfl) F rfl rfl ?_; clear F a; intro a F
        obtain ⟨y8, hy8, hm⟩ := bind_some hm
        refine wq_ev (wg F rfl rfl rfl rfl hc7) (ev_idxO (h3.mono (l2.trans l13)) hy8 tu26 ts36 rfl rfl) F rfl rfl ?_; clear F a; intro a F
        refine wq_ev (wg F rfl rfl rfl rfl hc7) (ev_fieldAddr' tu36 tf36_1 (z := 0) ts3 rfl (elemO_ptr (h3.mono (l2.trans l13)) hy8) rfl) F rfl rfl ?_; clear F a; intro a F
        obtain ⟨cs3, hr4, hq3⟩ := elemO (h3.mono (l2.trans l13)) hy8
        obtain ⟨v11, v12, rfl, h15, h16⟩ := rep_CellChange hr4
        refine wq_ev (wg F rfl rfl rfl rfl hc7) (ev_load1 tu3 rfl rfl (fun w s => fieldP (cells := [.i6 y8.Column]) 1 (hq3 _ _ 2 rfl w s) rfl (lb rfl))) F rfl rfl ?_; clear F a; intro a F
        refine wq_ev (wg F rfl rfl rfl rfl hc7) (ev_move rfl) F rfl rfl ?_; clear F a; intro a F
        refine wq_ev (wg F rfl rfl rfl rfl hc7) (ev_move rfl) F rfl rfl ?_; clear F a; intro a F
        obtain ⟨y9, hy9, hm⟩ := bind_some hm
        refine wq_ev (wg F rfl rfl rfl rfl hc7) (ev_idxO (h6.mono l13) hy9 tu26 ts36 rfl rfl) F rfl rfl ?_; clear F a; intro a F
        refine wq_ev (wg F rfl rfl rfl rfl hc7) (ev_fieldAddr' tu36 tf36_1 (z := 0) ts3 rfl (elemO_ptr (h6.mono l13) hy9) rfl) F rfl rfl ?_; clear F a; intro a F
        obtain ⟨cs4, hr5, hq4⟩ := elemO (h6.mono l13) hy9
        obtain ⟨v13, v14, rfl, h17, h18⟩ := rep_CellChange hr5
        refine wq_ev (wg F rfl rfl rfl rfl hc7) (ev_load1 tu3 rfl rfl (fun w s => fieldP (cells := [.i6 y9.Column]) 1 (hq4 _ _ 0 rfl w s) rfl (lb rfl))) F rfl rfl ?_; clear F a; intro a F
        refine wq_ev (wg F rfl rfl rfl rfl hc7) (ev_int rfl rfl (bo_neq _ _ _ _)) F rfl rfl ?_; clear F a; intro a F
        refine wq_ev (wn rfl) (ev_pickF rfl hc7 rfl) F rfl rfl ?_; clear F a; intro a F
        obtain rfl := sinj hm
        refine wq_nil ?_; exact F.sub ⟨rfl, rfl, rfl, rfl, rfl, rfl, trivial⟩
      clear F; intro a F
      refine wq_ev (wn rfl) (ev_move rfl) F rfl rfl ?_; clear F a; intro a F
      obtain ⟨x7, hx6, hm⟩ := bind_some hm
      refine wq_cut 13 (fun a => Fr 113 a [(87, .bool x7), (13, .i6 x4), (11, v6), (10, bp b6 0), (8, v3), (7, bp b4 0)]) ?_ ?_
      ·clear hm; obtain ⟨hc8, hm⟩ | ⟨hc8, hm⟩ := ite_or hx6
       ·refine wq_skip rfl rfl rfl rfl (ne_ft hc8) F rfl rfl ?_; clear F a; intro a F
        refine wq_skip rfl rfl rfl rfl (ne_ft hc8) F rfl rfl ?_; clear F a; intro a F
        refine wq_skip rfl rfl rfl rfl (ne_ft hc8) F rfl rfl ?_; clear F a; intro a F
        refine wq_skip rfl rfl rfl rfl (ne_ft hc8) F rfl rfl ?_; clear F a; intro a F
        refine wq_skip rfl rfl rfl rfl (ne_ft hc8) F rfl rfl ?_; clear F a; intro a F
        refine wq_skip rfl rfl rfl rfl (ne_ft hc8) F rfl rfl ?_; clear F a; intro a F
        refine wq_skip rfl rfl rfl rfl (ne_ft hc8) F rfl rfl ?_; clear F a; intro a F
        refine wq_skip rfl rfl rfl rfl (ne_ft hc8) F rfl rfl ?_; clear F a; intro a F
        refine wq_skip rfl rfl rfl rfl (ne_ft hc8) F rfl rfl ?_; clear F a; intro a F
        refine wq_skip rfl rfl rfl rfl (ne_ft hc8) F rfl rfl ?_; clear F a; intro a F
        refine wq_skip rfl rfl rfl rfl (ne_ft hc8) F rfl rfl ?_; clear F a; intro a F
        refine wq_skip rfl rfl rfl rfl (ne_ft hc8) F rfl rfl ?_; clear F a; intro a F
        refine wq_ev (wn rfl) (ev_pickT rfl hc8 rfl) F rfl rfl ?_; clear F a; intro a F
        obtain rfl := sinj hm
        refine wq_nil ?_; exact F.sub ⟨rfl, rfl, rfl, rfl, rfl, rfl, trivial⟩
       ·refine wq_ev (wg F rfl rfl rfl rfl hc8) (ev_move rfl) F rfl rfl ?_; clear F a; intro a F
        refine wq_ev (wg F rfl rfl rfl rfl hc8) (ev_move rfl) F rfl rfl ?_; clear F a; intro a F
        obtain ⟨y10, hy10, hm⟩ := bind_some hm
        refine wq_ev (wg F rfl rfl rfl rfl hc8) (ev_idxO (h3.mono (l2.trans l13)) hy10 tu26 ts36 rfl rfl) F rfl rfl ?_; clear F a; intro a F
        refine wq_ev (wg F rfl rfl rfl rfl hc8) (ev_fieldAddr' tu36 tf36_2 (z := 0) ts22 rfl (elemO_ptr (h3.mono (l2.trans l13)) hy10) rfl) F rfl rfl ?_; clear F a; intro a F
        obtain ⟨cs5, hr6, hq5⟩ := elemO (h3.mono (l2.trans l13)) hy10
        obtain ⟨v15, v16, rfl, h19, h20⟩ := rep_CellChange hr6
        refine wq_ev (wg F rfl rfl rfl rfl hc8) (ev_load1 tu22 rfl rfl (fun w s => fieldP (cells := [v15]) 2 (hq5 _ _ 2 rfl w s) rfl (lb rfl))) F rfl rfl ?_; clear F a; intro a F
        refine wq_ev (wg F rfl rfl rfl rfl hc8) (ev_move rfl) F rfl rfl ?_; clear F a; intro a F
        refine wq_ev (wg F rfl rfl rfl rfl hc8) (ev_move rfl) F rfl rfl ?_; clear F a; intro a F
        obtain ⟨y11, hy11, hm⟩ := bind_some hm
        refine wq_ev (wg F rfl rfl rfl rfl hc8) (ev_idxO (h6.mono l13) hy11 tu26 ts36 rfl rfl) F rfl rfl ?_; clear F a; intro a F
        refine wq_ev (wg F rfl rfl rfl rfl hc8) (ev_fieldAddr' tu36 tf36_3 (z := 0) ts22 rfl (elemO_ptr (h6.mono l13) hy11) rfl) F rfl rfl ?_; clear F a; intro a F
        obtain ⟨cs6, hr7, hq6⟩ := elemO (h6.mono l13) hy11
        obtain ⟨v17, v18, rfl, h21, h22⟩ := rep_CellChange hr7
        refine wq_ev (wg F rfl rfl rfl rfl hc8) (ev_load1 tu22 rfl rfl (fun w s => fieldP (cells := [v18]) 3 (hq6 _ _ 0 rfl w s) rfl (lb rfl))) F rfl rfl ?_; clear F a; intro a F
        obtain ⟨y12, hy12, hm⟩ := bind_some hm
        refine wq_call (wg F rfl rfl rfl rfl hc8) rfl (xs := [.tmp 79, .tmp 84]) (vs := [v15, v18]) (cap := []) F rfl rfl tc15 (v := .bool y12) (fun w S => (changeforgeequal_Strings_ok (g := g13) (fr := (fl [c6, [bx b6 #[v4, v5] 25], c3, [bx b4 #[v1, v2] 25], c4, c5, c1, c2] fr)) (w := w) y10.Old v15 h19 y11.New v18 h22 S hy12).mono (by rintro en w' ⟨_, rfl, g2, l2, S2, rfl⟩; exact ⟨rfl, S2.weak l2⟩)) rfl rfl ?_; clear F a; intro a F
        refine wq_ev (wg F rfl rfl rfl rfl hc8) (ev_not rfl) F rfl rfl ?_; clear F a; intro a F
        refine wq_ev (wn rfl) (ev_pickF rfl hc8 rfl) F rfl rfl ?_; clear F a; intro a F
        obtain rfl := sinj hm
        refine wq_nil ?_; exact F.sub ⟨rfl, rfl, rfl, rfl, rfl, rfl, trivial⟩
      clear F; intro a F
      refine wq_ev (wn rfl) (ev_move rfl) F rfl rfl ?_; clear F a; intro a F
      obtain ⟨x8, hx7, hm⟩ := bind_some hm
      refine wq_cut 13 (fun a => Fr 113 a [(101, .bool x8), (13, .i6 x4), (11, v6), (10, bp b6 0), (8, v3), (7, bp b4 0)]) ?_ ?_
      ·clear hm; obtain ⟨hc9, hm⟩ | ⟨hc9, hm⟩ := ite_or hx7
       ·refine wq_skip rfl rfl rfl rfl (ne_ft hc9) F rfl rfl ?_; clear F a; intro a F
        refine wq_skip rfl rfl rfl rfl (ne_ft hc9) F rfl rfl ?_; clear F a; intro a F
        refine wq_skip rfl rfl rfl rfl (ne_ft hc9) F rfl rfl ?_; clear F a; intro a F
        refine wq_skip rfl rfl rfl rfl (ne_ft hc9) F rfl rfl ?_; clear F a; intro a F
        refine wq_skip rfl rfl rfl rfl (ne_ft hc9) F rfl rfl ?_; clear F a; intro a F
        refine wq_skip rfl rfl rfl rfl (ne_ft hc9) F rfl rfl ?_; clear F a; intro a F
        refine wq_skip rfl rfl rfl rfl (ne_ft hc9) F rfl rfl ?_; clear F a; intro a F
        refine wq_skip rfl rfl rfl rfl (ne_ft hc9) F rfl rfl ?_; clear F a; intro a F
        refine wq_skip rfl rfl rfl rfl (ne_ft hc9) F rfl rfl ?_; clear F a; intro a F
        refine wq_skip rfl rfl rfl rfl (ne_ft hc9) F rfl rfl ?_; clear F a; intro a F
        refine wq_skip rfl rfl rfl rfl (ne_ft hc9) F rfl rfl ?_; clear F a; intro a F
        refine wq_skip rfl rfl rfl rfl (ne_ft hc9) F rfl rfl ?_; clear F a; intro a F
        refine wq_ev (wn rfl) (ev_pickT rfl hc9 rfl) F rfl rfl ?_; clear F a; intro a F
        obtain rfl := sinj hm
        refine wq_nil ?_; exact F.sub ⟨rfl, rfl, rfl, rfl, rfl, rfl, trivial⟩
       ·refine wq_ev (wg F rfl rfl rfl rfl hc9) (ev_move rfl) F rfl rfl ?_; clear F a; intro a F
        refine wq_ev (wg F rfl rfl rfl rfl hc9) (ev_move rfl) F rfl rfl ?_; clear F a; intro a F
        obtain ⟨y13, hy13, hm⟩ := bind_some hm
        refine wq_ev (wg F rfl rfl rfl rfl hc9) (ev_idxO (h3.mono (l2.trans l13)) hy13 tu26 ts36 rfl rfl) F rfl rfl ?_; clear F a; intro a F
        refine wq_ev (wg F rfl rfl rfl rfl hc9) (ev_fieldAddr' tu36 tf36_3 (z := 0) ts22 rfl (elemO_ptr (h3.mono (l2.trans l13)) hy13) rfl) F rfl rfl ?_; clear F a; intro a F
        obtain ⟨cs7, hr8, hq7⟩ := elemO (h3.mono (l2.trans l13)) hy13
        obtain ⟨v19, v20, rfl, h23, h24⟩ := rep_CellChange hr8
        refine wq_ev (wg F rfl rfl rfl rfl hc9) (ev_load1 tu22 rfl rfl (fun w s => fieldP (cells := [v20]) 3 (hq7 _ _ 2 rfl w s) rfl (lb rfl))) F rfl rfl ?_; clear F a; intro a F
        refine wq_ev (wg F rfl rfl rfl rfl hc9) (ev_move rfl) F rfl rfl ?_; clear F a; intro a F
        refine wq_ev (wg F rfl rfl rfl rfl hc9) (ev_move rfl) F rfl rfl ?_; clear F a; intro a F
        obtain ⟨y14, hy14, hm⟩ := bind_some hm
        refine wq_ev (wg F rfl rfl rfl rfl hc9) (ev_idxO (h6.mono l13) hy14 tu26 ts36 rfl rfl) F rfl rfl ?_; clear F a; intro a F
        refine wq_ev (wg F rfl rfl rfl rfl hc9) (ev_fieldAddr' tu36 tf36_2 (z := 0) ts22 rfl (elemO_ptr (h6.mono l13) hy14) rfl) F rfl rfl ?_; clear F a; intro a F
        obtain ⟨cs8, hr9, hq8⟩ := elemO (h6.mono l13) hy14
        obtain ⟨v21, v22, rfl, h25, h26⟩ := rep_CellChange hr9
        refine wq_ev (wg F rfl rfl rfl rfl hc9) (ev_load1 tu22 rfl rfl (fun w s => fieldP (cells := [v21]) 2 (hq8 _ _ 0 rfl w s) rfl (lb rfl))) F rfl rfl ?_; clear F a; intro a F
        obtain ⟨y15, hy15, hm⟩ := bind_some hm
        refine wq_call (wg F rfl rfl rfl rfl hc9) rfl (xs := [.tmp 93, .tmp 98]) (vs := [v20, v21]) (cap := []) F rfl rfl tc15 (v := .bool y15) (fun w S => (changeforgeequal_Strings_ok (g := g13) (fr := (fl [c6, [bx b6 #[v4, v5] 25], c3, [bx b4 #[v1, v2] 25], c4, c5, c1, c2] fr)) (w := w) y13.New v20 h24 y14.Old v21 h25 S hy15).mono (by rintro en w' ⟨_, rfl, g2, l2, S2, rfl⟩; exact ⟨rfl, S2.weak l2⟩)) rfl rfl ?_; clear F a; intro a F
        refine wq_ev (wg F rfl rfl rfl rfl hc9) (ev_not rfl) F rfl rfl ?_; clear F a; intro a F
        refine wq_ev (wn rfl) (ev_pickF rfl hc9 rfl) F rfl rfl ?_; clear F a; intro a F
        obtain rfl := sinj hm
        refine wq_nil ?_; exact F.sub ⟨rfl, rfl, rfl, rfl, rfl, rfl, trivial⟩
      clear F; intro a F
      refine wq_nil ?_; clear S; intro w S
      refine then_n ?_
      obtain ⟨hc10, hm⟩ | ⟨hc10, hm⟩ := ite_or hm
      ·refine wp_condT F rfl hc10 ?_
       refine wp_seq ?_
       refine wp_region_lit ?_
       refine wE (ev_assign rfl) F S rfl fun a F=>?_
       refine wpList_nil ?_
       refine then_n ?_
       refine wp_ret ?_
       refine inb_r ?_
       refine then_r ?_
       refine then_r ?_
       refine inb_r ?_
       refine then_r ?_
       obtain rfl := sinj hm
       obtain rfl := hfin1 _ rfl
       clear hm
       have hm : (some false : Option Bool) = some _ := hmo1
       obtain rfl := sinj hm
       refine post_r _ F rfl (ar_cons (resT rfl) ar_nil) ?_
       replace S : St g13 [] fr w := St.tail [] _ S
       exact ⟨_, rfl, g13, ((l1.trans l2).trans l13), S, rfl⟩
      ·refine wp_condF F rfl hc10 ?_
       refine wp_skip ?_
       refine inb_n ?_
       refine then_n ?_
       refine wp_region_lit ?_
       refine wE (ev_move rfl) F S rfl fun a F=>?_
       obtain ⟨z1, hz1, hm⟩ := bind_some hm
       refine wE (ev_int rfl rfl (bo_add hz1)) F S rfl fun a F=>?_
       refine wE (ev_assign rfl) F S rfl fun a F=>?_
       refine wpList_nil ?_
       refine then_n ?_
       obtain rfl := sinj hm
       refine ⟨_, rfl, ?_⟩
       exact ⟨g13, F.sub ⟨rfl, rfl, rfl, rfl, rfl, trivial⟩, l13, S⟩
     ·refine wp_condF F rfl hc6 ?_
      refine wp_exit ?_
      refine then_e ?_
      refine then_e ?_
      refine inb_x ?_
      refine then_n ?_
      obtain rfl := sinj hm
      obtain rfl := hfin1 _ rfl
      clear hm
      have hm : (changeforgelaw2_TablepatchMergeSymmetric.j1 y1 y2 : Option Bool) = some _ := hmo1
      replace S : St g13 [[bx b6 #[v4, v5] 25], c3, [bx b4 #[v1, v2] 25], c4, c5, c1, c2] fr w := St.tail [[bx b6 #[v4, v5] 25], c3, [bx b4 #[v1, v2] 25], c4, c5, c1, c2] _ (((((((S.frontC 7 rfl).frontC 7 rfl).frontC 7 rfl).frontC 7 rfl).frontC 7 rfl).frontC 7 rfl).frontC 7 rfl)
      exact ⟨g13, F.sub ⟨rfl, rfl, rfl, trivial⟩, l13, S, hm⟩
   ·clear F S hm; rintro a w ⟨g4, F, l4, S, hm⟩
    refine wp_seq ?_
    refine wp_region_lit ?_
    refine wE (ev_move rfl) F S rfl fun a F=>?_
    refine wE (ev_lenOw h3 rfl tu26) F S rfl fun a F=>?_
    refine wE (ev_int rfl rfl (bo_gtr _ _ _ _)) F S rfl fun a F=>?_
    refine wE (ev_move rfl) F S rfl fun a F=>?_
    obtain ⟨g5, l5, S, h7⟩ : ∃ gz, Le g4 gz ∧ St gz [[bx b6 #[v4, v5] 25], c3, [bx b4 #[v1, v2] 25], c5, c1, c2] fr w ∧ RepSl gz y2.1.Columns v4 := ⟨_, Le.add _ _, S.freeze 3 rfl, OwnS.freeze (S.front 3 rfl) (h4.mono l4)⟩
    obtain ⟨g6, l6, S, h8⟩ : ∃ gz, Le g5 gz ∧ St gz [[bx b6 #[v4, v5] 25], c3, [bx b4 #[v1, v2] 25], c1, c2] fr w ∧ RepSl gz y2.1.Rows v5 := ⟨_, Le.add _ _, S.freeze 3 rfl, OwnS.freeze (S.front 3 rfl) (h5.mono (l4.trans l5))⟩
    obtain ⟨g7, l7, S, h9⟩ : ∃ gz, Le g6 gz ∧ St gz [[bx b6 #[v4, v5] 25], c3, [bx b4 #[v1, v2] 25], c2] fr w ∧ RepSl gz y1.1.Columns v1 := ⟨_, Le.add _ _, S.freeze 3 rfl, OwnS.freeze (S.front 3 rfl) (h1.mono (((l2.trans l4).trans l5).trans l6))⟩
    obtain ⟨g8, l8, S, h10⟩ : ∃ gz, Le g7 gz ∧ St gz [[bx b6 #[v4, v5] 25], c3, [bx b4 #[v1, v2] 25]] fr w ∧ RepSl gz y1.1.Rows v2 := ⟨_, Le.add _ _, S.freeze 3 rfl, OwnS.freeze (S.front 3 rfl) (h2.mono ((((l2.trans l4).trans l5).trans l6).trans l7))⟩
    obtain ⟨x2, hx2, hm⟩ := bind_some hm
    refine wl_cut 4 (fun a w => ∃ g9, Fr 113 a [(109, .bool x2)] ∧ Le g8 g9 ∧ St g9 [[bx b6 #[v4, v5] 25], c3, [bx b4 #[v1, v2] 25]] fr w) ?_ ?_
    ·clear hm; obtain ⟨hc4, hm⟩ | ⟨hc4, hm⟩ := ite_or hx2
     ·refine wl_skip rfl rfl rfl rfl (ne_ft hc4) F rfl rfl ?_; clear F a; intro a F
      refine wl_skip rfl rfl rfl rfl (ne_ft hc4) F rfl rfl ?_; clear F a; intro a F
      refine wl_skip rfl rfl rfl rfl (ne_ft hc4) F rfl rfl ?_; clear F a; intro a F
      refine wE (ev_pickT rfl hc4 rfl) F S rfl fun a F=>?_
      obtain rfl := sinj hm
      refine wpList_nil (then_n ?_); exact ⟨g8, F.sub ⟨rfl, trivial⟩, (Le.refl _), S⟩
     ·refine wl_ev (wg F rfl rfl rfl rfl hc4) (ev_loadA tu25 rfl (cs := [v1, v2]) ts25 rfl (box_ptr (cells := [v1, v2]) 2 rfl 0 rfl (lb rfl))) F S rfl rfl ?_; clear F a; intro a F
      refine wl_ev (wg F rfl rfl rfl rfl hc4) (ev_loadA tu25 rfl (cs := [v4, v5]) ts25 rfl (box_ptr (cells := [v4, v5]) 0 rfl 0 rfl (lb rfl))) F S rfl rfl ?_; clear F a; intro a F
      obtain ⟨y4, hy4, hm⟩ := bind_some hm
      refine wl_call0 (wg F rfl rfl rfl rfl hc4) rfl F rfl (changeforgeequal_Table_ok (fr := (fl [[bx b6 #[v4, v5] 25], c3, [bx b4 #[v1, v2] 25]] fr)) y1.1 v1 (h9.mono l8) v2 h10 y2.1 v4 (h7.mono ((l6.trans l7).trans l8)) v5 (h8.mono (l7.trans l8)) S hy4) rfl tc12 rfl rfl ?_; clear F a S
      rintro _ a w ⟨g10, l10, S, rfl⟩ F; replace S : St g10 [[bx b6 #[v4, v5] 25], c3, [bx b4 #[v1, v2] 25]] fr w := S
      refine wE (ev_pickF rfl hc4 rfl) F S rfl fun a F=>?_
      obtain rfl := sinj hm
      refine wpList_nil (then_n ?_); exact ⟨g10, F.sub ⟨rfl, trivial⟩, l10, S⟩
    clear F S; rintro a w ⟨g9, F, l9, S⟩
    refine wE (ev_move rfl) F S rfl fun a F=>?_
    obtain ⟨x3, hx3, hm⟩ := bind_some hm
    refine wl_cut 2 (fun a w => ∃ g11, Fr 113 a [(112, .bool x3)] ∧ Le g9 g11 ∧ St g11 [[bx b6 #[v4, v5] 25], c3, [bx b4 #[v1, v2] 25]] fr w) ?_ ?_
    ·clear hm; obtain ⟨hc5, hm⟩ | ⟨hc5, hm⟩ := ite_or hx3
     ·obtain ⟨y5, hy5, hm⟩ := bind_some hm
      refine wl_call0 (wg F rfl rfl rfl rfl hc5) rfl F rfl (changeforgelaw2_both_ok (fr := (fl [[bx b6 #[v4, v5] 25], c3, [bx b4 #[v1, v2] 25]] fr))  S hy5) rfl tc14 rfl rfl ?_; clear F a S
      rintro _ a w ⟨g12, l12, S, rfl⟩ F; replace S : St g12 [[bx b6 #[v4, v5] 25], c3, [bx b4 #[v1, v2] 25]] fr w := S
      refine wE (ev_pickT rfl hc5 rfl) F S rfl fun a F=>?_
      obtain rfl := sinj hm
      refine wpList_nil (then_n ?_); exact ⟨g12, F.sub ⟨rfl, trivial⟩, l12, S⟩
     ·refine wl_skip rfl rfl rfl rfl (ne_tf hc5) F rfl rfl ?_; clear F a; intro a F
      refine wE (ev_pickF rfl hc5 rfl) F S rfl fun a F=>?_
      obtain rfl := sinj hm
      refine wpList_nil (then_n ?_); exact ⟨g9, F.sub ⟨rfl, trivial⟩, (Le.refl _), S⟩
    clear F S; rintro a w ⟨g11, F, l11, S⟩
    refine wE (ev_assign rfl) F S rfl fun a F=>?_
    refine wpList_nil ?_
    refine then_n ?_
    refine wp_ret ?_
    obtain rfl := sinj hm
    refine post_r _ F rfl (ar_cons (resT rfl) ar_nil) ?_
    replace S : St g11 [] fr w := St.tail [] _ S
    exact ⟨_, rfl, g11, ((((((((l1.trans l2).trans l4).trans l5).trans l6).trans l7).trans l8).trans l9).trans l11), S, rfl⟩
end Go.Dc
