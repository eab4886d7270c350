/- Walks: each function comes to what its model says. -/
import Derived.Test.YthknfnjdnclphaaDcTab
import Derived.Test.YthknfnjdnclphaaDcM
import Derived.Test.YthknfnjdnclphaaDcW1
import Derived.Test.YthknfnjdnclphaaDcW3
import Derived.Test.YthknfnjdnclphaaDcW6
namespace Go.Dc
open Go Go.Proofs
set_option maxRecDepth 100000
set_option maxHeartbeats 4000000
set_option linter.unusedVariables false
theorem changeforgelaw2_TablepatchMergeValid_ok {g : Gh} {fr : Hl} {w : World} {r : Bool} (base : Table) (vbase1 : Value) (hbase1 : RepSl g base.Columns vbase1) (vbase2 : Value) (hbase2 : RepSl g base.Rows vbase2) (left : Table) (vleft1 : Value) (hleft1 : RepSl g left.Columns vleft1) (vleft2 : Value) (hleft2 : RepSl g left.Rows vleft2) (right : Table) (vright1 : Value) (hright1 : RepSl g right.Columns vright1) (vright2 : Value) (hright2 : RepSl g right.Rows vright2) (S : St g [] fr w) (hm : changeforgelaw2_TablepatchMergeValid base left right = some r) :
  Calls Try.prog 6 [.agg #[vbase1, vbase2], .agg #[vleft1, vleft2], .agg #[vright1, vright2]].toArray w (fun en w' => ∃ v, en = .returned v ∧ ∃ (g' : Gh), Le g g' ∧ St g' [] fr w' ∧ .bool r = v) := by
 unfold changeforgelaw2_TablepatchMergeValid at hm
 refine calls_enter (fn := Try.f6) Try.func6 rfl Try.ntmps6 (lb rfl) ?_
 intro a F
 replace F : Fr 54 a [(0, .agg #[vbase1, vbase2]), (1, .agg #[vleft1, vleft2]), (2, .agg #[vright1, vright2])] := F
 refine wp_seq ?_
 refine wp_region_lit ?_
 refine wl_boxC (wn rfl) rfl rfl rfl F S rfl rfl ?_; clear F a S; rintro b1 a w F S
 refine wl_boxC (wn rfl) rfl rfl rfl F S rfl rfl ?_; clear F a S; rintro b2 a w F S
 refine wl_boxC (wn rfl) rfl rfl rfl F S rfl rfl ?_; clear F a S; rintro b3 a w F S
 refine wE (ev_assign rfl) F S rfl fun a F=>?_
 refine wpList_nil ?_
 refine then_n ?_
 refine wp_seq ?_
 refine wp_region_lit ?_
 refine wE (ev_loadA tu25 rfl (cs := [vbase1, vbase2]) ts25 rfl (box_ptr (cells := [vbase1, vbase2]) 2 rfl 0 rfl (lb rfl))) F S rfl fun a F=>?_
 refine wE (ev_loadA tu25 rfl (cs := [vleft1, vleft2]) ts25 rfl (box_ptr (cells := [vleft1, vleft2]) 1 rfl 0 rfl (lb rfl))) F S rfl fun a F=>?_
 refine wE (ev_loadA tu25 rfl (cs := [vright1, vright2]) ts25 rfl (box_ptr (cells := [vright1, vright2]) 0 rfl 0 rfl (lb rfl))) F S rfl fun a F=>?_
 obtain ⟨y1, hy1, hm⟩ := bind_some hm
 refine wl_call0 (wn rfl) rfl F rfl (tablepatch_Merge_ok (fr := (fl [[bx b3 #[vright1, vright2] 25], [bx b2 #[vleft1, vleft2] 25], [bx b1 #[vbase1, vbase2] 25]] fr)) base vbase1 hbase1 vbase2 hbase2 left vleft1 hleft1 vleft2 hleft2 right vright1 hright1 vright2 hright2 S hy1) rfl tc10 rfl rfl ?_; clear F a S
 rintro _ a w ⟨g1, v1, v2, v3, c1, c2, c3, l1, S, h1, h2, h3, rfl⟩ F; replace S : St g1 [c1, c2, c3, [bx b3 #[vright1, vright2] 25], [bx b2 #[vleft1, vleft2] 25], [bx b1 #[vbase1, vbase2] 25]] fr w := S
 refine wE (ev_move rfl) F S rfl fun a F=>?_
 refine wE (ev_extract rfl rfl) F S rfl fun a F=>?_
 refine wE (ev_extract rfl rfl) F S rfl fun a F=>?_
 refine wE (ev_extract rfl rfl) F S rfl fun a F=>?_
 refine wl_alloc (wn rfl) rfl tz25 (cs := [nilS, nilS]) rfl F S rfl rfl ?_; clear F a S; rintro b4 a w F S
 refine wl_alloc (wn rfl) rfl tz28 (cs := [.i6 0, .i6 0]) rfl F S rfl rfl ?_; clear F a S; rintro b5 a w F S
 refine wl_storeC (wn rfl) rfl F S rfl rfl (vs := [v1, v2]) rfl ts25 (one_cons (OwnS.one h1) (one_cons (OwnS.one h2) one_nil)) (k := 1) rfl (lb rfl) (c' := #[v1, v2]) rfl rfl ?_; clear S; intro w S
 refine wE (ev_assign rfl) F S rfl fun a F=>?_
 refine wl_storeC (wn rfl) rfl F S rfl rfl (vs := [.i6 y1.2.2.Code, .i6 y1.2.2.Index]) rfl ts28 (one_cons rfl (one_cons rfl one_nil)) (k := 0) rfl (lb rfl) (c' := #[.i6 y1.2.2.Code, .i6 y1.2.2.Index]) rfl rfl ?_; clear S; intro w S
 refine wpList_nil ?_
 refine then_n ?_
 refine wp_seq ?_
 refine wp_seq ?_
 refine wp_region_lit ?_
 refine wE (ev_fieldAddr' tu28 tf28_0 (z := 0) ts3 rfl ⟨_, rfl⟩ rfl) F S rfl fun a F=>?_
 refine wE (ev_load1 tu3 rfl rfl (box_ptr (cells := [.i6 y1.2.2.Code]) 0 rfl 0 rfl (lb rfl))) F S rfl fun a F=>?_
 refine wE (ev_int rfl rfl (bo_neq _ _ _ _)) F S rfl fun a F=>?_
 refine wpList_nil ?_
 refine then_n ?_
 obtain ⟨hc1, hm⟩ | ⟨hc1, hm⟩ := ite_or hm
 ·refine wp_condT F rfl hc1 ?_
  refine wp_seq ?_
  refine wp_region_lit ?_
  obtain ⟨y2, hy2, hm⟩ := bind_some hm
  refine wl_call0 (wn rfl) rfl F rfl (changeforgelaw2_both_ok (fr := (fl [[bx b5 #[.i6 y1.2.2.Code, .i6 y1.2.2.Index] 28], [bx b4 #[v1, v2] 25], c1, c2, c3, [bx b3 #[vright1, vright2] 25], [bx b2 #[vleft1, vleft2] 25], [bx b1 #[vbase1, vbase2] 25]] fr))  S hy2) rfl tc14 rfl rfl ?_; clear F a S
  rintro _ a w ⟨g2, l2, S, rfl⟩ F; replace S : St g2 [[bx b5 #[.i6 y1.2.2.Code, .i6 y1.2.2.Index] 28], [bx b4 #[v1, v2] 25], c1, c2, c3, [bx b3 #[vright1, vright2] 25], [bx b2 #[vleft1, vleft2] 25], [bx b1 #[vbase1, vbase2] 25]] fr w := S
  refine wE (ev_assign rfl) F S rfl fun a F=>?_
  refine wpList_nil ?_
  refine then_n ?_
  refine wp_ret ?_
  refine then_r ?_
  obtain rfl := sinj hm
  refine post_r _ F rfl (ar_cons (resT rfl) ar_nil) ?_
  replace S : St g2 [] fr w := St.tail [] _ S
  exact ⟨_, rfl, g2, (l1.trans l2), S, rfl⟩
 ·refine wp_condF F rfl hc1 ?_
  refine wp_skip ?_
  refine then_n ?_
  refine wp_cut (fun a w => ∃ (g3 : Gh), Fr 54 a [(7, bp b4 0), (3, bp b1 0)] ∧ Le g1 g3 ∧ St g3 [[bx b4 #[v1, v2] 25], [bx b1 #[vbase1, vbase2] 25], c1, c2] fr w ∧ changeforgelaw2_TablepatchMergeValid.j1 base y1 = some r) ?_ ?_
  ·refine wp_seq ?_
   refine wp_region_lit ?_
   refine wE (ev_assign rfl) F S rfl fun a F=>?_
   refine wpList_nil ?_
   refine then_n ?_
   refine wp_block ?_
   obtain ⟨r1, hr1, hm⟩ := bind_some hm
   have hmo1 := hm; clear hm
   refine wp_iter (σ := Int) (ρ := Bool ⊕ Unit) (m := fun s => changeforgelaw2_TablepatchMergeValid.l1 y1 s) (I := fun x3 a w => ∃ (g11 : Gh), Fr 54 a [(10, .i6 x3), (8, v3), (7, bp b4 0), (3, bp b1 0)] ∧ Le g1 g11 ∧ St g11 [c3, [bx b4 #[v1, v2] 25], [bx b1 #[vbase1, vbase2] 25], c1, c2] fr w) hr1 ?_ ?_
   ·replace S : St g1 [c3, [bx b4 #[v1, v2] 25], [bx b1 #[vbase1, vbase2] 25], c1, c2] fr w := St.tail [c3, [bx b4 #[v1, v2] 25], [bx b1 #[vbase1, vbase2] 25], c1, c2] _ (((((S.frontC 3 rfl).frontC 3 rfl).frontC 9 rfl).frontC 4 rfl).frontC 8 rfl)
    exact ⟨g1, F.sub ⟨rfl, rfl, rfl, rfl, trivial⟩, (Le.refl _), S⟩
   ·clear F S; rintro x3 a w x4 ⟨g11, F, l11, S⟩ hx3 hfin1
    have hm : changeforgelaw2_TablepatchMergeValid.l1 y1 x3 = some x4 := hx3; clear hx3
    unfold changeforgelaw2_TablepatchMergeValid.l1 at hm
    refine wp_seq ?_
    refine wp_seq ?_
    refine wp_region_lit ?_
    refine wE (ev_move rfl) F S rfl fun a F=>?_
    refine wE (ev_move rfl) F S rfl fun a F=>?_
    refine wE (ev_lenOw h3 rfl tu26) F S rfl fun a F=>?_
    refine wE (ev_int rfl rfl (bo_lss _ _ _ _)) F S rfl fun a F=>?_
    refine wpList_nil ?_
    refine then_n ?_
    obtain ⟨hc4, hm⟩ | ⟨hc4, hm⟩ := ite_or hm
    ·refine wp_condT F rfl hc4 ?_
     refine wp_skip ?_
     refine then_n ?_
     refine wp_seq ?_
     refine wp_block ?_
     refine wp_seq ?_
     refine wp_quiet mo (by kernel_rfl) S ?_
     refine wq_ev (wn rfl) (ev_move rfl) F rfl rfl ?_; clear F a; intro a F
     refine wq_ev (wn rfl) (ev_move rfl) F rfl rfl ?_; clear F a; intro a F
     obtain ⟨y6, hy6, hm⟩ := bind_some hm
     refine wq_ev (wn rfl) (ev_idxO (h3.mono l11) hy6 tu26 ts36 rfl rfl) F rfl rfl ?_; clear F a; intro a F
     refine wq_ev (wn rfl) (ev_fieldAddr' tu36 tf36_2 (z := 0) ts22 rfl (elemO_ptr (h3.mono l11) hy6) rfl) F rfl rfl ?_; clear F a; intro a F
     obtain ⟨cs1, hr2, hq1⟩ := elemO (h3.mono l11) hy6
     obtain ⟨v4, v5, rfl, h6, h7⟩ := rep_CellChange hr2
     refine wq_ev (wn rfl) (ev_load1 tu22 rfl rfl (fun w s => fieldP (cells := [v4]) 2 (hq1 _ _ 0 rfl w s) rfl (lb rfl))) F rfl rfl ?_; clear F a; intro a F
     refine wq_ev (wn rfl) (ev_move rfl) F rfl rfl ?_; clear F a; intro a F
     refine wq_ev (wn rfl) (ev_move rfl) F rfl rfl ?_; clear F a; intro a F
     obtain ⟨y7, hy7, hm⟩ := bind_some hm
     refine wq_ev (wn rfl) (ev_idxO (h3.mono l11) hy7 tu26 ts36 rfl rfl) F rfl rfl ?_; clear F a; intro a F
     refine wq_ev (wn rfl) (ev_fieldAddr' tu36 tf36_3 (z := 0) ts22 rfl (elemO_ptr (h3.mono l11) hy7) rfl) F rfl rfl ?_; clear F a; intro a F
     obtain ⟨cs2, hr3, hq2⟩ := elemO (h3.mono l11) hy7
     obtain ⟨v6, v7, rfl, h8, h9⟩ := rep_CellChange hr3
     refine wq_ev (wn rfl) (ev_load1 tu22 rfl rfl (fun w s => fieldP (cells := [v7]) 3 (hq2 _ _ 0 rfl w s) rfl (lb rfl))) F rfl rfl ?_; clear F a; intro a F
     obtain ⟨y8, hy8, hm⟩ := bind_some hm
     refine wq_call (wn rfl) rfl (xs := [.tmp 33, .tmp 38]) (vs := [v4, v7]) (cap := []) F rfl rfl tc15 (v := .bool y8) (fun w S => (changeforgeequal_Strings_ok (g := g11) (fr := (fl [c3, [bx b4 #[v1, v2] 25], [bx b1 #[vbase1, vbase2] 25], c1, c2] fr)) (w := w) y6.Old v4 h6 y7.New v7 h9 S hy8).mono (by rintro en w' ⟨_, rfl, g2, l2, S2, rfl⟩; exact ⟨rfl, S2.weak l2⟩)) rfl rfl ?_; clear F a; intro a F
     refine wq_nil ?_; clear S; intro w S
     refine then_n ?_
     obtain ⟨hc5, hm⟩ | ⟨hc5, hm⟩ := ite_or hm
     ·refine wp_condT F rfl hc5 ?_
      refine wp_seq ?_
      refine wp_region_lit ?_
      refine wE (ev_assign rfl) F S rfl fun a F=>?_
      refine wpList_nil ?_
      refine then_n ?_
      refine wp_ret ?_
      refine inb_r ?_
      refine then_r ?_
      refine then_r ?_
      refine inb_r ?_
      refine then_r ?_
      obtain rfl := sinj hm
      obtain rfl := hfin1 _ rfl
      clear hm
      have hm : (some false : Option Bool) = some _ := hmo1
      obtain rfl := sinj hm
      refine post_r _ F rfl (ar_cons (resT rfl) ar_nil) ?_
      replace S : St g11 [] fr w := St.tail [] _ S
      exact ⟨_, rfl, g11, (l1.trans l11), S, rfl⟩
     ·refine wp_condF F rfl hc5 ?_
      refine wp_skip ?_
      refine inb_n ?_
      refine then_n ?_
      refine wp_region_lit ?_
      refine wE (ev_move rfl) F S rfl fun a F=>?_
      obtain ⟨z1, hz1, hm⟩ := bind_some hm
      refine wE (ev_int rfl rfl (bo_add hz1)) F S rfl fun a F=>?_
      refine wE (ev_assign rfl) F S rfl fun a F=>?_
      refine wpList_nil ?_
      refine then_n ?_
      obtain rfl := sinj hm
      refine ⟨_, rfl, ?_⟩
      exact ⟨g11, F.sub ⟨rfl, rfl, rfl, rfl, trivial⟩, l11, S⟩
    ·refine wp_condF F rfl hc4 ?_
     refine wp_exit ?_
     refine then_e ?_
     refine then_e ?_
     refine inb_x ?_
     refine then_n ?_
     obtain rfl := sinj hm
     obtain rfl := hfin1 _ rfl
     clear hm
     have hm : (changeforgelaw2_TablepatchMergeValid.j1 base y1 : Option Bool) = some _ := hmo1
     replace S : St g11 [[bx b4 #[v1, v2] 25], [bx b1 #[vbase1, vbase2] 25], c1, c2] fr w := St.tail [[bx b4 #[v1, v2] 25], [bx b1 #[vbase1, vbase2] 25], c1, c2] _ ((((S.frontC 4 rfl).frontC 4 rfl).frontC 4 rfl).frontC 4 rfl)
     exact ⟨g11, F.sub ⟨rfl, rfl, trivial⟩, l11, S, hm⟩
  ·clear F S hm; rintro a w ⟨g3, F, l3, S, hm⟩
   refine wp_seq ?_
   refine wp_region_lit ?_
   refine wE (ev_loadA tu25 rfl (cs := [v1, v2]) ts25 rfl (box_ptr (cells := [v1, v2]) 0 rfl 0 rfl (lb rfl))) F S rfl fun a F=>?_
   obtain ⟨g4, l4, S, h4⟩ : ∃ gz, Le g3 gz ∧ St gz [[bx b4 #[v1, v2] 25], [bx b1 #[vbase1, vbase2] 25], c2] fr w ∧ RepSl gz y1.1.Columns v1 := ⟨_, Le.add _ _, S.freeze 2 rfl, OwnS.freeze (S.front 2 rfl) (h1.mono l3)⟩
   obtain ⟨g5, l5, S, h5⟩ : ∃ gz, Le g4 gz ∧ St gz [[bx b4 #[v1, v2] 25], [bx b1 #[vbase1, vbase2] 25]] fr w ∧ RepSl gz y1.1.Rows v2 := ⟨_, Le.add _ _, S.freeze 2 rfl, OwnS.freeze (S.front 2 rfl) (h2.mono (l3.trans l4))⟩
   obtain ⟨y3, hy3, hm⟩ := bind_some hm
   refine wl_call0 (wn rfl) rfl F rfl (tablepatch_Validate_ok (fr := (fl [[bx b4 #[v1, v2] 25], [bx b1 #[vbase1, vbase2] 25]] fr)) y1.1 v1 (h4.mono l5) v2 h5 S hy3) rfl tc16 rfl rfl ?_; clear F a S
   rintro _ a w ⟨g6, l6, S, rfl⟩ F; replace S : St g6 [[bx b4 #[v1, v2] 25], [bx b1 #[vbase1, vbase2] 25]] fr w := S
   refine wE (ev_field1 tu28 tf28_0 tu3 rfl (cs := [.i6 y3.Code, .i6 y3.Index]) rfl rfl) F S rfl fun a F=>?_
   refine wE (ev_int rfl rfl (bo_eql _ _ _ _)) F S rfl fun a F=>?_
   refine wE (ev_move rfl) F S rfl fun a F=>?_
   obtain ⟨x1, hx1, hm⟩ := bind_some hm
   refine wl_cut 6 (fun a w => ∃ g7, Fr 54 a [(50, .bool x1)] ∧ Le g6 g7 ∧ St g7 [[bx b4 #[v1, v2] 25], [bx b1 #[vbase1, vbase2] 25]] fr w) ?_ ?_
   ·clear hm; obtain ⟨hc2, hm⟩ | ⟨hc2, hm⟩ := ite_or hx1
    ·refine wl_ev (wg F rfl rfl rfl rfl hc2) (ev_fieldAddr' tu25 tf25_0 (z := 0) ts22 rfl ⟨_, rfl⟩ rfl) F S rfl rfl ?_; clear F a; intro a F
     refine wl_ev (wg F rfl rfl rfl rfl hc2) (ev_load1 tu22 rfl rfl (box_ptr (cells := [v1]) 0 rfl 0 rfl (lb rfl))) F S rfl rfl ?_; clear F a; intro a F
     refine wl_ev (wg F rfl rfl rfl rfl hc2) (ev_fieldAddr' tu25 tf25_0 (z := 0) ts22 rfl ⟨_, rfl⟩ rfl) F S rfl rfl ?_; clear F a; intro a F
     refine wl_ev (wg F rfl rfl rfl rfl hc2) (ev_load1 tu22 rfl rfl (box_ptr (cells := [vbase1]) 1 rfl 0 rfl (lb rfl))) F S rfl rfl ?_; clear F a; intro a F
     obtain ⟨y4, hy4, hm⟩ := bind_some hm
     refine wl_call0 (wg F rfl rfl rfl rfl hc2) rfl F rfl (changeforgeequal_Strings_ok (fr := (fl [[bx b4 #[v1, v2] 25], [bx b1 #[vbase1, vbase2] 25]] fr)) y1.1.Columns v1 (h4.mono (l5.trans l6)) base.Columns vbase1 (hbase1.mono ((((l1.trans l3).trans l4).trans l5).trans l6)) S hy4) rfl tc15 rfl rfl ?_; clear F a S
     rintro _ a w ⟨g8, l8, S, rfl⟩ F; replace S : St g8 [[bx b4 #[v1, v2] 25], [bx b1 #[vbase1, vbase2] 25]] fr w := S
     refine wE (ev_pickT rfl hc2 rfl) F S rfl fun a F=>?_
     obtain rfl := sinj hm
     refine wpList_nil (then_n ?_); exact ⟨g8, F.sub ⟨rfl, trivial⟩, l8, S⟩
    ·refine wl_skip rfl rfl rfl rfl (ne_tf hc2) F rfl rfl ?_; clear F a; intro a F
     refine wl_skip rfl rfl rfl rfl (ne_tf hc2) F rfl rfl ?_; clear F a; intro a F
     refine wl_skip rfl rfl rfl rfl (ne_tf hc2) F rfl rfl ?_; clear F a; intro a F
     refine wl_skip rfl rfl rfl rfl (ne_tf hc2) F rfl rfl ?_; clear F a; intro a F
     refine wl_skip rfl rfl rfl rfl (ne_tf hc2) F rfl rfl ?_; clear F a; intro a F
     refine wE (ev_pickF rfl hc2 rfl) F S rfl fun a F=>?_
     obtain rfl := sinj hm
     refine wpList_nil (then_n ?_); exact ⟨g6, F.sub ⟨rfl, trivial⟩, (Le.refl _), S⟩
   clear F S; rintro a w ⟨g7, F, l7, S⟩
   refine wE (ev_move rfl) F S rfl fun a F=>?_
   obtain ⟨x2, hx2, hm⟩ := bind_some hm
   refine wl_cut 2 (fun a w => ∃ g9, Fr 54 a [(53, .bool x2)] ∧ Le g7 g9 ∧ St g9 [[bx b4 #[v1, v2] 25], [bx b1 #[vbase1, vbase2] 25]] fr w) ?_ ?_
   ·clear hm; obtain ⟨hc3, hm⟩ | ⟨hc3, hm⟩ := ite_or hx2
    ·obtain ⟨y5, hy5, hm⟩ := bind_some hm
     refine wl_call0 (wg F rfl rfl rfl rfl hc3) rfl F rfl (changeforgelaw2_both_ok (fr := (fl [[bx b4 #[v1, v2] 25], [bx b1 #[vbase1, vbase2] 25]] fr))  S hy5) rfl tc14 rfl rfl ?_; clear F a S
     rintro _ a w ⟨g10, l10, S, rfl⟩ F; replace S : St g10 [[bx b4 #[v1, v2] 25], [bx b1 #[vbase1, vbase2] 25]] fr w := S
     refine wE (ev_pickT rfl hc3 rfl) F S rfl fun a F=>?_
     obtain rfl := sinj hm
     refine wpList_nil (then_n ?_); exact ⟨g10, F.sub ⟨rfl, trivial⟩, l10, S⟩
    ·refine wl_skip rfl rfl rfl rfl (ne_tf hc3) F rfl rfl ?_; clear F a; intro a F
     refine wE (ev_pickF rfl hc3 rfl) F S rfl fun a F=>?_
     obtain rfl := sinj hm
     refine wpList_nil (then_n ?_); exact ⟨g7, F.sub ⟨rfl, trivial⟩, (Le.refl _), S⟩
   clear F S; rintro a w ⟨g9, F, l9, S⟩
   refine wE (ev_assign rfl) F S rfl fun a F=>?_
   refine wpList_nil ?_
   refine then_n ?_
   refine wp_ret ?_
   obtain rfl := sinj hm
   refine post_r _ F rfl (ar_cons (resT rfl) ar_nil) ?_
   replace S : St g9 [] fr w := St.tail [] _ S
   exact ⟨_, rfl, g9, ((((((l1.trans l3).trans l4).trans l5).trans l6).trans l7).trans l9), S, rfl⟩
end Go.Dc
