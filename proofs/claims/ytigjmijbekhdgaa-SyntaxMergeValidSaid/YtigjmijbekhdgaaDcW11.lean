/- Walks: each function comes to what its model says. -/
import Derived.Test.YtigjmijbekhdgaaDcTab
import Derived.Test.YtigjmijbekhdgaaDcM
import Derived.Test.YtigjmijbekhdgaaDcW3
import Derived.Test.YtigjmijbekhdgaaDcW7
namespace Go.Dc
open Go Go.Proofs
set_option maxRecDepth 100000
set_option maxHeartbeats 4000000
set_option linter.unusedVariables false
theorem changeforgelaw2_SyntaxMergeValid_ok {g : Gh} {fr : Hl} {w : World} {r : Bool} (base : SyntaxTree) (vbase1 : Value) (hbase1 : RepSl g base.Nodes vbase1) (left : SyntaxTree) (vleft1 : Value) (hleft1 : RepSl g left.Nodes vleft1) (right : SyntaxTree) (vright1 : Value) (hright1 : RepSl g right.Nodes vright1) (S : St g [] fr w) (hm : changeforgelaw2_SyntaxMergeValid base left right = some r) :
  Calls Try.prog 9 [.agg #[vbase1], .agg #[vleft1], .agg #[vright1]].toArray w (fun en w' => ∃ v, en = .returned v ∧ ∃ (g' : Gh), Le g g' ∧ St g' [] fr w' ∧ .bool r = v) := by
 unfold changeforgelaw2_SyntaxMergeValid at hm
 refine calls_enter (fn := Try.f9) Try.func9 rfl Try.ntmps9 (lb rfl) ?_
 intro a F
 replace F : Fr 67 a [(0, .agg #[vbase1]), (1, .agg #[vleft1]), (2, .agg #[vright1])] := F
 refine wp_seq ?_
 refine wp_region_lit ?_
 refine wl_boxC (wn rfl) rfl rfl rfl F S rfl rfl ?_; clear F a S; rintro b1 a w F S
 refine wl_boxC (wn rfl) rfl rfl rfl F S rfl rfl ?_; clear F a S; rintro b2 a w F S
 refine wl_boxC (wn rfl) rfl rfl rfl F S rfl rfl ?_; clear F a S; rintro b3 a w F S
 refine wE (ev_assign rfl) F S rfl fun a F=>?_
 refine wpList_nil ?_
 refine then_n ?_
 refine wp_seq ?_
 refine wp_region_lit ?_
 refine wE (ev_loadA tu24 rfl (cs := [vbase1]) ts24 rfl (box_ptr (cells := [vbase1]) 2 rfl 0 rfl (lb rfl))) F S rfl fun a F=>?_
 refine wE (ev_loadA tu24 rfl (cs := [vleft1]) ts24 rfl (box_ptr (cells := [vleft1]) 1 rfl 0 rfl (lb rfl))) F S rfl fun a F=>?_
 refine wE (ev_loadA tu24 rfl (cs := [vright1]) ts24 rfl (box_ptr (cells := [vright1]) 0 rfl 0 rfl (lb rfl))) F S rfl fun a F=>?_
 obtain ⟨y1, hy1, hm⟩ := bind_some hm
 refine wl_call0 (wn rfl) rfl F rfl (syntax_Merge_ok (fr := (fl [[bx b3 #[vright1] 24], [bx b2 #[vleft1] 24], [bx b1 #[vbase1] 24]] fr)) base vbase1 hbase1 left vleft1 hleft1 right vright1 hright1 S hy1) rfl tc18 rfl rfl ?_; clear F a S
 rintro _ a w ⟨g1, v1, v2, c1, c2, l1, S, h1, h2, rfl⟩ F; replace S : St g1 [c1, c2, [bx b3 #[vright1] 24], [bx b2 #[vleft1] 24], [bx b1 #[vbase1] 24]] fr w := S
 refine wE (ev_move rfl) F S rfl fun a F=>?_
 refine wE (ev_extract rfl rfl) F S rfl fun a F=>?_
 refine wE (ev_extract rfl rfl) F S rfl fun a F=>?_
 refine wE (ev_extract rfl rfl) F S rfl fun a F=>?_
 refine wl_alloc (wn rfl) rfl tz24 (cs := [nilS]) rfl F S rfl rfl ?_; clear F a S; rintro b4 a w F S
 refine wl_alloc (wn rfl) rfl tz26 (cs := [.i6 0, .i6 0]) rfl F S rfl rfl ?_; clear F a S; rintro b5 a w F S
 refine wl_storeC (wn rfl) rfl F S rfl rfl (vs := [v1]) rfl ts24 (one_cons (OwnS.one h1) one_nil) (k := 1) rfl (lb rfl) (c' := #[v1]) rfl rfl ?_; clear S; intro w S
 refine wE (ev_assign rfl) F S rfl fun a F=>?_
 refine wl_storeC (wn rfl) rfl F S rfl rfl (vs := [.i6 y1.2.2.Code, .i6 y1.2.2.Index]) rfl ts26 (one_cons rfl (one_cons rfl one_nil)) (k := 0) rfl (lb rfl) (c' := #[.i6 y1.2.2.Code, .i6 y1.2.2.Index]) rfl rfl ?_; clear S; intro w S
 refine wpList_nil ?_
 refine then_n ?_
 refine wp_seq ?_
 refine wp_seq ?_
 refine wp_region_lit ?_
 refine wE (ev_fieldAddr' tu26 tf26_0 (z := 0) ts3 rfl ⟨_, rfl⟩ rfl) F S rfl fun a F=>?_
 refine wE (ev_load1 tu3 rfl rfl (box_ptr (cells := [.i6 y1.2.2.Code]) 0 rfl 0 rfl (lb rfl))) F S rfl fun a F=>?_
 refine wE (ev_int rfl rfl (bo_neq _ _ _ _)) F S rfl fun a F=>?_
 refine wpList_nil ?_
 refine then_n ?_
 obtain ⟨hc1, hm⟩ | ⟨hc1, hm⟩ := ite_or hm
 ·refine wp_condT F rfl hc1 ?_
  refine wp_seq ?_
  refine wp_region_lit ?_
  obtain ⟨y2, hy2, hm⟩ := bind_some hm
  refine wl_call0 (wn rfl) rfl F rfl (changeforgelaw2_parsed_ok (fr := (fl [[bx b5 #[.i6 y1.2.2.Code, .i6 y1.2.2.Index] 26], [bx b4 #[v1] 24], c1, c2, [bx b3 #[vright1] 24], [bx b2 #[vleft1] 24], [bx b1 #[vbase1] 24]] fr))  S hy2) rfl tc16 rfl rfl ?_; clear F a S
  rintro _ a w ⟨g2, l2, S, rfl⟩ F; replace S : St g2 [[bx b5 #[.i6 y1.2.2.Code, .i6 y1.2.2.Index] 26], [bx b4 #[v1] 24], c1, c2, [bx b3 #[vright1] 24], [bx b2 #[vleft1] 24], [bx b1 #[vbase1] 24]] fr w := S
  refine wE (ev_assign rfl) F S rfl fun a F=>?_
  refine wpList_nil ?_
  refine then_n ?_
  refine wp_ret ?_
  refine then_r ?_
  obtain rfl := sinj hm
  refine post_r _ F rfl (ar_cons (resT rfl) ar_nil) ?_
  replace S : St g2 [] fr w := St.tail [] _ S
  exact ⟨_, rfl, g2, (l1.trans l2), S, rfl⟩
 ·refine wp_condF F rfl hc1 ?_
  refine wp_skip ?_
  refine then_n ?_
  refine wp_cut (fun a w => ∃ (g3 : Gh), Fr 67 a [(7, bp b4 0)] ∧ Le g1 g3 ∧ St g3 [[bx b4 #[v1] 24], c1] fr w ∧ changeforgelaw2_SyntaxMergeValid.j1 y1 = some r) ?_ ?_
  ·refine wp_seq ?_
   refine wp_region_lit ?_
   refine wE (ev_assign rfl) F S rfl fun a F=>?_
   refine wpList_nil ?_
   refine then_n ?_
   refine wp_block ?_
   obtain ⟨r1, hr1, hm⟩ := bind_some hm
   have hmo1 := hm; clear hm
   refine wp_iter (σ := Int) (ρ := Bool ⊕ Unit) (m := fun s => changeforgelaw2_SyntaxMergeValid.l1 y1 s) (I := fun x2 a w => ∃ (g8 : Gh), Fr 67 a [(10, .i6 x2), (8, v2), (7, bp b4 0)] ∧ Le g1 g8 ∧ St g8 [c2, [bx b4 #[v1] 24], c1] fr w) hr1 ?_ ?_
   ·replace S : St g1 [c2, [bx b4 #[v1] 24], c1] fr w := St.tail [c2, [bx b4 #[v1] 24], c1] _ (((S.frontC 2 rfl).frontC 2 rfl).frontC 5 rfl)
    exact ⟨g1, F.sub ⟨rfl, rfl, rfl, trivial⟩, (Le.refl _), S⟩
   ·clear F S; rintro x2 a w x3 ⟨g8, F, l8, S⟩ hx2 hfin1
    have hm : changeforgelaw2_SyntaxMergeValid.l1 y1 x2 = some x3 := hx2; clear hx2
    unfold changeforgelaw2_SyntaxMergeValid.l1 at hm
    refine wp_seq ?_
    refine wp_seq ?_
    refine wp_region_lit ?_
    refine wE (ev_move rfl) F S rfl fun a F=>?_
    refine wE (ev_move rfl) F S rfl fun a F=>?_
    refine wE (ev_lenOw h2 rfl tu38) F S rfl fun a F=>?_
    refine wE (ev_int rfl rfl (bo_lss _ _ _ _)) F S rfl fun a F=>?_
    refine wpList_nil ?_
    refine then_n ?_
    obtain ⟨hc3, hm⟩ | ⟨hc3, hm⟩ := ite_or hm
    ·refine wp_condT F rfl hc3 ?_
     refine wp_skip ?_
     refine then_n ?_
     refine wp_seq ?_
     refine wp_block ?_
     refine wp_seq ?_
     refine wp_quiet mo (by kernel_rfl) S ?_
     refine wq_ev (wn rfl) (ev_move rfl) F rfl rfl ?_; clear F a; intro a F
     refine wq_ev (wn rfl) (ev_move rfl) F rfl rfl ?_; clear F a; intro a F
     obtain ⟨y5, hy5, hm⟩ := bind_some hm
     refine wq_ev (wn rfl) (ev_idxO (h2.mono l8) hy5 tu38 ts3 rfl rfl) F rfl rfl ?_; clear F a; intro a F
     obtain ⟨cs1, hr2, hq1⟩ := elemO (h2.mono l8) hy5
     obtain rfl := rep_int hr2
     refine wq_ev (wn rfl) (ev_load1 tu3 rfl rfl (hq1 _ _ 0 rfl)) F rfl rfl ?_; clear F a; intro a F
     refine wq_ev (wn rfl) (ev_int rfl rfl (bo_lss _ _ _ _)) F rfl rfl ?_; clear F a; intro a F
     refine wq_ev (wn rfl) (ev_move rfl) F rfl rfl ?_; clear F a; intro a F
     obtain ⟨x4, hx3, hm⟩ := bind_some hm
     refine wq_cut 9 (fun a => Fr 67 a [(43, .bool x4), (10, .i6 x2), (8, v2), (7, bp b4 0)]) ?_ ?_
     ·clear hm; obtain ⟨hc4, hm⟩ | ⟨hc4, hm⟩ := ite_or hx3
      ·refine wq_skip rfl rfl rfl rfl (ne_ft hc4) F rfl rfl ?_; clear F a; intro a F
       refine wq_skip rfl rfl rfl rfl (ne_ft hc4) F rfl rfl ?_; clear F a; intro a F
       refine wq_skip rfl rfl rfl rfl (ne_ft hc4) F rfl rfl ?_; clear F a; intro a F
       refine wq_skip rfl rfl rfl rfl (ne_ft hc4) F rfl rfl ?_; clear F a; intro a F
       refine wq_skip rfl rfl rfl rfl (ne_ft hc4) F rfl rfl ?_; clear F a; intro a F
       refine wq_skip rfl rfl rfl rfl (ne_ft hc4) F rfl rfl ?_; clear F a; intro a F
       refine wq_skip rfl rfl rfl rfl (ne_ft hc4) F rfl rfl ?_; clear F a; intro a F
       refine wq_skip rfl rfl rfl rfl (ne_ft hc4) F rfl rfl ?_; clear F a; intro a F
       refine wq_ev (wn rfl) (ev_pickT rfl hc4 rfl) F rfl rfl ?_; clear F a; intro a F
       obtain rfl := sinj hm
       refine wq_nil ?_; exact F.sub ⟨rfl, rfl, rfl, rfl, trivial⟩
      ·refine wq_ev (wg F rfl rfl rfl rfl hc4) (ev_move rfl) F rfl rfl ?_; clear F a; intro a F
       refine wq_ev (wg F rfl rfl rfl rfl hc4) (ev_move rfl) F rfl rfl ?_; clear F a; intro a F
       obtain ⟨y6, hy6, hm⟩ := bind_some hm
       refine wq_ev (wg F rfl rfl rfl rfl hc4) (ev_idxO (h2.mono l8) hy6 tu38 ts3 rfl rfl) F rfl rfl ?_; clear F a; intro a F
       obtain ⟨cs2, hr3, hq2⟩ := elemO (h2.mono l8) hy6
       obtain rfl := rep_int hr3
       refine wq_ev (wg F rfl rfl rfl rfl hc4) (ev_load1 tu3 rfl rfl (hq2 _ _ 0 rfl)) F rfl rfl ?_; clear F a; intro a F
       refine wq_ev (wg F rfl rfl rfl rfl hc4) (ev_fieldAddr' tu24 tf24_0 (z := 0) ts22 rfl ⟨_, rfl⟩ rfl) F rfl rfl ?_; clear F a; intro a F
       refine wq_ev (wg F rfl rfl rfl rfl hc4) (ev_load1 tu22 rfl rfl (box_ptr (cells := [v1]) 1 rfl 0 rfl (lb rfl))) F rfl rfl ?_; clear F a; intro a F
       refine wq_ev (wg F rfl rfl rfl rfl hc4) (ev_lenOw h1 rfl tu22) F rfl rfl ?_; clear F a; intro a F
       refine wq_ev (wg F rfl rfl rfl rfl hc4) (ev_int rfl rfl (bo_geq _ _ _ _)) F rfl rfl ?_; clear F a; intro a F
       refine wq_ev (wn rfl) (ev_pickF rfl hc4 rfl) F rfl rfl ?_; clear F a; intro a F
       obtain rfl := sinj hm
       refine wq_nil ?_; exact F.sub ⟨rfl, rfl, rfl, rfl, trivial⟩
     clear F; intro a F
     refine wq_ev (wn rfl) (ev_move rfl) F rfl rfl ?_; clear F a; intro a F
     obtain ⟨x5, hx4, hm⟩ := bind_some hm
     refine wq_cut 15 (fun a => Fr 67 a [(59, .bool x5), (10, .i6 x2), (8, v2), (7, bp b4 0)]) ?_ ?_
     ·clear hm; obtain ⟨hc5, hm⟩ | ⟨hc5, hm⟩ := ite_or hx4
      ·refine wq_skip rfl rfl rfl rfl (ne_ft hc5) F rfl rfl ?_; clear F a; intro a F
       refine wq_skip rfl rfl rfl rfl (ne_ft hc5) F rfl rfl ?_; clear F a; intro a F
       refine wq_skip rfl rfl rfl rfl (ne_ft hc5) F rfl rfl ?_; clear F a; intro a F
       refine wq_skipu rfl rfl rfl rfl F rfl rfl ?_; clear F a; intro a F
       refine wq_skipu rfl rfl rfl rfl F rfl rfl ?_; clear F a; intro a F
       refine wq_skipu rfl rfl rfl rfl F rfl rfl ?_; clear F a; intro a F
       refine wq_skipu rfl rfl rfl rfl F rfl rfl ?_; clear F a; intro a F
       refine wq_skipu rfl rfl rfl rfl F rfl rfl ?_; clear F a; intro a F
       refine wq_skipu rfl rfl rfl rfl F rfl rfl ?_; clear F a; intro a F
       refine wq_skipu rfl rfl rfl rfl F rfl rfl ?_; clear F a; intro a F
       refine wq_skipu rfl rfl rfl rfl F rfl rfl ?_; clear F a; intro a F
       refine wq_skipu rfl rfl rfl rfl F rfl rfl ?_; clear F a; intro a F
       refine wq_skipu rfl rfl rfl rfl F rfl rfl ?_; clear F a; intro a F
       refine wq_skip rfl rfl rfl rfl (ne_ft hc5) F rfl rfl ?_; clear F a; intro a F
       refine wq_ev (wn rfl) (ev_pickT rfl hc5 rfl) F rfl rfl ?_; clear F a; intro a F
       obtain rfl := sinj hm
       refine wq_nil ?_; exact F.sub ⟨rfl, rfl, rfl, rfl, trivial⟩
      ·refine wq_ev (wg F rfl rfl rfl rfl hc5) (ev_move rfl) F rfl rfl ?_; clear F a; intro a F
       refine wq_ev (wg F rfl rfl rfl rfl hc5) (ev_int rfl rfl (bo_gtr _ _ _ _)) F rfl rfl ?_; clear F a; intro a F
       refine wq_ev (wg F rfl rfl rfl rfl hc5) (ev_move rfl) F rfl rfl ?_; clear F a; intro a F
       obtain ⟨x6, hx5, hm⟩ := bind_some hm
       refine wq_cut 11 (fun a => Fr 67 a [(58, .bool x6), (47, .bool (decide (x2 > 0))), (46, .bool (decide (x2 > 0))), (45, .i6 x2), (44, .bool x4), (10, .i6 x2), (8, v2), (7, bp b4 0)]) ?_ ?_
       ·clear hm; obtain ⟨hc6, hm⟩ | ⟨hc6, hm⟩ := ite_or hx5
        ·refine wq_ev (wg F rfl rfl rfl rfl hc6) (ev_move rfl) F rfl rfl ?_; clear F a; intro a F
         refine wq_ev (wg F rfl rfl rfl rfl hc6) (ev_move rfl) F rfl rfl ?_; clear F a; intro a F
         obtain ⟨y7, hy7, hm⟩ := bind_some hm
         refine wq_ev (wg F rfl rfl rfl rfl hc6) (ev_idxO (h2.mono l8) hy7 tu38 ts3 rfl rfl) F rfl rfl ?_; clear F a; intro a F
         obtain ⟨cs3, hr4, hq3⟩ := elemO (h2.mono l8) hy7
         obtain rfl := rep_int hr4
         refine wq_ev (wg F rfl rfl rfl rfl hc6) (ev_load1 tu3 rfl rfl (hq3 _ _ 0 rfl)) F rfl rfl ?_; clear F a; intro a F
         refine wq_ev (wg F rfl rfl rfl rfl hc6) (ev_move rfl) F rfl rfl ?_; clear F a; intro a F
         refine wq_ev (wg F rfl rfl rfl rfl hc6) (ev_move rfl) F rfl rfl ?_; clear F a; intro a F
         obtain ⟨z1, hz1, hm⟩ := bind_some hm
         refine wq_ev (wg F rfl rfl rfl rfl hc6) (ev_int rfl rfl (bo_sub hz1)) F rfl rfl ?_; clear F a; intro a F
         obtain ⟨y8, hy8, hm⟩ := bind_some hm
         refine wq_ev (wg F rfl rfl rfl rfl hc6) (ev_idxO (h2.mono l8) hy8 tu38 ts3 rfl rfl) F rfl rfl ?_; clear F a; intro a F
         obtain ⟨cs4, hr5, hq4⟩ := elemO (h2.mono l8) hy8
         obtain rfl := rep_int hr5
         refine wq_ev (wg F rfl rfl rfl rfl hc6) (ev_load1 tu3 rfl rfl (hq4 _ _ 0 rfl)) F rfl rfl ?_; clear F a; intro a F
         refine wq_ev (wg F rfl rfl rfl rfl hc6) (ev_int rfl rfl (bo_leq _ _ _ _)) F rfl rfl ?_; clear F a; intro a F
         refine wq_ev (wg F rfl rfl rfl rfl hc5) (ev_pickT rfl hc6 rfl) F rfl rfl ?_; clear F a; intro a F
         obtain rfl := sinj hm
         refine wq_nil ?_; exact F.sub ⟨rfl, rfl, rfl, rfl, rfl, rfl, rfl, rfl, trivial⟩
        ·refine wq_skip rfl rfl rfl rfl (ne_tf hc6) F rfl rfl ?_; clear F a; intro a F
         refine wq_skip rfl rfl rfl rfl (ne_tf hc6) F rfl rfl ?_; clear F a; intro a F
         refine wq_skip rfl rfl rfl rfl (ne_tf hc6) F rfl rfl ?_; clear F a; intro a F
         refine wq_skip rfl rfl rfl rfl (ne_tf hc6) F rfl rfl ?_; clear F a; intro a F
         refine wq_skip rfl rfl rfl rfl (ne_tf hc6) F rfl rfl ?_; clear F a; intro a F
         refine wq_skip rfl rfl rfl rfl (ne_tf hc6) F rfl rfl ?_; clear F a; intro a F
         refine wq_skip rfl rfl rfl rfl (ne_tf hc6) F rfl rfl ?_; clear F a; intro a F
         refine wq_skip rfl rfl rfl rfl (ne_tf hc6) F rfl rfl ?_; clear F a; intro a F
         refine wq_skip rfl rfl rfl rfl (ne_tf hc6) F rfl rfl ?_; clear F a; intro a F
         refine wq_skip rfl rfl rfl rfl (ne_tf hc6) F rfl rfl ?_; clear F a; intro a F
         refine wq_ev (wg F rfl rfl rfl rfl hc5) (ev_pickF rfl hc6 rfl) F rfl rfl ?_; clear F a; intro a F
         obtain rfl := sinj hm
         refine wq_nil ?_; exact F.sub ⟨rfl, rfl, rfl, rfl, rfl, rfl, rfl, rfl, trivial⟩
       clear F; intro a F
       refine wq_ev (wn rfl) (ev_pickF rfl hc5 rfl) F rfl rfl ?_; clear F a; intro a F
       obtain rfl := sinj hm
       refine wq_nil ?_; exact F.sub ⟨rfl, rfl, rfl, rfl, trivial⟩
     clear F; intro a F
     refine wq_nil ?_; clear S; intro w S
     refine then_n ?_
     obtain ⟨hc7, hm⟩ | ⟨hc7, hm⟩ := ite_or hm
     ·refine wp_condT F rfl hc7 ?_
      refine wp_seq ?_
      refine wp_region_lit ?_
      refine wE (ev_assign rfl) F S rfl fun a F=>?_
      refine wpList_nil ?_
      refine then_n ?_
      refine wp_ret ?_
      refine inb_r ?_
      refine then_r ?_
      refine then_r ?_
      refine inb_r ?_
      refine then_r ?_
      obtain rfl := sinj hm
      obtain rfl := hfin1 _ rfl
      clear hm
      have hm : (some false : Option Bool) = some _ := hmo1
      obtain rfl := sinj hm
      refine post_r _ F rfl (ar_cons (resT rfl) ar_nil) ?_
      replace S : St g8 [] fr w := St.tail [] _ S
      exact ⟨_, rfl, g8, (l1.trans l8), S, rfl⟩
     ·refine wp_condF F rfl hc7 ?_
      refine wp_skip ?_
      refine inb_n ?_
      refine then_n ?_
      refine wp_region_lit ?_
      refine wE (ev_move rfl) F S rfl fun a F=>?_
      obtain ⟨z2, hz2, hm⟩ := bind_some hm
      refine wE (ev_int rfl rfl (bo_add hz2)) F S rfl fun a F=>?_
      refine wE (ev_assign rfl) F S rfl fun a F=>?_
      refine wpList_nil ?_
      refine then_n ?_
      obtain rfl := sinj hm
      refine ⟨_, rfl, ?_⟩
      exact ⟨g8, F.sub ⟨rfl, rfl, rfl, trivial⟩, l8, S⟩
    ·refine wp_condF F rfl hc3 ?_
     refine wp_exit ?_
     refine then_e ?_
     refine then_e ?_
     refine inb_x ?_
     refine then_n ?_
     obtain rfl := sinj hm
     obtain rfl := hfin1 _ rfl
     clear hm
     have hm : (changeforgelaw2_SyntaxMergeValid.j1 y1 : Option Bool) = some _ := hmo1
     replace S : St g8 [[bx b4 #[v1] 24], c1] fr w := St.tail [[bx b4 #[v1] 24], c1] _ ((S.frontC 2 rfl).frontC 2 rfl)
     exact ⟨g8, F.sub ⟨rfl, trivial⟩, l8, S, hm⟩
  ·clear F S hm; rintro a w ⟨g3, F, l3, S, hm⟩
   refine wp_seq ?_
   refine wp_region_lit ?_
   refine wE (ev_loadA tu24 rfl (cs := [v1]) ts24 rfl (box_ptr (cells := [v1]) 0 rfl 0 rfl (lb rfl))) F S rfl fun a F=>?_
   obtain ⟨g4, l4, S, h3⟩ : ∃ gz, Le g3 gz ∧ St gz [[bx b4 #[v1] 24]] fr w ∧ RepSl gz y1.1.Nodes v1 := ⟨_, Le.add _ _, S.freeze 1 rfl, OwnS.freeze (S.front 1 rfl) (h1.mono l3)⟩
   obtain ⟨y3, hy3, hm⟩ := bind_some hm
   refine wl_call0 (wn rfl) rfl F rfl (syntax_Validate_ok (fr := (fl [[bx b4 #[v1] 24]] fr)) y1.1 v1 h3 S hy3) rfl tc14 rfl rfl ?_; clear F a S
   rintro _ a w ⟨g5, l5, S, rfl⟩ F; replace S : St g5 [[bx b4 #[v1] 24]] fr w := S
   refine wE (ev_field1 tu26 tf26_0 tu3 rfl (cs := [.i6 y3.Code, .i6 y3.Index]) rfl rfl) F S rfl fun a F=>?_
   refine wE (ev_int rfl rfl (bo_eql _ _ _ _)) F S rfl fun a F=>?_
   refine wE (ev_move rfl) F S rfl fun a F=>?_
   obtain ⟨x1, hx1, hm⟩ := bind_some hm
   refine wl_cut 2 (fun a w => ∃ g6, Fr 67 a [(66, .bool x1)] ∧ Le g5 g6 ∧ St g6 [[bx b4 #[v1] 24]] fr w) ?_ ?_
   ·clear hm; obtain ⟨hc2, hm⟩ | ⟨hc2, hm⟩ := ite_or hx1
    ·obtain ⟨y4, hy4, hm⟩ := bind_some hm
     refine wl_call0 (wg F rfl rfl rfl rfl hc2) rfl F rfl (changeforgelaw2_parsed_ok (fr := (fl [[bx b4 #[v1] 24]] fr))  S hy4) rfl tc16 rfl rfl ?_; clear F a S
     rintro _ a w ⟨g7, l7, S, rfl⟩ F; replace S : St g7 [[bx b4 #[v1] 24]] fr w := S
     refine wE (ev_pickT rfl hc2 rfl) F S rfl fun a F=>?_
     obtain rfl := sinj hm
     refine wpList_nil (then_n ?_); exact ⟨g7, F.sub ⟨rfl, trivial⟩, l7, S⟩
    ·refine wl_skip rfl rfl rfl rfl (ne_tf hc2) F rfl rfl ?_; clear F a; intro a F
     refine wE (ev_pickF rfl hc2 rfl) F S rfl fun a F=>?_
     obtain rfl := sinj hm
     refine wpList_nil (then_n ?_); exact ⟨g5, F.sub ⟨rfl, trivial⟩, (Le.refl _), S⟩
   clear F S; rintro a w ⟨g6, F, l6, S⟩
   refine wE (ev_assign rfl) F S rfl fun a F=>?_
   refine wpList_nil ?_
   refine then_n ?_
   refine wp_ret ?_
   obtain rfl := sinj hm
   refine post_r _ F rfl (ar_cons (resT rfl) ar_nil) ?_
   replace S : St g6 [] fr w := St.tail [] _ S
   exact ⟨_, rfl, g6, ((((l1.trans l3).trans l4).trans l5).trans l6), S, rfl⟩
end Go.Dc
