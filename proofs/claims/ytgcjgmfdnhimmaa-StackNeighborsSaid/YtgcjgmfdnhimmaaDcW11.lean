/- Walks: each function comes to what its model says. -/
import Derived.Test.YtgcjgmfdnhimmaaDcTab
import Derived.Test.YtgcjgmfdnhimmaaDcM
import Derived.Test.YtgcjgmfdnhimmaaDcW2
import Derived.Test.YtgcjgmfdnhimmaaDcW3
import Derived.Test.YtgcjgmfdnhimmaaDcW4
import Derived.Test.YtgcjgmfdnhimmaaDcW7
namespace Go.Dc
open Go Go.Proofs
set_option maxRecDepth 100000
set_option maxHeartbeats 4000000
set_option linter.unusedVariables false
theorem changeforgelaw2_StackNeighbors_ok {g : Gh} {fr : Hl} {w : World} {r : Bool} (l_ : (List Patch)) (vl_1 : Value) (hl_1 : RepSl g l_ vl_1) (i_ : Int) (S : St g [] fr w) (hm : changeforgelaw2_StackNeighbors l_ i_ = some r) :
  Calls Try.prog 6 [vl_1, .i6 i_].toArray w (fun en w' => ∃ v, en = .returned v ∧ ∃ (g' : Gh), Le g g' ∧ St g' [] fr w' ∧ .bool r = v) := by
 unfold changeforgelaw2_StackNeighbors at hm
 refine calls_enter (fn := Try.f6) Try.func6 rfl Try.ntmps6 (lb rfl) ?_
 intro a F
 replace F : Fr 82 a [(0, vl_1), (1, .i6 i_)] := F
 refine wp_seq ?_
 refine wp_region_lit ?_
 refine wE (ev_assign rfl) F S rfl fun a F=>?_
 refine wpList_nil ?_
 refine then_n ?_
 refine wp_seq ?_
 refine wp_region_lit ?_
 refine wE (ev_move rfl) F S rfl fun a F=>?_
 refine wE (ev_move rfl) F S rfl fun a F=>?_
 refine wE (ev_move rfl) F S rfl fun a F=>?_
 refine wE (ev_int rfl rfl bo_addw) F S rfl fun a F=>?_
 obtain ⟨y1, hy1, hm⟩ := bind_some hm
 refine wl_call0 (wn rfl) rfl F rfl (stack_Move_ok l_ vl_1 hl_1 i_ (wr .i64 (i_ + 1)) S hy1) rfl tc10 rfl rfl ?_; clear F a S
 rintro _ a w ⟨g1, v1, c1, l1, S, h1, rfl⟩ F; replace S : St g1 [c1] fr w := S
 refine wE (ev_move rfl) F S rfl fun a F=>?_
 refine wE (ev_extract rfl rfl) F S rfl fun a F=>?_
 refine wE (ev_extract rfl rfl) F S rfl fun a F=>?_
 refine wE (ev_extract rfl rfl) F S rfl fun a F=>?_
 refine wl_alloc (wn rfl) rfl tz24 (cs := [.i6 0, .i6 0]) rfl F S rfl rfl ?_; clear F a S; rintro b1 a w F S
 refine wE (ev_assign rfl) F S rfl fun a F=>?_
 refine wE (ev_assign rfl) F S rfl fun a F=>?_
 refine wl_storeC (wn rfl) rfl F S rfl rfl (vs := [.i6 y1.2.2.Code, .i6 y1.2.2.Index]) rfl ts24 (one_cons rfl (one_cons rfl one_nil)) (k := 0) rfl (lb rfl) (c' := #[.i6 y1.2.2.Code, .i6 y1.2.2.Index]) rfl rfl ?_; clear S; intro w S
 refine wpList_nil ?_
 refine then_n ?_
 refine wp_seq ?_
 refine wp_seq ?_
 refine wp_region_lit ?_
 refine wE (ev_fieldAddr' tu24 tf24_0 (z := 0) ts3 rfl ⟨_, rfl⟩ rfl) F S rfl fun a F=>?_
 refine wE (ev_load1 tu3 rfl rfl (box_ptr (cells := [.i6 y1.2.2.Code]) 0 rfl 0 rfl (lb rfl))) F S rfl fun a F=>?_
 refine wE (ev_int rfl rfl (bo_neq _ _ _ _)) F S rfl fun a F=>?_
 refine wE (ev_move rfl) F S rfl fun a F=>?_
 obtain ⟨x1, hx1, hm⟩ := bind_some hm
 refine wl_cut 3 (fun a w' => w = w' ∧ Fr 82 a [(27, .bool x1), (6, .bool y1.2.1), (5, v1), (0, vl_1), (1, .i6 i_)]) ?_ ?_
 ·clear hm; obtain ⟨hc1, hm⟩ | ⟨hc1, hm⟩ := ite_or hx1
  ·refine wl_skip rfl rfl rfl rfl (ne_ft hc1) F rfl rfl ?_; clear F a; intro a F
   refine wl_skip rfl rfl rfl rfl (ne_ft hc1) F rfl rfl ?_; clear F a; intro a F
   refine wE (ev_pickT rfl hc1 rfl) F S rfl fun a F=>?_
   obtain rfl := sinj hm
   refine wpList_nil (then_n ?_); exact ⟨rfl, F.sub ⟨rfl, rfl, rfl, rfl, rfl, trivial⟩⟩
  ·refine wl_ev (wg F rfl rfl rfl rfl hc1) (ev_move rfl) F S rfl rfl ?_; clear F a; intro a F
   refine wl_ev (wg F rfl rfl rfl rfl hc1) (ev_int rfl rfl (bo_lss _ _ _ _)) F S rfl rfl ?_; clear F a; intro a F
   refine wE (ev_pickF rfl hc1 rfl) F S rfl fun a F=>?_
   obtain rfl := sinj hm
   refine wpList_nil (then_n ?_); exact ⟨rfl, F.sub ⟨rfl, rfl, rfl, rfl, rfl, trivial⟩⟩
 clear F; rintro a w' ⟨rfl, F⟩
 refine wE (ev_move rfl) F S rfl fun a F=>?_
 obtain ⟨x2, hx2, hm⟩ := bind_some hm
 refine wl_cut 6 (fun a w' => w = w' ∧ Fr 82 a [(34, .bool x2), (6, .bool y1.2.1), (5, v1), (0, vl_1), (1, .i6 i_)]) ?_ ?_
 ·clear hm; obtain ⟨hc2, hm⟩ | ⟨hc2, hm⟩ := ite_or hx2
  ·refine wl_skip rfl rfl rfl rfl (ne_ft hc2) F rfl rfl ?_; clear F a; intro a F
   refine wl_skip rfl rfl rfl rfl (ne_ft hc2) F rfl rfl ?_; clear F a; intro a F
   refine wl_skip rfl rfl rfl rfl (ne_ft hc2) F rfl rfl ?_; clear F a; intro a F
   refine wl_skip rfl rfl rfl rfl (ne_ft hc2) F rfl rfl ?_; clear F a; intro a F
   refine wl_skip rfl rfl rfl rfl (ne_ft hc2) F rfl rfl ?_; clear F a; intro a F
   refine wE (ev_pickT rfl hc2 rfl) F S rfl fun a F=>?_
   obtain rfl := sinj hm
   refine wpList_nil (then_n ?_); exact ⟨rfl, F.sub ⟨rfl, rfl, rfl, rfl, rfl, trivial⟩⟩
  ·refine wl_ev (wg F rfl rfl rfl rfl hc2) (ev_move rfl) F S rfl rfl ?_; clear F a; intro a F
   refine wl_ev (wg F rfl rfl rfl rfl hc2) (ev_move rfl) F S rfl rfl ?_; clear F a; intro a F
   refine wl_ev (wg F rfl rfl rfl rfl hc2) (ev_lenSh hl_1 rfl tu22) F S rfl rfl ?_; clear F a; intro a F
   refine wl_ev (wg F rfl rfl rfl rfl hc2) (ev_int rfl rfl bo_subw) F S rfl rfl ?_; clear F a; intro a F
   refine wl_ev (wg F rfl rfl rfl rfl hc2) (ev_int rfl rfl (bo_geq _ _ _ _)) F S rfl rfl ?_; clear F a; intro a F
   refine wE (ev_pickF rfl hc2 rfl) F S rfl fun a F=>?_
   obtain rfl := sinj hm
   refine wpList_nil (then_n ?_); exact ⟨rfl, F.sub ⟨rfl, rfl, rfl, rfl, rfl, trivial⟩⟩
 clear F; rintro a w' ⟨rfl, F⟩
 refine wpList_nil ?_
 refine then_n ?_
 obtain ⟨hc3, hm⟩ | ⟨hc3, hm⟩ := ite_or hm
 ·refine wp_condT F rfl hc3 ?_
  refine wp_seq ?_
  refine wp_region_lit ?_
  obtain ⟨y2, hy2, hm⟩ := bind_some hm
  refine wl_call0 (wn rfl) rfl F rfl (changeforgelaw2_dropped_ok (fr := (fl [[bx b1 #[.i6 y1.2.2.Code, .i6 y1.2.2.Index] 24], c1] fr))  S hy2) rfl tc15 rfl rfl ?_; clear F a S
  rintro _ a w ⟨g2, l2, S, rfl⟩ F; replace S : St g2 [[bx b1 #[.i6 y1.2.2.Code, .i6 y1.2.2.Index] 24], c1] fr w := S
  refine wE (ev_assign rfl) F S rfl fun a F=>?_
  refine wpList_nil ?_
  refine then_n ?_
  refine wp_ret ?_
  refine then_r ?_
  obtain rfl := sinj hm
  refine post_r _ F rfl (ar_cons (resT rfl) ar_nil) ?_
  replace S : St g2 [] fr w := St.tail [] _ S
  exact ⟨_, rfl, g2, (l1.trans l2), S, rfl⟩
 ·refine wp_condF F rfl hc3 ?_
  refine wp_skip ?_
  refine then_n ?_
  refine wp_seq ?_
  refine wp_dv [] mo S ?_; clear S; intro ok1 w S
  refine dv_et ok1 0 rfl (ev_move rfl) F rfl fun a F=>?_
  refine dv_et ok1 1 rfl (ev_move rfl) F rfl fun a F=>?_
  obtain ⟨y3, hy3, hm⟩ := bind_some hm
  obtain ⟨cs1, hr1, hp1⟩ := elemS (hl_1.mono l1) hy3
  obtain ⟨v2, rfl, h2⟩ := rep_Patch hr1
  refine dv_et ok1 2 rfl (ev_idxS (hl_1.mono l1) hy3 tu22 ts38 rfl rfl) F rfl fun a F=>?_
  refine dv_ev ok1 3 rfl (ev_loadA tu38 rfl (cs := [v2]) ts38 rfl (ptr_mono (cks := [[bx b1 #[.i6 y1.2.2.Code, .i6 y1.2.2.Index] 24], c1]) (fr := fr) hp1 (Le.refl _))) F S rfl fun a F=>?_
  refine dv_et ok1 4 rfl (ev_move rfl) F rfl fun a F=>?_
  refine dv_et ok1 5 rfl (ev_move rfl) F rfl fun a F=>?_
  refine dv_et ok1 6 rfl (ev_int rfl rfl bo_addw) F rfl fun a F=>?_
  obtain ⟨y4, hy4, hm⟩ := bind_some hm
  obtain ⟨cs2, hr2, hp2⟩ := elemS (hl_1.mono l1) hy4
  obtain ⟨v3, rfl, h3⟩ := rep_Patch hr2
  refine dv_et ok1 7 rfl (ev_idxS (hl_1.mono l1) hy4 tu22 ts38 rfl rfl) F rfl fun a F=>?_
  refine dv_ev ok1 8 rfl (ev_loadA tu38 rfl (cs := [v3]) ts38 rfl (ptr_mono (cks := [[bx b1 #[.i6 y1.2.2.Code, .i6 y1.2.2.Index] 24], c1]) (fr := fr) hp2 (Le.refl _))) F S rfl fun a F=>?_
  obtain ⟨y5, hy5, hm⟩ := bind_some hm
  refine dv_cut [0, 1, 2, 3, 4, 5, 6, 7, 8, 9, 10, 11, 12, 13, 14, 15, 16, 17] [] (fun a w => ∃ (v6 v7 : Value) (b5 b6 b7 : Nat) (g4 : Gh), Fr 82 a [(11, bp b5 0), (9, bp b6 0), (8, bp b7 0), (50, .agg #[.i6 y5.2.2.2.Code, .i6 y5.2.2.2.Index]), (49, .bool y5.2.2.1), (48, .agg #[v6]), (47, .agg #[v7]), (6, .bool y1.2.1), (5, v1), (0, vl_1), (1, .i6 i_)] ∧ Le g1 g4 ∧ St g4 [[bx b5 #[.i6 0, .i6 0] 24], [bx b6 #[nilS] 38], [bx b7 #[nilS] 38], c1] fr w ∧ RepSl g4 y5.2.1.Hunks v6 ∧ RepSl g4 y5.1.Hunks v7 ∧ changeforgelaw2_StackNeighbors.j1 l_ i_ y1 y5 = some r) ?_ ?_
  ·intro HJ
   refine dv_fork ok1 9 [15, 16, 17] (fk 9 rfl [] ?_ (fk 15 rfl [(8, .agg #[v3]), (3, .agg #[v2])] ?_ (fk 16 rfl [(8, .agg #[v3]), (3, .agg #[v2])] ?_ (fk 17 rfl [(8, .agg #[v3]), (3, .agg #[v2])] ?_ trivial))))
   ·refine wl_call0 (wn rfl) rfl F rfl (commute_Commute_ok (fr := (fl [[bx b1 #[.i6 y1.2.2.Code, .i6 y1.2.2.Index] 24], c1] fr)) y3 v2 h2 y4 v3 h3 S hy5) rfl tc18 rfl rfl ?_; clear F a S
    rintro _ a w ⟨g3, v4, v5, l3, S, h4, h5, rfl⟩ F; replace S : St g3 [[bx b1 #[.i6 y1.2.2.Code, .i6 y1.2.2.Index] 24], c1] fr w := S
    refine dv_nx trivial ?_
    refine dv_et ok1 10 rfl (ev_move rfl) F rfl fun a F=>?_
    refine dv_et ok1 11 rfl (ev_extract rfl rfl) F rfl fun a F=>?_
    refine dv_et ok1 12 rfl (ev_extract rfl rfl) F rfl fun a F=>?_
    refine dv_et ok1 13 rfl (ev_extract rfl rfl) F rfl fun a F=>?_
    refine dv_et ok1 14 rfl (ev_extract rfl rfl) F rfl fun a F=>?_
    refine dv_fork ok1 15 [16, 17] (fk 15 rfl [] ?_ (fk 16 rfl [] ?_ (fk 17 rfl [] ?_ trivial)))
    ·refine wl_alloc (wn rfl) rfl tz38 (cs := [nilS]) rfl F S rfl rfl ?_; clear F a S; rintro b2 a w F S
     refine dv_nx trivial ?_
     refine dv_fork ok1 16 [17] (fk 16 rfl [] ?_ (fk 17 rfl [] ?_ trivial))
     ·refine wl_alloc (wn rfl) rfl tz38 (cs := [nilS]) rfl F S rfl rfl ?_; clear F a S; rintro b3 a w F S
      refine dv_nx trivial ?_
      refine dv_op ok1 17 rfl [] ?_
      refine wl_alloc (wn rfl) rfl tz24 (cs := [.i6 0, .i6 0]) rfl F S rfl rfl ?_; clear F a S; rintro b4 a w F S
      refine dv_nx trivial ?_
      refine dv_join (HJ _ _ ?_)
      replace S : St g3 [[bx b4 #[.i6 0, .i6 0] 24], [bx b3 #[nilS] 38], [bx b2 #[nilS] 38], c1] fr w := St.tail [[bx b4 #[.i6 0, .i6 0] 24], [bx b3 #[nilS] 38], [bx b2 #[nilS] 38], c1] _ ((((S.frontC 4 rfl).frontC 3 rfl).frontC 3 rfl).frontC 3 rfl)
      exact ⟨v5, v4, b4, b3, b2, g3, F.sub ⟨rfl, rfl, rfl, rfl, rfl, rfl, rfl, rfl, rfl, rfl, rfl, trivial⟩, l3, S, h5, h4, hm⟩
     ·refine wl_alloc (wn rfl) rfl tz24 (cs := [.i6 0, .i6 0]) rfl F S rfl rfl ?_; clear F a S; rintro b4 a w F S
      refine dv_nx trivial ?_
      refine dv_op ok1 16 rfl [] ?_
      refine wl_alloc (wn rfl) rfl tz38 (cs := [nilS]) rfl F S rfl rfl ?_; clear F a S; rintro b3 a w F S
      refine dv_nx trivial ?_
      refine dv_join (HJ _ _ ?_)
      replace S : St g3 [[bx b4 #[.i6 0, .i6 0] 24], [bx b3 #[nilS] 38], [bx b2 #[nilS] 38], c1] fr w := St.tail [[bx b4 #[.i6 0, .i6 0] 24], [bx b3 #[nilS] 38], [bx b2 #[nilS] 38], c1] _ ((((S.frontC 4 rfl).frontC 3 rfl).frontC 2 rfl).frontC 4 rfl)
      exact ⟨v5, v4, b4, b3, b2, g3, F.sub ⟨rfl, rfl, rfl, rfl, rfl, rfl, rfl, rfl, rfl, rfl, rfl, trivial⟩, l3, S, h5, h4, hm⟩
    ·refine wl_alloc (wn rfl) rfl tz38 (cs := [nilS]) rfl F S rfl rfl ?_; clear F a S; rintro b3 a w F S
     refine dv_nx trivial ?_
     refine dv_fork ok1 15 [17] (fk 15 rfl [] ?_ (fk 17 rfl [] ?_ trivial))
     ·refine wl_alloc (wn rfl) rfl tz38 (cs := [nilS]) rfl F S rfl rfl ?_; clear F a S; rintro b2 a w F S
      refine dv_nx trivial ?_
      refine dv_op ok1 17 rfl [] ?_
      refine wl_alloc (wn rfl) rfl tz24 (cs := [.i6 0, .i6 0]) rfl F S rfl rfl ?_; clear F a S; rintro b4 a w F S
      refine dv_nx trivial ?_
      refine dv_join (HJ _ _ ?_)
      replace S : St g3 [[bx b4 #[.i6 0, .i6 0] 24], [bx b3 #[nilS] 38], [bx b2 #[nilS] 38], c1] fr w := St.tail [[bx b4 #[.i6 0, .i6 0] 24], [bx b3 #[nilS] 38], [bx b2 #[nilS] 38], c1] _ ((((S.frontC 4 rfl).frontC 2 rfl).frontC 4 rfl).frontC 3 rfl)
      exact ⟨v5, v4, b4, b3, b2, g3, F.sub ⟨rfl, rfl, rfl, rfl, rfl, rfl, rfl, rfl, rfl, rfl, rfl, trivial⟩, l3, S, h5, h4, hm⟩
     ·refine wl_alloc (wn rfl) rfl tz24 (cs := [.i6 0, .i6 0]) rfl F S rfl rfl ?_; clear F a S; rintro b4 a w F S
      refine dv_nx trivial ?_
      refine dv_op ok1 15 rfl [] ?_
      refine wl_alloc (wn rfl) rfl tz38 (cs := [nilS]) rfl F S rfl rfl ?_; clear F a S; rintro b2 a w F S
      refine dv_nx trivial ?_
      refine dv_join (HJ _ _ ?_)
      replace S : St g3 [[bx b4 #[.i6 0, .i6 0] 24], [bx b3 #[nilS] 38], [bx b2 #[nilS] 38], c1] fr w := St.tail [[bx b4 #[.i6 0, .i6 0] 24], [bx b3 #[nilS] 38], [bx b2 #[nilS] 38], c1] _ ((((S.frontC 4 rfl).frontC 1 rfl).frontC 4 rfl).frontC 4 rfl)
      exact ⟨v5, v4, b4, b3, b2, g3, F.sub ⟨rfl, rfl, rfl, rfl, rfl, rfl, rfl, rfl, rfl, rfl, rfl, trivial⟩, l3, S, h5, h4, hm⟩
    ·refine wl_alloc (wn rfl) rfl tz24 (cs := [.i6 0, .i6 0]) rfl F S rfl rfl ?_; clear F a S; rintro b4 a w F S
     refine dv_nx trivial ?_
     refine dv_fork ok1 15 [16] (fk 15 rfl [] ?_ (fk 16 rfl [] ?_ trivial))
     ·refine wl_alloc (wn rfl) rfl tz38 (cs := [nilS]) rfl F S rfl rfl ?_; clear F a S; rintro b2 a w F S
      refine dv_nx trivial ?_
      refine dv_op ok1 16 rfl [] ?_
      refine wl_alloc (wn rfl) rfl tz38 (cs := [nilS]) rfl F S rfl rfl ?_; clear F a S; rintro b3 a w F S
      refine dv_nx trivial ?_
      refine dv_join (HJ _ _ ?_)
      replace S : St g3 [[bx b4 #[.i6 0, .i6 0] 24], [bx b3 #[nilS] 38], [bx b2 #[nilS] 38], c1] fr w := St.tail [[bx b4 #[.i6 0, .i6 0] 24], [bx b3 #[nilS] 38], [bx b2 #[nilS] 38], c1] _ ((((S.frontC 4 rfl).frontC 2 rfl).frontC 2 rfl).frontC 5 rfl)
      exact ⟨v5, v4, b4, b3, b2, g3, F.sub ⟨rfl, rfl, rfl, rfl, rfl, rfl, rfl, rfl, rfl, rfl, rfl, trivial⟩, l3, S, h5, h4, hm⟩
     ·refine wl_alloc (wn rfl) rfl tz38 (cs := [nilS]) rfl F S rfl rfl ?_; clear F a S; rintro b3 a w F S
      refine dv_nx trivial ?_
      refine dv_op ok1 15 rfl [] ?_
      refine wl_alloc (wn rfl) rfl tz38 (cs := [nilS]) rfl F S rfl rfl ?_; clear F a S; rintro b2 a w F S
      refine dv_nx trivial ?_
      refine dv_join (HJ _ _ ?_)
      replace S : St g3 [[bx b4 #[.i6 0, .i6 0] 24], [bx b3 #[nilS] 38], [bx b2 #[nilS] 38], c1] fr w := St.tail [[bx b4 #[.i6 0, .i6 0] 24], [bx b3 #[nilS] 38], [bx b2 #[nilS] 38], c1] _ ((((S.frontC 4 rfl).frontC 1 rfl).frontC 3 rfl).frontC 5 rfl)
      exact ⟨v5, v4, b4, b3, b2, g3, F.sub ⟨rfl, rfl, rfl, rfl, rfl, rfl, rfl, rfl, rfl, rfl, rfl, trivial⟩, l3, S, h5, h4, hm⟩
   ·refine wl_alloc (wn rfl) rfl tz38 (cs := [nilS]) rfl F S rfl rfl ?_; clear F a S; rintro b2 a w F S
    refine dv_nx ⟨yl_ev rfl rfl (ev_loadA tu38 rfl (cs := [v3]) ts38 rfl (ptr_mono (cks := [[bx b2 #[nilS] 38], [bx b1 #[.i6 y1.2.2.Code, .i6 y1.2.2.Index] 24], c1]) (fr := fr) hp2 (Le.refl _))) F S, yl_ev rfl rfl (ev_loadA tu38 rfl (cs := [v2]) ts38 rfl (ptr_mono (cks := [[bx b2 #[nilS] 38], [bx b1 #[.i6 y1.2.2.Code, .i6 y1.2.2.Index] 24], c1]) (fr := fr) hp1 (Le.refl _))) F S, trivial⟩ ?_
    refine dv_fork ok1 9 [16, 17] (fk 9 rfl [] ?_ (fk 16 rfl [(8, .agg #[v3]), (3, .agg #[v2])] ?_ (fk 17 rfl [(8, .agg #[v3]), (3, .agg #[v2])] ?_ trivial)))
    ·refine wl_call0 (wn rfl) rfl F rfl (commute_Commute_ok (fr := (fl [[bx b2 #[nilS] 38], [bx b1 #[.i6 y1.2.2.Code, .i6 y1.2.2.Index] 24], c1] fr)) y3 v2 h2 y4 v3 h3 S hy5) rfl tc18 rfl rfl ?_; clear F a S
     rintro _ a w ⟨g3, v4, v5, l3, S, h4, h5, rfl⟩ F; replace S : St g3 [[bx b2 #[nilS] 38], [bx b1 #[.i6 y1.2.2.Code, .i6 y1.2.2.Index] 24], c1] fr w := S
     refine dv_nx trivial ?_
     refine dv_et ok1 10 rfl (ev_move rfl) F rfl fun a F=>?_
     refine dv_et ok1 11 rfl (ev_extract rfl rfl) F rfl fun a F=>?_
     refine dv_et ok1 12 rfl (ev_extract rfl rfl) F rfl fun a F=>?_
     refine dv_et ok1 13 rfl (ev_extract rfl rfl) F rfl fun a F=>?_
     refine dv_et ok1 14 rfl (ev_extract rfl rfl) F rfl fun a F=>?_
     refine dv_fork ok1 16 [17] (fk 16 rfl [] ?_ (fk 17 rfl [] ?_ trivial))
     ·refine wl_alloc (wn rfl) rfl tz38 (cs := [nilS]) rfl F S rfl rfl ?_; clear F a S; rintro b3 a w F S
      refine dv_nx trivial ?_
      refine dv_op ok1 17 rfl [] ?_
      refine wl_alloc (wn rfl) rfl tz24 (cs := [.i6 0, .i6 0]) rfl F S rfl rfl ?_; clear F a S; rintro b4 a w F S
      refine dv_nx trivial ?_
      refine dv_join (HJ _ _ ?_)
      replace S : St g3 [[bx b4 #[.i6 0, .i6 0] 24], [bx b3 #[nilS] 38], [bx b2 #[nilS] 38], c1] fr w := St.tail [[bx b4 #[.i6 0, .i6 0] 24], [bx b3 #[nilS] 38], [bx b2 #[nilS] 38], c1] _ ((((S.frontC 4 rfl).frontC 3 rfl).frontC 3 rfl).frontC 3 rfl)
      exact ⟨v5, v4, b4, b3, b2, g3, F.sub ⟨rfl, rfl, rfl, rfl, rfl, rfl, rfl, rfl, rfl, rfl, rfl, trivial⟩, l3, S, h5, h4, hm⟩
     ·refine wl_alloc (wn rfl) rfl tz24 (cs := [.i6 0, .i6 0]) rfl F S rfl rfl ?_; clear F a S; rintro b4 a w F S
      refine dv_nx trivial ?_
      refine dv_op ok1 16 rfl [] ?_
      refine wl_alloc (wn rfl) rfl tz38 (cs := [nilS]) rfl F S rfl rfl ?_; clear F a S; rintro b3 a w F S
      refine dv_nx trivial ?_
      refine dv_join (HJ _ _ ?_)
      replace S : St g3 [[bx b4 #[.i6 0, .i6 0] 24], [bx b3 #[nilS] 38], [bx b2 #[nilS] 38], c1] fr w := St.tail [[bx b4 #[.i6 0, .i6 0] 24], [bx b3 #[nilS] 38], [bx b2 #[nilS] 38], c1] _ ((((S.frontC 4 rfl).frontC 3 rfl).frontC 2 rfl).frontC 4 rfl)
      exact ⟨v5, v4, b4, b3, b2, g3, F.sub ⟨rfl, rfl, rfl, rfl, rfl, rfl, rfl, rfl, rfl, rfl, rfl, trivial⟩, l3, S, h5, h4, hm⟩
    ·refine wl_alloc (wn rfl) rfl tz38 (cs := [nilS]) rfl F S rfl rfl ?_; clear F a S; rintro b3 a w F S
     refine dv_nx ⟨yl_ev rfl rfl (ev_loadA tu38 rfl (cs := [v3]) ts38 rfl (ptr_mono (cks := [[bx b3 #[nilS] 38], [bx b2 #[nilS] 38], [bx b1 #[.i6 y1.2.2.Code, .i6 y1.2.2.Index] 24], c1]) (fr := fr) hp2 (Le.refl _))) F S, yl_ev rfl rfl (ev_loadA tu38 rfl (cs := [v2]) ts38 rfl (ptr_mono (cks := [[bx b3 #[nilS] 38], [bx b2 #[nilS] 38], [bx b1 #[.i6 y1.2.2.Code, .i6 y1.2.2.Index] 24], c1]) (fr := fr) hp1 (Le.refl _))) F S, trivial⟩ ?_
     refine dv_fork ok1 9 [17] (fk 9 rfl [] ?_ (fk 17 rfl [(8, .agg #[v3]), (3, .agg #[v2])] ?_ trivial))
     ·refine wl_call0 (wn rfl) rfl F rfl (commute_Commute_ok (fr := (fl [[bx b3 #[nilS] 38], [bx b2 #[nilS] 38], [bx b1 #[.i6 y1.2.2.Code, .i6 y1.2.2.Index] 24], c1] fr)) y3 v2 h2 y4 v3 h3 S hy5) rfl tc18 rfl rfl ?_; clear F a S
      rintro _ a w ⟨g3, v4, v5, l3, S, h4, h5, rfl⟩ F; replace S : St g3 [[bx b3 #[nilS] 38], [bx b2 #[nilS] 38], [bx b1 #[.i6 y1.2.2.Code, .i6 y1.2.2.Index] 24], c1] fr w := S
      refine dv_nx trivial ?_
      refine dv_et ok1 10 rfl (ev_move rfl) F rfl fun a F=>?_
      refine dv_et ok1 11 rfl (ev_extract rfl rfl) F rfl fun a F=>?_
      refine dv_et ok1 12 rfl (ev_extract rfl rfl) F rfl fun a F=>?_
      refine dv_et ok1 13 rfl (ev_extract rfl rfl) F rfl fun a F=>?_
      refine dv_et ok1 14 rfl (ev_extract rfl rfl) F rfl fun a F=>?_
      refine dv_op ok1 17 rfl [] ?_
      refine wl_alloc (wn rfl) rfl tz24 (cs := [.i6 0, .i6 0]) rfl F S rfl rfl ?_; clear F a S; rintro b4 a w F S
      refine dv_nx trivial ?_
      refine dv_join (HJ _ _ ?_)
      replace S : St g3 [[bx b4 #[.i6 0, .i6 0] 24], [bx b3 #[nilS] 38], [bx b2 #[nilS] 38], c1] fr w := St.tail [[bx b4 #[.i6 0, .i6 0] 24], [bx b3 #[nilS] 38], [bx b2 #[nilS] 38], c1] _ ((((S.frontC 4 rfl).frontC 3 rfl).frontC 3 rfl).frontC 3 rfl)
      exact ⟨v5, v4, b4, b3, b2, g3, F.sub ⟨rfl, rfl, rfl, rfl, rfl, rfl, rfl, rfl, rfl, rfl, rfl, trivial⟩, l3, S, h5, h4, hm⟩
     ·refine wl_alloc (wn rfl) rfl tz24 (cs := [.i6 0, .i6 0]) rfl F S rfl rfl ?_; clear F a S; rintro b4 a w F S
      refine dv_nx ⟨yl_ev rfl rfl (ev_loadA tu38 rfl (cs := [v3]) ts38 rfl (ptr_mono (cks := [[bx b4 #[.i6 0, .i6 0] 24], [bx b3 #[nilS] 38], [bx b2 #[nilS] 38], [bx b1 #[.i6 y1.2.2.Code, .i6 y1.2.2.Index] 24], c1]) (fr := fr) hp2 (Le.refl _))) F S, yl_ev rfl rfl (ev_loadA tu38 rfl (cs := [v2]) ts38 rfl (ptr_mono (cks := [[bx b4 #[.i6 0, .i6 0] 24], [bx b3 #[nilS] 38], [bx b2 #[nilS] 38], [bx b1 #[.i6 y1.2.2.Code, .i6 y1.2.2.Index] 24], c1]) (fr := fr) hp1 (Le.refl _))) F S, trivial⟩ ?_
      refine dv_op ok1 9 rfl [] ?_
      refine wl_call0 (wn rfl) rfl F rfl (commute_Commute_ok (fr := (fl [[bx b4 #[.i6 0, .i6 0] 24], [bx b3 #[nilS] 38], [bx b2 #[nilS] 38], [bx b1 #[.i6 y1.2.2.Code, .i6 y1.2.2.Index] 24], c1] fr)) y3 v2 h2 y4 v3 h3 S hy5) rfl tc18 rfl rfl ?_; clear F a S
      rintro _ a w ⟨g3, v4, v5, l3, S, h4, h5, rfl⟩ F; replace S : St g3 [[bx b4 #[.i6 0, .i6 0] 24], [bx b3 #[nilS] 38], [bx b2 #[nilS] 38], [bx b1 #[.i6 y1.2.2.Code, .i6 y1.2.2.Index] 24], c1] fr w := S
      refine dv_nx trivial ?_
      refine dv_et ok1 10 rfl (ev_move rfl) F rfl fun a F=>?_
      refine dv_et ok1 11 rfl (ev_extract rfl rfl) F rfl fun a F=>?_
      refine dv_et ok1 12 rfl (ev_extract rfl rfl) F rfl fun a F=>?_
      refine dv_et ok1 13 rfl (ev_extract rfl rfl) F rfl fun a F=>?_
      refine dv_et ok1 14 rfl (ev_extract rfl rfl) F rfl fun a F=>?_
      refine dv_join (HJ _ _ ?_)
      replace S : St g3 [[bx b4 #[.i6 0, .i6 0] 24], [bx b3 #[nilS] 38], [bx b2 #[nilS] 38], c1] fr w := St.tail [[bx b4 #[.i6 0, .i6 0] 24], [bx b3 #[nilS] 38], [bx b2 #[nilS] 38], c1] _ ((((S.frontC 4 rfl).frontC 3 rfl).frontC 3 rfl).frontC 3 rfl)
      exact ⟨v5, v4, b4, b3, b2, g3, F.sub ⟨rfl, rfl, rfl, rfl, rfl, rfl, rfl, rfl, rfl, rfl, rfl, trivial⟩, l3, S, h5, h4, hm⟩
    ·refine wl_alloc (wn rfl) rfl tz24 (cs := [.i6 0, .i6 0]) rfl F S rfl rfl ?_; clear F a S; rintro b4 a w F S
     refine dv_nx ⟨yl_ev rfl rfl (ev_loadA tu38 rfl (cs := [v3]) ts38 rfl (ptr_mono (cks := [[bx b4 #[.i6 0, .i6 0] 24], [bx b2 #[nilS] 38], [bx b1 #[.i6 y1.2.2.Code, .i6 y1.2.2.Index] 24], c1]) (fr := fr) hp2 (Le.refl _))) F S, yl_ev rfl rfl (ev_loadA tu38 rfl (cs := [v2]) ts38 rfl (ptr_mono (cks := [[bx b4 #[.i6 0, .i6 0] 24], [bx b2 #[nilS] 38], [bx b1 #[.i6 y1.2.2.Code, .i6 y1.2.2.Index] 24], c1]) (fr := fr) hp1 (Le.refl _))) F S, trivial⟩ ?_
     refine dv_fork ok1 9 [16] (fk 9 rfl [] ?_ (fk 16 rfl [(8, .agg #[v3]), (3, .agg #[v2])] ?_ trivial))
     ·refine wl_call0 (wn rfl) rfl F rfl (commute_Commute_ok (fr := (fl [[bx b4 #[.i6 0, .i6 0] 24], [bx b2 #[nilS] 38], [bx b1 #[.i6 y1.2.2.Code, .i6 y1.2.2.Index] 24], c1] fr)) y3 v2 h2 y4 v3 h3 S hy5) rfl tc18 rfl rfl ?_; clear F a S
      rintro _ a w ⟨g3, v4, v5, l3, S, h4, h5, rfl⟩ F; replace S : St g3 [[bx b4 #[.i6 0, .i6 0] 24], [bx b2 #[nilS] 38], [bx b1 #[.i6 y1.2.2.Code, .i6 y1.2.2.Index] 24], c1] fr w := S
      refine dv_nx trivial ?_
      refine dv_et ok1 10 rfl (ev_move rfl) F rfl fun a F=>?_
      refine dv_et ok1 11 rfl (ev_extract rfl rfl) F rfl fun a F=>?_
      refine dv_et ok1 12 rfl (ev_extract rfl rfl) F rfl fun a F=>?_
      refine dv_et ok1 13 rfl (ev_extract rfl rfl) F rfl fun a F=>?_
      refine dv_et ok1 14 rfl (ev_extract rfl rfl) F rfl fun a F=>?_
      refine dv_op ok1 16 rfl [] ?_
      refine wl_alloc (wn rfl) rfl tz38 (cs := [nilS]) rfl F S rfl rfl ?_; clear F a S; rintro b3 a w F S
      refine dv_nx trivial ?_
      refine dv_join (HJ _ _ ?_)
      replace S : St g3 [[bx b4 #[.i6 0, .i6 0] 24], [bx b3 #[nilS] 38], [bx b2 #[nilS] 38], c1] fr w := St.tail [[bx b4 #[.i6 0, .i6 0] 24], [bx b3 #[nilS] 38], [bx b2 #[nilS] 38], c1] _ ((((S.frontC 4 rfl).frontC 3 rfl).frontC 2 rfl).frontC 4 rfl)
      exact ⟨v5, v4, b4, b3, b2, g3, F.sub ⟨rfl, rfl, rfl, rfl, rfl, rfl, rfl, rfl, rfl, rfl, rfl, trivial⟩, l3, S, h5, h4, hm⟩
     ·refine wl_alloc (wn rfl) rfl tz38 (cs := [nilS]) rfl F S rfl rfl ?_; clear F a S; rintro b3 a w F S
      refine dv_nx ⟨yl_ev rfl rfl (ev_loadA tu38 rfl (cs := [v3]) ts38 rfl (ptr_mono (cks := [[bx b3 #[nilS] 38], [bx b4 #[.i6 0, .i6 0] 24], [bx b2 #[nilS] 38], [bx b1 #[.i6 y1.2.2.Code, .i6 y1.2.2.Index] 24], c1]) (fr := fr) hp2 (Le.refl _))) F S, yl_ev rfl rfl (ev_loadA tu38 rfl (cs := [v2]) ts38 rfl (ptr_mono (cks := [[bx b3 #[nilS] 38], [bx b4 #[.i6 0, .i6 0] 24], [bx b2 #[nilS] 38], [bx b1 #[.i6 y1.2.2.Code, .i6 y1.2.2.Index] 24], c1]) (fr := fr) hp1 (Le.refl _))) F S, trivial⟩ ?_
      refine dv_op ok1 9 rfl [] ?_
      refine wl_call0 (wn rfl) rfl F rfl (commute_Commute_ok (fr := (fl [[bx b3 #[nilS] 38], [bx b4 #[.i6 0, .i6 0] 24], [bx b2 #[nilS] 38], [bx b1 #[.i6 y1.2.2.Code, .i6 y1.2.2.Index] 24], c1] fr)) y3 v2 h2 y4 v3 h3 S hy5) rfl tc18 rfl rfl ?_; clear F a S
      rintro _ a w ⟨g3, v4, v5, l3, S, h4, h5, rfl⟩ F; replace S : St g3 [[bx b3 #[nilS] 38], [bx b4 #[.i6 0, .i6 0] 24], [bx b2 #[nilS] 38], [bx b1 #[.i6 y1.2.2.Code, .i6 y1.2.2.Index] 24], c1] fr w := S
      refine dv_nx trivial ?_
      refine dv_et ok1 10 rfl (ev_move rfl) F rfl fun a F=>?_
      refine dv_et ok1 11 rfl (ev_extract rfl rfl) F rfl fun a F=>?_
      refine dv_et ok1 12 rfl (ev_extract rfl rfl) F rfl fun a F=>?_
      refine dv_et ok1 13 rfl (ev_extract rfl rfl) F rfl fun a F=>?_
      refine dv_et ok1 14 rfl (ev_extract rfl rfl) F rfl fun a F=>?_
      refine dv_join (HJ _ _ ?_)
      replace S : St g3 [[bx b4 #[.i6 0, .i6 0] 24], [bx b3 #[nilS] 38], [bx b2 #[nilS] 38], c1] fr w := St.tail [[bx b4 #[.i6 0, .i6 0] 24], [bx b3 #[nilS] 38], [bx b2 #[nilS] 38], c1] _ ((((S.frontC 4 rfl).frontC 3 rfl).frontC 2 rfl).frontC 4 rfl)
      exact ⟨v5, v4, b4, b3, b2, g3, F.sub ⟨rfl, rfl, rfl, rfl, rfl, rfl, rfl, rfl, rfl, rfl, rfl, trivial⟩, l3, S, h5, h4, hm⟩
   ·refine wl_alloc (wn rfl) rfl tz38 (cs := [nilS]) rfl F S rfl rfl ?_; clear F a S; rintro b3 a w F S
    refine dv_nx ⟨yl_ev rfl rfl (ev_loadA tu38 rfl (cs := [v3]) ts38 rfl (ptr_mono (cks := [[bx b3 #[nilS] 38], [bx b1 #[.i6 y1.2.2.Code, .i6 y1.2.2.Index] 24], c1]) (fr := fr) hp2 (Le.refl _))) F S, yl_ev rfl rfl (ev_loadA tu38 rfl (cs := [v2]) ts38 rfl (ptr_mono (cks := [[bx b3 #[nilS] 38], [bx b1 #[.i6 y1.2.2.Code, .i6 y1.2.2.Index] 24], c1]) (fr := fr) hp1 (Le.refl _))) F S, trivial⟩ ?_
    refine dv_fork ok1 9 [15, 17] (fk 9 rfl [] ?_ (fk 15 rfl [(8, .agg #[v3]), (3, .agg #[v2])] ?_ (fk 17 rfl [(8, .agg #[v3]), (3, .agg #[v2])] ?_ trivial)))
    ·refine wl_call0 (wn rfl) rfl F rfl (commute_Commute_ok (fr := (fl [[bx b3 #[nilS] 38], [bx b1 #[.i6 y1.2.2.Code, .i6 y1.2.2.Index] 24], c1] fr)) y3 v2 h2 y4 v3 h3 S hy5) rfl tc18 rfl rfl ?_; clear F a S
     rintro _ a w ⟨g3, v4, v5, l3, S, h4, h5, rfl⟩ F; replace S : St g3 [[bx b3 #[nilS] 38], [bx b1 #[.i6 y1.2.2.Code, .i6 y1.2.2.Index] 24], c1] fr w := S
     refine dv_nx trivial ?_
     refine dv_et ok1 10 rfl (ev_move rfl) F rfl fun a F=>?_
     refine dv_et ok1 11 rfl (ev_extract rfl rfl) F rfl fun a F=>?_
     refine dv_et ok1 12 rfl (ev_extract rfl rfl) F rfl fun a F=>?_
     refine dv_et ok1 13 rfl (ev_extract rfl rfl) F rfl fun a F=>?_
     refine dv_et ok1 14 rfl (ev_extract rfl rfl) F rfl fun a F=>?_
     refine dv_fork ok1 15 [17] (fk 15 rfl [] ?_ (fk 17 rfl [] ?_ trivial))
     ·refine wl_alloc (wn rfl) rfl tz38 (cs := [nilS]) rfl F S rfl rfl ?_; clear F a S; rintro b2 a w F S
      refine dv_nx trivial ?_
      refine dv_op ok1 17 rfl [] ?_
      refine wl_alloc (wn rfl) rfl tz24 (cs := [.i6 0, .i6 0]) rfl F S rfl rfl ?_; clear F a S; rintro b4 a w F S
      refine dv_nx trivial ?_
      refine dv_join (HJ _ _ ?_)
      replace S : St g3 [[bx b4 #[.i6 0, .i6 0] 24], [bx b3 #[nilS] 38], [bx b2 #[nilS] 38], c1] fr w := St.tail [[bx b4 #[.i6 0, .i6 0] 24], [bx b3 #[nilS] 38], [bx b2 #[nilS] 38], c1] _ ((((S.frontC 4 rfl).frontC 2 rfl).frontC 4 rfl).frontC 3 rfl)
      exact ⟨v5, v4, b4, b3, b2, g3, F.sub ⟨rfl, rfl, rfl, rfl, rfl, rfl, rfl, rfl, rfl, rfl, rfl, trivial⟩, l3, S, h5, h4, hm⟩
     ·refine wl_alloc (wn rfl) rfl tz24 (cs := [.i6 0, .i6 0]) rfl F S rfl rfl ?_; clear F a S; rintro b4 a w F S
      refine dv_nx trivial ?_
      refine dv_op ok1 15 rfl [] ?_
      refine wl_alloc (wn rfl) rfl tz38 (cs := [nilS]) rfl F S rfl rfl ?_; clear F a S; rintro b2 a w F S
      refine dv_nx trivial ?_
      refine dv_join (HJ _ _ ?_)
      replace S : St g3 [[bx b4 #[.i6 0, .i6 0] 24], [bx b3 #[nilS] 38], [bx b2 #[nilS] 38], c1] fr w := St.tail [[bx b4 #[.i6 0, .i6 0] 24], [bx b3 #[nilS] 38], [bx b2 #[nilS] 38], c1] _ ((((S.frontC 4 rfl).frontC 1 rfl).frontC 4 rfl).frontC 4 rfl)
      exact ⟨v5, v4, b4, b3, b2, g3, F.sub ⟨rfl, rfl, rfl, rfl, rfl, rfl, rfl, rfl, rfl, rfl, rfl, trivial⟩, l3, S, h5, h4, hm⟩
    ·refine wl_alloc (wn rfl) rfl tz38 (cs := [nilS]) rfl F S rfl rfl ?_; clear F a S; rintro b2 a w F S
     refine dv_nx ⟨yl_ev rfl rfl (ev_loadA tu38 rfl (cs := [v3]) ts38 rfl (ptr_mono (cks := [[bx b2 #[nilS] 38], [bx b3 #[nilS] 38], [bx b1 #[.i6 y1.2.2.Code, .i6 y1.2.2.Index] 24], c1]) (fr := fr) hp2 (Le.refl _))) F S, yl_ev rfl rfl (ev_loadA tu38 rfl (cs := [v2]) ts38 rfl (ptr_mono (cks := [[bx b2 #[nilS] 38], [bx b3 #[nilS] 38], [bx b1 #[.i6 y1.2.2.Code, .i6 y1.2.2.Index] 24], c1]) (fr := fr) hp1 (Le.refl _))) F S, trivial⟩ ?_
     refine dv_fork ok1 9 [17] (fk 9 rfl [] ?_ (fk 17 rfl [(8, .agg #[v3]), (3, .agg #[v2])] ?_ trivial))
     ·refine wl_call0 (wn rfl) rfl F rfl (commute_Commute_ok (fr := (fl [[bx b2 #[nilS] 38], [bx b3 #[nilS] 38], [bx b1 #[.i6 y1.2.2.Code, .i6 y1.2.2.Index] 24], c1] fr)) y3 v2 h2 y4 v3 h3 S hy5) rfl tc18 rfl rfl ?_; clear F a S
      rintro _ a w ⟨g3, v4, v5, l3, S, h4, h5, rfl⟩ F; replace S : St g3 [[bx b2 #[nilS] 38], [bx b3 #[nilS] 38], [bx b1 #[.i6 y1.2.2.Code, .i6 y1.2.2.Index] 24], c1] fr w := S
      refine dv_nx trivial ?_
      refine dv_et ok1 10 rfl (ev_move rfl) F rfl fun a F=>?_
      refine dv_et ok1 11 rfl (ev_extract rfl rfl) F rfl fun a F=>?_
      refine dv_et ok1 12 rfl (ev_extract rfl rfl) F rfl fun a F=>?_
      refine dv_et ok1 13 rfl (ev_extract rfl rfl) F rfl fun a F=>?_
      refine dv_et ok1 14 rfl (ev_extract rfl rfl) F rfl fun a F=>?_
      refine dv_op ok1 17 rfl [] ?_
      refine wl_alloc (wn rfl) rfl tz24 (cs := [.i6 0, .i6 0]) rfl F S rfl rfl ?_; clear F a S; rintro b4 a w F S
      refine dv_nx trivial ?_
      refine dv_join (HJ _ _ ?_)
      replace S : St g3 [[bx b4 #[.i6 0, .i6 0] 24], [bx b3 #[nilS] 38], [bx b2 #[nilS] 38], c1] fr w := St.tail [[bx b4 #[.i6 0, .i6 0] 24], [bx b3 #[nilS] 38], [bx b2 #[nilS] 38], c1] _ ((((S.frontC 4 rfl).frontC 2 rfl).frontC 4 rfl).frontC 3 rfl)
      exact ⟨v5, v4, b4, b3, b2, g3, F.sub ⟨rfl, rfl, rfl, rfl, rfl, rfl, rfl, rfl, rfl, rfl, rfl, trivial⟩, l3, S, h5, h4, hm⟩
     ·refine wl_alloc (wn rfl) rfl tz24 (cs := [.i6 0, .i6 0]) rfl F S rfl rfl ?_; clear F a S; rintro b4 a w F S
      refine dv_nx ⟨yl_ev rfl rfl (ev_loadA tu38 rfl (cs := [v3]) ts38 rfl (ptr_mono (cks := [[bx b4 #[.i6 0, .i6 0] 24], [bx b2 #[nilS] 38], [bx b3 #[nilS] 38], [bx b1 #[.i6 y1.2.2.Code, .i6 y1.2.2.Index] 24], c1]) (fr := fr) hp2 (Le.refl _))) F S, yl_ev rfl rfl (ev_loadA tu38 rfl (cs := [v2]) ts38 rfl (ptr_mono (cks := [[bx b4 #[.i6 0, .i6 0] 24], [bx b2 #[nilS] 38], [bx b3 #[nilS] 38], [bx b1 #[.i6 y1.2.2.Code, .i6 y1.2.2.Index] 24], c1]) (fr := fr) hp1 (Le.refl _))) F S, trivial⟩ ?_
      refine dv_op ok1 9 rfl [] ?_
      refine wl_call0 (wn rfl) rfl F rfl (commute_Commute_ok (fr := (fl [[bx b4 #[.i6 0, .i6 0] 24], [bx b2 #[nilS] 38], [bx b3 #[nilS] 38], [bx b1 #[.i6 y1.2.2.Code, .i6 y1.2.2.Index] 24], c1] fr)) y3 v2 h2 y4 v3 h3 S hy5) rfl tc18 rfl rfl ?_; clear F a S
      rintro _ a w ⟨g3, v4, v5, l3, S, h4, h5, rfl⟩ F; replace S : St g3 [[bx b4 #[.i6 0, .i6 0] 24], [bx b2 #[nilS] 38], [bx b3 #[nilS] 38], [bx b1 #[.i6 y1.2.2.Code, .i6 y1.2.2.Index] 24], c1] fr w := S
      refine dv_nx trivial ?_
      refine dv_et ok1 10 rfl (ev_move rfl) F rfl fun a F=>?_
      refine dv_et ok1 11 rfl (ev_extract rfl rfl) F rfl fun a F=>?_
      refine dv_et ok1 12 rfl (ev_extract rfl rfl) F rfl fun a F=>?_
      refine dv_et ok1 13 rfl (ev_extract rfl rfl) F rfl fun a F=>?_
      refine dv_et ok1 14 rfl (ev_extract rfl rfl) F rfl fun a F=>?_
      refine dv_join (HJ _ _ ?_)
      replace S : St g3 [[bx b4 #[.i6 0, .i6 0] 24], [bx b3 #[nilS] 38], [bx b2 #[nilS] 38], c1] fr w := St.tail [[bx b4 #[.i6 0, .i6 0] 24], [bx b3 #[nilS] 38], [bx b2 #[nilS] 38], c1] _ ((((S.frontC 4 rfl).frontC 2 rfl).frontC 4 rfl).frontC 3 rfl)
      exact ⟨v5, v4, b4, b3, b2, g3, F.sub ⟨rfl, rfl, rfl, rfl, rfl, rfl, rfl, rfl, rfl, rfl, rfl, trivial⟩, l3, S, h5, h4, hm⟩
    ·refine wl_alloc (wn rfl) rfl tz24 (cs := [.i6 0, .i6 0]) rfl F S rfl rfl ?_; clear F a S; rintro b4 a w F S
     refine dv_nx ⟨yl_ev rfl rfl (ev_loadA tu38 rfl (cs := [v3]) ts38 rfl (ptr_mono (cks := [[bx b4 #[.i6 0, .i6 0] 24], [bx b3 #[nilS] 38], [bx b1 #[.i6 y1.2.2.Code, .i6 y1.2.2.Index] 24], c1]) (fr := fr) hp2 (Le.refl _))) F S, yl_ev rfl rfl (ev_loadA tu38 rfl (cs := [v2]) ts38 rfl (ptr_mono (cks := [[bx b4 #[.i6 0, .i6 0] 24], [bx b3 #[nilS] 38], [bx b1 #[.i6 y1.2.2.Code, .i6 y1.2.2.Index] 24], c1]) (fr := fr) hp1 (Le.refl _))) F S, trivial⟩ ?_
     refine dv_fork ok1 9 [15] (fk 9 rfl [] ?_ (fk 15 rfl [(8, .agg #[v3]), (3, .agg #[v2])] ?_ trivial))
     ·refine wl_call0 (wn rfl) rfl F rfl (commute_Commute_ok (fr := (fl [[bx b4 #[.i6 0, .i6 0] 24], [bx b3 #[nilS] 38], [bx b1 #[.i6 y1.2.2.Code, .i6 y1.2.2.Index] 24], c1] fr)) y3 v2 h2 y4 v3 h3 S hy5) rfl tc18 rfl rfl ?_; clear F a S
      rintro _ a w ⟨g3, v4, v5, l3, S, h4, h5, rfl⟩ F; replace S : St g3 [[bx b4 #[.i6 0, .i6 0] 24], [bx b3 #[nilS] 38], [bx b1 #[.i6 y1.2.2.Code, .i6 y1.2.2.Index] 24], c1] fr w := S
      refine dv_nx trivial ?_
      refine dv_et ok1 10 rfl (ev_move rfl) F rfl fun a F=>?_
      refine dv_et ok1 11 rfl (ev_extract rfl rfl) F rfl fun a F=>?_
      refine dv_et ok1 12 rfl (ev_extract rfl rfl) F rfl fun a F=>?_
      refine dv_et ok1 13 rfl (ev_extract rfl rfl) F rfl fun a F=>?_
      refine dv_et ok1 14 rfl (ev_extract rfl rfl) F rfl fun a F=>?_
      refine dv_op ok1 15 rfl [] ?_
      refine wl_alloc (wn rfl) rfl tz38 (cs := [nilS]) rfl F S rfl rfl ?_; clear F a S; rintro b2 a w F S
      refine dv_nx trivial ?_
      refine dv_join (HJ _ _ ?_)
      replace S : St g3 [[bx b4 #[.i6 0, .i6 0] 24], [bx b3 #[nilS] 38], [bx b2 #[nilS] 38], c1] fr w := St.tail [[bx b4 #[.i6 0, .i6 0] 24], [bx b3 #[nilS] 38], [bx b2 #[nilS] 38], c1] _ ((((S.frontC 4 rfl).frontC 1 rfl).frontC 4 rfl).frontC 4 rfl)
      exact ⟨v5, v4, b4, b3, b2, g3, F.sub ⟨rfl, rfl, rfl, rfl, rfl, rfl, rfl, rfl, rfl, rfl, rfl, trivial⟩, l3, S, h5, h4, hm⟩
     ·refine wl_alloc (wn rfl) rfl tz38 (cs := [nilS]) rfl F S rfl rfl ?_; clear F a S; rintro b2 a w F S
      refine dv_nx ⟨yl_ev rfl rfl (ev_loadA tu38 rfl (cs := [v3]) ts38 rfl (ptr_mono (cks := [[bx b2 #[nilS] 38], [bx b4 #[.i6 0, .i6 0] 24], [bx b3 #[nilS] 38], [bx b1 #[.i6 y1.2.2.Code, .i6 y1.2.2.Index] 24], c1]) (fr := fr) hp2 (Le.refl _))) F S, yl_ev rfl rfl (ev_loadA tu38 rfl (cs := [v2]) ts38 rfl (ptr_mono (cks := [[bx b2 #[nilS] 38], [bx b4 #[.i6 0, .i6 0] 24], [bx b3 #[nilS] 38], [bx b1 #[.i6 y1.2.2.Code, .i6 y1.2.2.Index] 24], c1]) (fr := fr) hp1 (Le.refl _))) F S, trivial⟩ ?_
      refine dv_op ok1 9 rfl [] ?_
      refine wl_call0 (wn rfl) rfl F rfl (commute_Commute_ok (fr := (fl [[bx b2 #[nilS] 38], [bx b4 #[.i6 0, .i6 0] 24], [bx b3 #[nilS] 38], [bx b1 #[.i6 y1.2.2.Code, .i6 y1.2.2.Index] 24], c1] fr)) y3 v2 h2 y4 v3 h3 S hy5) rfl tc18 rfl rfl ?_; clear F a S
      rintro _ a w ⟨g3, v4, v5, l3, S, h4, h5, rfl⟩ F; replace S : St g3 [[bx b2 #[nilS] 38], [bx b4 #[.i6 0, .i6 0] 24], [bx b3 #[nilS] 38], [bx b1 #[.i6 y1.2.2.Code, .i6 y1.2.2.Index] 24], c1] fr w := S
      refine dv_nx trivial ?_
      refine dv_et ok1 10 rfl (ev_move rfl) F rfl fun a F=>?_
      refine dv_et ok1 11 rfl (ev_extract rfl rfl) F rfl fun a F=>?_
      refine dv_et ok1 12 rfl (ev_extract rfl rfl) F rfl fun a F=>?_
      refine dv_et ok1 13 rfl (ev_extract rfl rfl) F rfl fun a F=>?_
      refine dv_et ok1 14 rfl (ev_extract rfl rfl) F rfl fun a F=>?_
      refine dv_join (HJ _ _ ?_)
      replace S : St g3 [[bx b4 #[.i6 0, .i6 0] 24], [bx b3 #[nilS] 38], [bx b2 #[nilS] 38], c1] fr w := St.tail [[bx b4 #[.i6 0, .i6 0] 24], [bx b3 #[nilS] 38], [bx b2 #[nilS] 38], c1] _ ((((S.frontC 4 rfl).frontC 1 rfl).frontC 4 rfl).frontC 4 rfl)
      exact ⟨v5, v4, b4, b3, b2, g3, F.sub ⟨rfl, rfl, rfl, rfl, rfl, rfl, rfl, rfl, rfl, rfl, rfl, trivial⟩, l3, S, h5, h4, hm⟩
   ·refine wl_alloc (wn rfl) rfl tz24 (cs := [.i6 0, .i6 0]) rfl F S rfl rfl ?_; clear F a S; rintro b4 a w F S
    refine dv_nx ⟨yl_ev rfl rfl (ev_loadA tu38 rfl (cs := [v3]) ts38 rfl (ptr_mono (cks := [[bx b4 #[.i6 0, .i6 0] 24], [bx b1 #[.i6 y1.2.2.Code, .i6 y1.2.2.Index] 24], c1]) (fr := fr) hp2 (Le.refl _))) F S, yl_ev rfl rfl (ev_loadA tu38 rfl (cs := [v2]) ts38 rfl (ptr_mono (cks := [[bx b4 #[.i6 0, .i6 0] 24], [bx b1 #[.i6 y1.2.2.Code, .i6 y1.2.2.Index] 24], c1]) (fr := fr) hp1 (Le.refl _))) F S, trivial⟩ ?_
    refine dv_fork ok1 9 [15, 16] (fk 9 rfl [] ?_ (fk 15 rfl [(8, .agg #[v3]), (3, .agg #[v2])] ?_ (fk 16 rfl [(8, .agg #[v3]), (3, .agg #[v2])] ?_ trivial)))
    ·refine wl_call0 (wn rfl) rfl F rfl (commute_Commute_ok (fr := (fl [[bx b4 #[.i6 0, .i6 0] 24], [bx b1 #[.i6 y1.2.2.Code, .i6 y1.2.2.Index] 24], c1] fr)) y3 v2 h2 y4 v3 h3 S hy5) rfl tc18 rfl rfl ?_; clear F a S
     rintro _ a w ⟨g3, v4, v5, l3, S, h4, h5, rfl⟩ F; replace S : St g3 [[bx b4 #[.i6 0, .i6 0] 24], [bx b1 #[.i6 y1.2.2.Code, .i6 y1.2.2.Index] 24], c1] fr w := S
     refine dv_nx trivial ?_
     refine dv_et ok1 10 rfl (ev_move rfl) F rfl fun a F=>?_
     refine dv_et ok1 11 rfl (ev_extract rfl rfl) F rfl fun a F=>?_
     refine dv_et ok1 12 rfl (ev_extract rfl rfl) F rfl fun a F=>?_
     refine dv_et ok1 13 rfl (ev_extract rfl rfl) F rfl fun a F=>?_
     refine dv_et ok1 14 rfl (ev_extract rfl rfl) F rfl fun a F=>?_
     refine dv_fork ok1 15 [16] (fk 15 rfl [] ?_ (fk 16 rfl [] ?_ trivial))
     ·refine wl_alloc (wn rfl) rfl tz38 (cs := [nilS]) rfl F S rfl rfl ?_; clear F a S; rintro b2 a w F S
      refine dv_nx trivial ?_
      refine dv_op ok1 16 rfl [] ?_
      refine wl_alloc (wn rfl) rfl tz38 (cs := [nilS]) rfl F S rfl rfl ?_; clear F a S; rintro b3 a w F S
      refine dv_nx trivial ?_
      refine dv_join (HJ _ _ ?_)
      replace S : St g3 [[bx b4 #[.i6 0, .i6 0] 24], [bx b3 #[nilS] 38], [bx b2 #[nilS] 38], c1] fr w := St.tail [[bx b4 #[.i6 0, .i6 0] 24], [bx b3 #[nilS] 38], [bx b2 #[nilS] 38], c1] _ ((((S.frontC 4 rfl).frontC 2 rfl).frontC 2 rfl).frontC 5 rfl)
      exact ⟨v5, v4, b4, b3, b2, g3, F.sub ⟨rfl, rfl, rfl, rfl, rfl, rfl, rfl, rfl, rfl, rfl, rfl, trivial⟩, l3, S, h5, h4, hm⟩
     ·refine wl_alloc (wn rfl) rfl tz38 (cs := [nilS]) rfl F S rfl rfl ?_; clear F a S; rintro b3 a w F S
      refine dv_nx trivial ?_
      refine dv_op ok1 15 rfl [] ?_
      refine wl_alloc (wn rfl) rfl tz38 (cs := [nilS]) rfl F S rfl rfl ?_; clear F a S; rintro b2 a w F S
      refine dv_nx trivial ?_
      refine dv_join (HJ _ _ ?_)
      replace S : St g3 [[bx b4 #[.i6 0, .i6 0] 24], [bx b3 #[nilS] 38], [bx b2 #[nilS] 38], c1] fr w := St.tail [[bx b4 #[.i6 0, .i6 0] 24], [bx b3 #[nilS] 38], [bx b2 #[nilS] 38], c1] _ ((((S.frontC 4 rfl).frontC 1 rfl).frontC 3 rfl).frontC 5 rfl)
      exact ⟨v5, v4, b4, b3, b2, g3, F.sub ⟨rfl, rfl, rfl, rfl, rfl, rfl, rfl, rfl, rfl, rfl, rfl, trivial⟩, l3, S, h5, h4, hm⟩
    ·refine wl_alloc (wn rfl) rfl tz38 (cs := [nilS]) rfl F S rfl rfl ?_; clear F a S; rintro b2 a w F S
     refine dv_nx ⟨yl_ev rfl rfl (ev_loadA tu38 rfl (cs := [v3]) ts38 rfl (ptr_mono (cks := [[bx b2 #[nilS] 38], [bx b4 #[.i6 0, .i6 0] 24], [bx b1 #[.i6 y1.2.2.Code, .i6 y1.2.2.Index] 24], c1]) (fr := fr) hp2 (Le.refl _))) F S, yl_ev rfl rfl (ev_loadA tu38 rfl (cs := [v2]) ts38 rfl (ptr_mono (cks := [[bx b2 #[nilS] 38], [bx b4 #[.i6 0, .i6 0] 24], [bx b1 #[.i6 y1.2.2.Code, .i6 y1.2.2.Index] 24], c1]) (fr := fr) hp1 (Le.refl _))) F S, trivial⟩ ?_
     refine dv_fork ok1 9 [16] (fk 9 rfl [] ?_ (fk 16 rfl [(8, .agg #[v3]), (3, .agg #[v2])] ?_ trivial))
     ·refine wl_call0 (wn rfl) rfl F rfl (commute_Commute_ok (fr := (fl [[bx b2 #[nilS] 38], [bx b4 #[.i6 0, .i6 0] 24], [bx b1 #[.i6 y1.2.2.Code, .i6 y1.2.2.Index] 24], c1] fr)) y3 v2 h2 y4 v3 h3 S hy5) rfl tc18 rfl rfl ?_; clear F a S
      rintro _ a w ⟨g3, v4, v5, l3, S, h4, h5, rfl⟩ F; replace S : St g3 [[bx b2 #[nilS] 38], [bx b4 #[.i6 0, .i6 0] 24], [bx b1 #[.i6 y1.2.2.Code, .i6 y1.2.2.Index] 24], c1] fr w := S
      refine dv_nx trivial ?_
      refine dv_et ok1 10 rfl (ev_move rfl) F rfl fun a F=>?_
      refine dv_et ok1 11 rfl (ev_extract rfl rfl) F rfl fun a F=>?_
      refine dv_et ok1 12 rfl (ev_extract rfl rfl) F rfl fun a F=>?_
      refine dv_et ok1 13 rfl (ev_extract rfl rfl) F rfl fun a F=>?_
      refine dv_et ok1 14 rfl (ev_extract rfl rfl) F rfl fun a F=>?_
      refine dv_op ok1 16 rfl [] ?_
      refine wl_alloc (wn rfl) rfl tz38 (cs := [nilS]) rfl F S rfl rfl ?_; clear F a S; rintro b3 a w F S
      refine dv_nx trivial ?_
      refine dv_join (HJ _ _ ?_)
      replace S : St g3 [[bx b4 #[.i6 0, .i6 0] 24], [bx b3 #[nilS] 38], [bx b2 #[nilS] 38], c1] fr w := St.tail [[bx b4 #[.i6 0, .i6 0] 24], [bx b3 #[nilS] 38], [bx b2 #[nilS] 38], c1] _ ((((S.frontC 4 rfl).frontC 2 rfl).frontC 2 rfl).frontC 5 rfl)
      exact ⟨v5, v4, b4, b3, b2, g3, F.sub ⟨rfl, rfl, rfl, rfl, rfl, rfl, rfl, rfl, rfl, rfl, rfl, trivial⟩, l3, S, h5, h4, hm⟩
     ·refine wl_alloc (wn rfl) rfl tz38 (cs := [nilS]) rfl F S rfl rfl ?_; clear F a S; rintro b3 a w F S
      refine dv_nx ⟨yl_ev rfl rfl (ev_loadA tu38 rfl (cs := [v3]) ts38 rfl (ptr_mono (cks := [[bx b3 #[nilS] 38], [bx b2 #[nilS] 38], [bx b4 #[.i6 0, .i6 0] 24], [bx b1 #[.i6 y1.2.2.Code, .i6 y1.2.2.Index] 24], c1]) (fr := fr) hp2 (Le.refl _))) F S, yl_ev rfl rfl (ev_loadA tu38 rfl (cs := [v2]) ts38 rfl (ptr_mono (cks := [[bx b3 #[nilS] 38], [bx b2 #[nilS] 38], [bx b4 #[.i6 0, .i6 0] 24], [bx b1 #[.i6 y1.2.2.Code, .i6 y1.2.2.Index] 24], c1]) (fr := fr) hp1 (Le.refl _))) F S, trivial⟩ ?_
      refine dv_op ok1 9 rfl [] ?_
      refine wl_call0 (wn rfl) rfl F rfl (commute_Commute_ok (fr := (fl [[bx b3 #[nilS] 38], [bx b2 #[nilS] 38], [bx b4 #[.i6 0, .i6 0] 24], [bx b1 #[.i6 y1.2.2.Code, .i6 y1.2.2.Index] 24], c1] fr)) y3 v2 h2 y4 v3 h3 S hy5) rfl tc18 rfl rfl ?_; clear F a S
      rintro _ a w ⟨g3, v4, v5, l3, S, h4, h5, rfl⟩ F; replace S : St g3 [[bx b3 #[nilS] 38], [bx b2 #[nilS] 38], [bx b4 #[.i6 0, .i6 0] 24], [bx b1 #[.i6 y1.2.2.Code, .i6 y1.2.2.Index] 24], c1] fr w := S
      refine dv_nx trivial ?_
      refine dv_et ok1 10 rfl (ev_move rfl) F rfl fun a F=>?_
      refine dv_et ok1 11 rfl (ev_extract rfl rfl) F rfl fun a F=>?_
      refine dv_et ok1 12 rfl (ev_extract rfl rfl) F rfl fun a F=>?_
      refine dv_et ok1 13 rfl (ev_extract rfl rfl) F rfl fun a F=>?_
      refine dv_et ok1 14 rfl (ev_extract rfl rfl) F rfl fun a F=>?_
      refine dv_join (HJ _ _ ?_)
      replace S : St g3 [[bx b4 #[.i6 0, .i6 0] 24], [bx b3 #[nilS] 38], [bx b2 #[nilS] 38], c1] fr w := St.tail [[bx b4 #[.i6 0, .i6 0] 24], [bx b3 #[nilS] 38], [bx b2 #[nilS] 38], c1] _ ((((S.frontC 4 rfl).frontC 2 rfl).frontC 2 rfl).frontC 5 rfl)
      exact ⟨v5, v4, b4, b3, b2, g3, F.sub ⟨rfl, rfl, rfl, rfl, rfl, rfl, rfl, rfl, rfl, rfl, rfl, trivial⟩, l3, S, h5, h4, hm⟩
    ·refine wl_alloc (wn rfl) rfl tz38 (cs := [nilS]) rfl F S rfl rfl ?_; clear F a S; rintro b3 a w F S
     refine dv_nx ⟨yl_ev rfl rfl (ev_loadA tu38 rfl (cs := [v3]) ts38 rfl (ptr_mono (cks := [[bx b3 #[nilS] 38], [bx b4 #[.i6 0, .i6 0] 24], [bx b1 #[.i6 y1.2.2.Code, .i6 y1.2.2.Index] 24], c1]) (fr := fr) hp2 (Le.refl _))) F S, yl_ev rfl rfl (ev_loadA tu38 rfl (cs := [v2]) ts38 rfl (ptr_mono (cks := [[bx b3 #[nilS] 38], [bx b4 #[.i6 0, .i6 0] 24], [bx b1 #[.i6 y1.2.2.Code, .i6 y1.2.2.Index] 24], c1]) (fr := fr) hp1 (Le.refl _))) F S, trivial⟩ ?_
     refine dv_fork ok1 9 [15] (fk 9 rfl [] ?_ (fk 15 rfl [(8, .agg #[v3]), (3, .agg #[v2])] ?_ trivial))
     ·refine wl_call0 (wn rfl) rfl F rfl (commute_Commute_ok (fr := (fl [[bx b3 #[nilS] 38], [bx b4 #[.i6 0, .i6 0] 24], [bx b1 #[.i6 y1.2.2.Code, .i6 y1.2.2.Index] 24], c1] fr)) y3 v2 h2 y4 v3 h3 S hy5) rfl tc18 rfl rfl ?_; clear F a S
      rintro _ a w ⟨g3, v4, v5, l3, S, h4, h5, rfl⟩ F; replace S : St g3 [[bx b3 #[nilS] 38], [bx b4 #[.i6 0, .i6 0] 24], [bx b1 #[.i6 y1.2.2.Code, .i6 y1.2.2.Index] 24], c1] fr w := S
      refine dv_nx trivial ?_
      refine dv_et ok1 10 rfl (ev_move rfl) F rfl fun a F=>?_
      refine dv_et ok1 11 rfl (ev_extract rfl rfl) F rfl fun a F=>?_
      refine dv_et ok1 12 rfl (ev_extract rfl rfl) F rfl fun a F=>?_
      refine dv_et ok1 13 rfl (ev_extract rfl rfl) F rfl fun a F=>?_
      refine dv_et ok1 14 rfl (ev_extract rfl rfl) F rfl fun a F=>?_
      refine dv_op ok1 15 rfl [] ?_
      refine wl_alloc (wn rfl) rfl tz38 (cs := [nilS]) rfl F S rfl rfl ?_; clear F a S; rintro b2 a w F S
      refine dv_nx trivial ?_
      refine dv_join (HJ _ _ ?_)
      replace S : St g3 [[bx b4 #[.i6 0, .i6 0] 24], [bx b3 #[nilS] 38], [bx b2 #[nilS] 38], c1] fr w := St.tail [[bx b4 #[.i6 0, .i6 0] 24], [bx b3 #[nilS] 38], [bx b2 #[nilS] 38], c1] _ ((((S.frontC 4 rfl).frontC 1 rfl).frontC 3 rfl).frontC 5 rfl)
      exact ⟨v5, v4, b4, b3, b2, g3, F.sub ⟨rfl, rfl, rfl, rfl, rfl, rfl, rfl, rfl, rfl, rfl, rfl, trivial⟩, l3, S, h5, h4, hm⟩
     ·refine wl_alloc (wn rfl) rfl tz38 (cs := [nilS]) rfl F S rfl rfl ?_; clear F a S; rintro b2 a w F S
      refine dv_nx ⟨yl_ev rfl rfl (ev_loadA tu38 rfl (cs := [v3]) ts38 rfl (ptr_mono (cks := [[bx b2 #[nilS] 38], [bx b3 #[nilS] 38], [bx b4 #[.i6 0, .i6 0] 24], [bx b1 #[.i6 y1.2.2.Code, .i6 y1.2.2.Index] 24], c1]) (fr := fr) hp2 (Le.refl _))) F S, yl_ev rfl rfl (ev_loadA tu38 rfl (cs := [v2]) ts38 rfl (ptr_mono (cks := [[bx b2 #[nilS] 38], [bx b3 #[nilS] 38], [bx b4 #[.i6 0, .i6 0] 24], [bx b1 #[.i6 y1.2.2.Code, .i6 y1.2.2.Index] 24], c1]) (fr := fr) hp1 (Le.refl _))) F S, trivial⟩ ?_
      refine dv_op ok1 9 rfl [] ?_
      refine wl_call0 (wn rfl) rfl F rfl (commute_Commute_ok (fr := (fl [[bx b2 #[nilS] 38], [bx b3 #[nilS] 38], [bx b4 #[.i6 0, .i6 0] 24], [bx b1 #[.i6 y1.2.2.Code, .i6 y1.2.2.Index] 24], c1] fr)) y3 v2 h2 y4 v3 h3 S hy5) rfl tc18 rfl rfl ?_; clear F a S
      rintro _ a w ⟨g3, v4, v5, l3, S, h4, h5, rfl⟩ F; replace S : St g3 [[bx b2 #[nilS] 38], [bx b3 #[nilS] 38], [bx b4 #[.i6 0, .i6 0] 24], [bx b1 #[.i6 y1.2.2.Code, .i6 y1.2.2.Index] 24], c1] fr w := S
      refine dv_nx trivial ?_
      refine dv_et ok1 10 rfl (ev_move rfl) F rfl fun a F=>?_
      refine dv_et ok1 11 rfl (ev_extract rfl rfl) F rfl fun a F=>?_
      refine dv_et ok1 12 rfl (ev_extract rfl rfl) F rfl fun a F=>?_
      refine dv_et ok1 13 rfl (ev_extract rfl rfl) F rfl fun a F=>?_
      refine dv_et ok1 14 rfl (ev_extract rfl rfl) F rfl fun a F=>?_
      refine dv_join (HJ _ _ ?_)
      replace S : St g3 [[bx b4 #[.i6 0, .i6 0] 24], [bx b3 #[nilS] 38], [bx b2 #[nilS] 38], c1] fr w := St.tail [[bx b4 #[.i6 0, .i6 0] 24], [bx b3 #[nilS] 38], [bx b2 #[nilS] 38], c1] _ ((((S.frontC 4 rfl).frontC 1 rfl).frontC 3 rfl).frontC 5 rfl)
      exact ⟨v5, v4, b4, b3, b2, g3, F.sub ⟨rfl, rfl, rfl, rfl, rfl, rfl, rfl, rfl, rfl, rfl, rfl, trivial⟩, l3, S, h5, h4, hm⟩
  ·clear F S hm; rintro a w ⟨v6, v7, b5, b6, b7, g4, F, l4, S, h6, h7, hm⟩
   refine dv_op ok1 18 rfl [] ?_
   refine wl_storeC (wn rfl) rfl F S rfl rfl (vs := [v7]) rfl ts38 (one_cons h7.one one_nil) (k := 2) rfl (lb rfl) (c' := #[v7]) rfl rfl ?_; clear S; intro w S
   refine dv_nx trivial ?_
   refine dv_op ok1 19 rfl [] ?_
   refine wl_storeC (wn rfl) rfl F S rfl rfl (vs := [v6]) rfl ts38 (one_cons h6.one one_nil) (k := 1) rfl (lb rfl) (c' := #[v6]) rfl rfl ?_; clear S; intro w S
   refine dv_nx trivial ?_
   refine dv_et ok1 20 rfl (ev_assign rfl) F rfl fun a F=>?_
   refine dv_op ok1 21 rfl [] ?_
   refine wl_storeC (wn rfl) rfl F S rfl rfl (vs := [.i6 y5.2.2.2.Code, .i6 y5.2.2.2.Index]) rfl ts24 (one_cons rfl (one_cons rfl one_nil)) (k := 0) rfl (lb rfl) (c' := #[.i6 y5.2.2.2.Code, .i6 y5.2.2.2.Index]) rfl rfl ?_; clear S; intro w S
   refine dv_nx trivial ?_
   refine dv_fin ok1 ?_
   refine then_n ?_
   refine wp_seq ?_
   refine wp_seq ?_
   refine wp_region_lit ?_
   refine wE (ev_fieldAddr' tu24 tf24_0 (z := 0) ts3 rfl ⟨_, rfl⟩ rfl) F S rfl fun a F=>?_
   refine wE (ev_load1 tu3 rfl rfl (box_ptr (cells := [.i6 y5.2.2.2.Code]) 0 rfl 0 rfl (lb rfl))) F S rfl fun a F=>?_
   refine wE (ev_int rfl rfl (bo_neq _ _ _ _)) F S rfl fun a F=>?_
   refine wE (ev_move rfl) F S rfl fun a F=>?_
   obtain ⟨x5, hx3, hm⟩ := bind_some hm
   refine wl_cut 4 (fun a w' => w = w' ∧ Fr 82 a [(58, .bool x5), (9, bp b6 0), (8, bp b7 0), (6, .bool y1.2.1), (5, v1), (0, vl_1), (1, .i6 i_)]) ?_ ?_
   ·clear hm; obtain ⟨hc4, hm⟩ | ⟨hc4, hm⟩ := ite_or hx3
    ·refine wl_skip rfl rfl rfl rfl (ne_ft hc4) F rfl rfl ?_; clear F a; intro a F
     refine wl_skip rfl rfl rfl rfl (ne_ft hc4) F rfl rfl ?_; clear F a; intro a F
     refine wl_skip rfl rfl rfl rfl (ne_ft hc4) F rfl rfl ?_; clear F a; intro a F
     refine wE (ev_pickT rfl hc4 rfl) F S rfl fun a F=>?_
     obtain rfl := sinj hm
     refine wpList_nil (then_n ?_); exact ⟨rfl, F.sub ⟨rfl, rfl, rfl, rfl, rfl, rfl, rfl, trivial⟩⟩
    ·refine wl_ev (wg F rfl rfl rfl rfl hc4) (ev_move rfl) F S rfl rfl ?_; clear F a; intro a F
     refine wl_ev (wg F rfl rfl rfl rfl hc4) (ev_move rfl) F S rfl rfl ?_; clear F a; intro a F
     refine wl_ev (wg F rfl rfl rfl rfl hc4) (ev_neB tu4 rfl rfl) F S rfl rfl ?_; clear F a; intro a F
     refine wE (ev_pickF rfl hc4 rfl) F S rfl fun a F=>?_
     obtain rfl := sinj hm
     refine wpList_nil (then_n ?_); exact ⟨rfl, F.sub ⟨rfl, rfl, rfl, rfl, rfl, rfl, rfl, trivial⟩⟩
   clear F; rintro a w' ⟨rfl, F⟩
   refine wpList_nil ?_
   refine then_n ?_
   obtain ⟨hc5, hm⟩ | ⟨hc5, hm⟩ := ite_or hm
   ·refine wp_condT F rfl hc5 ?_
    refine wp_seq ?_
    refine wp_region_lit ?_
    refine wE (ev_assign rfl) F S rfl fun a F=>?_
    refine wpList_nil ?_
    refine then_n ?_
    refine wp_ret ?_
    refine then_r ?_
    obtain rfl := sinj hm
    refine post_r _ F rfl (ar_cons (resT rfl) ar_nil) ?_
    replace S : St g4 [] fr w := St.tail [] _ S
    exact ⟨_, rfl, g4, (l1.trans l4), S, rfl⟩
   ·refine wp_condF F rfl hc5 ?_
    refine wp_skip ?_
    refine then_n ?_
    refine wp_seq ?_
    refine wp_cut1 (fun a w => ∃ (x6 : Bool) (g5 : Gh), Fr 82 a [(4, .bool x6)] ∧ Le g4 g5 ∧ St g5 [] fr w ∧ changeforgelaw2_StackNeighbors.j2 x6 = some r) ?_ ?_
    ·refine wp_dv [] mo S ?_; clear S; intro ok2 w S
     refine dv_et ok2 0 rfl (ev_move rfl) F rfl fun a F=>?_
     refine dv_et ok2 1 rfl (ev_not rfl) F rfl fun a F=>?_
     refine dv_et ok2 2 rfl (ev_move rfl) F rfl fun a F=>?_
     obtain ⟨hc6, hm⟩ | ⟨hc6, hm⟩ := ite_or hm
     ·refine dv_skip ok2 3 rfl rfl rfl rfl rfl (ne_ft hc6) F rfl rfl fun a F=>?_
      refine dv_skip ok2 4 rfl rfl rfl rfl rfl (ne_ft hc6) F rfl rfl fun a F=>?_
      refine dv_skip ok2 5 rfl rfl rfl rfl rfl (ne_ft hc6) F rfl rfl fun a F=>?_
      refine dv_skip ok2 6 rfl rfl rfl rfl rfl (ne_ft hc6) F rfl rfl fun a F=>?_
      refine dv_skip ok2 7 rfl rfl rfl rfl rfl (ne_ft hc6) F rfl rfl fun a F=>?_
      refine dv_skip ok2 8 rfl rfl rfl rfl rfl (ne_ft hc6) F rfl rfl fun a F=>?_
      refine dv_skip ok2 9 rfl rfl rfl rfl rfl (ne_ft hc6) F rfl rfl fun a F=>?_
      refine dv_skip ok2 10 rfl rfl rfl rfl rfl (ne_ft hc6) F rfl rfl fun a F=>?_
      refine dv_skip ok2 11 rfl rfl rfl rfl rfl (ne_ft hc6) F rfl rfl fun a F=>?_
      refine dv_skip ok2 12 rfl rfl rfl rfl rfl (ne_ft hc6) F rfl rfl fun a F=>?_
      refine dv_skip ok2 13 rfl rfl rfl rfl rfl (ne_ft hc6) F rfl rfl fun a F=>?_
      refine dv_skip ok2 14 rfl rfl rfl rfl rfl (ne_ft hc6) F rfl rfl fun a F=>?_
      refine dv_skip ok2 15 rfl rfl rfl rfl rfl (ne_ft hc6) F rfl rfl fun a F=>?_
      refine dv_skip ok2 16 rfl rfl rfl rfl rfl (ne_ft hc6) F rfl rfl fun a F=>?_
      refine dv_skip ok2 17 rfl rfl rfl rfl rfl (ne_ft hc6) F rfl rfl fun a F=>?_
      refine dv_skip ok2 18 rfl rfl rfl rfl rfl (ne_ft hc6) F rfl rfl fun a F=>?_
      refine dv_et ok2 19 rfl (ev_pickT rfl hc6 rfl) F rfl fun a F=>?_
      refine dv_et ok2 20 rfl (ev_move rfl) F rfl fun a F=>?_
      refine dv_op ok2 21 rfl [] ?_
      obtain ⟨y6, hy6, hm⟩ := bind_some hm
      refine wl_call0 (wg F rfl rfl rfl rfl rfl) rfl F rfl (changeforgelaw2_dropped_ok (fr := (fl [[bx b5 #[.i6 y5.2.2.2.Code, .i6 y5.2.2.2.Index] 24], [bx b6 #[v6] 38], [bx b7 #[v7] 38], c1] fr))  S hy6) rfl tc15 rfl rfl ?_; clear F a S
      rintro _ a w ⟨g6, l6, S, rfl⟩ F; replace S : St g6 [[bx b5 #[.i6 y5.2.2.2.Code, .i6 y5.2.2.2.Index] 24], [bx b6 #[v6] 38], [bx b7 #[v7] 38], c1] fr w := S
      refine dv_nx trivial ?_
      refine dv_et ok2 22 rfl (ev_pickT rfl rfl rfl) F rfl fun a F=>?_
      refine dv_et ok2 23 rfl (ev_assign rfl) F rfl fun a F=>?_
      refine dv_fin ok2 ?_
      refine then_n ?_
      replace S : St g6 [] fr w := St.tail [] _ S
      exact ⟨y6, g6, F.sub ⟨rfl, trivial⟩, l6, S, hm⟩
     ·refine dv_etg ok2 3 rfl rfl rfl rfl rfl hc6 (ev_move rfl) F rfl rfl fun a F=>?_
      refine dv_etg ok2 5 rfl rfl rfl rfl rfl hc6 (ev_move rfl) F rfl rfl fun a F=>?_
      refine dv_etg ok2 6 rfl rfl rfl rfl rfl hc6 (ev_move rfl) F rfl rfl fun a F=>?_
      obtain ⟨y7, hy7, hm⟩ := bind_some hm
      obtain ⟨v8, h8, he1⟩ := ev_cut (P := Try.prog) (n := 82) (e := [(65, .i6 i_), (64, vl_1), (62, v1), (61, .bool !y1.2.1), (60, .bool !y1.2.1), (59, .bool y1.2.1), (58, .bool x5), (9, bp b6 0), (8, bp b7 0), (6, .bool y1.2.1), (5, v1), (0, vl_1), (1, .i6 i_)]) (C := fun _ => True) (x := .tmp 64) (lo := Option.none) (hi := some (.tmp 65)) (hl_1.mono (l1.trans l4)) hy7 tu22 ts38 rfl (bnd0 _) (bndV rfl)
      refine dv_etg ok2 7 rfl rfl rfl rfl rfl hc6 he1 F rfl rfl fun a F=>?_
      refine dv_evg ok2 9 rfl rfl rfl rfl rfl hc6 (ev_loadA tu38 rfl (cs := [v7]) ts38 rfl (box_ptr (cells := [v7]) 2 rfl 0 rfl (lb rfl))) F S rfl rfl fun a F=>?_
      refine dv_evg ok2 10 rfl rfl rfl rfl rfl hc6 (ev_loadA tu38 rfl (cs := [v6]) ts38 rfl (box_ptr (cells := [v6]) 1 rfl 0 rfl (lb rfl))) F S rfl rfl fun a F=>?_
      refine dv_etg ok2 13 rfl rfl rfl rfl rfl hc6 (ev_move rfl) F rfl rfl fun a F=>?_
      refine dv_etg ok2 14 rfl rfl rfl rfl rfl hc6 (ev_move rfl) F rfl rfl fun a F=>?_
      refine dv_etg ok2 15 rfl rfl rfl rfl rfl hc6 (ev_int rfl rfl bo_addw) F rfl rfl fun a F=>?_
      obtain ⟨y8, hy8, hm⟩ := bind_some hm
      obtain ⟨v9, h9, he2⟩ := ev_cut (P := Try.prog) (n := 82) (e := [(74, .i6 (wr .i64 (i_ + 2))), (73, .i6 i_), (72, vl_1), (69, .agg #[v6]), (68, .agg #[v7]), (66, v8), (65, .i6 i_), (64, vl_1), (62, v1), (61, .bool !y1.2.1), (60, .bool !y1.2.1), (59, .bool y1.2.1), (58, .bool x5), (9, bp b6 0), (8, bp b7 0), (6, .bool y1.2.1), (5, v1), (0, vl_1), (1, .i6 i_)]) (C := fun _ => True) (x := .tmp 72) (lo := some (.tmp 74)) (hi := Option.none) (hl_1.mono (l1.trans l4)) hy8 tu22 ts38 rfl (bndV rfl) (bnd0 _)
      refine dv_etg ok2 16 rfl rfl rfl rfl rfl hc6 he2 F rfl rfl fun a F=>?_
      obtain ⟨y9, hy9, hm⟩ := bind_some hm
      refine dv_cut [0, 1, 2, 3, 5, 6, 7, 9, 10, 13, 14, 15, 16, 4, 8, 11] [] (fun a w => ∃ (x7 : List Patch) (v13 v14 : Value) (c5 c6 : Hl) (g7 : Gh), Fr 82 a [(70, v13), (67, v14), (75, v9), (62, v1), (61, .bool !y1.2.1)] ∧ Le g4 g7 ∧ St g7 [c5, c6, c1] fr w ∧ OwnS g7 x7 v13 c5 ∧ OwnS g7 y9 v14 c6 ∧ changeforgelaw2_StackNeighbors.j3 y1 y8 y9 x7 = some r) ?_ ?_
      ·intro HJ
       refine dv_fork ok2 4 [11] (fk 4 rfl [(10, .agg #[v6]), (9, .agg #[v7])] ?_ (fk 11 rfl [] ?_ trivial))
       ·refine wl_lit (l := ([] : List Patch)) (vs := []) (parts := []) (wg F rfl rfl rfl rfl hc6) rfl rfl rfl tu22 te38 sz_nil rfl (Cat.nil _) coa_nil rfl F S rfl rfl ?_; clear F a S
        rintro v10 c2 a w h10 F S
        refine dv_nx ⟨yl_evg rfl rfl rfl rfl rfl hc6 (ev_loadA tu38 rfl (cs := [v6]) ts38 rfl (box_ptr (cells := [v6]) 2 rfl 0 rfl (lb rfl))) F S, yl_evg rfl rfl rfl rfl rfl hc6 (ev_loadA tu38 rfl (cs := [v7]) ts38 rfl (box_ptr (cells := [v7]) 3 rfl 0 rfl (lb rfl))) F S, trivial⟩ ?_
        refine dv_fork ok2 8 [11] (fk 8 rfl [(10, .agg #[v6]), (9, .agg #[v7])] ?_ (fk 11 rfl [] ?_ trivial))
        ·obtain ⟨cs3, hk1, hr3⟩ := RepSl.reads h8
         refine wl_append (wg F rfl rfl rfl rfl hc6) rfl tu22 tu22 te38 (by decide) (by decide) F S rfl rfl (k := 0) rfl h10 hk1 rfl (hr3 _ _ S) hy9 rfl rfl ?_; clear F a S
         rintro v11 c3 a w h11 S F; replace S : St g4 [c3, [bx b5 #[.i6 y5.2.2.2.Code, .i6 y5.2.2.2.Index] 24], [bx b6 #[v6] 38], [bx b7 #[v7] 38], c1] fr w := S
         refine dv_nx ⟨yl_evg rfl rfl rfl rfl rfl hc6 (ev_loadA tu38 rfl (cs := [v6]) ts38 rfl (box_ptr (cells := [v6]) 2 rfl 0 rfl (lb rfl))) F S, yl_evg rfl rfl rfl rfl rfl hc6 (ev_loadA tu38 rfl (cs := [v7]) ts38 rfl (box_ptr (cells := [v7]) 3 rfl 0 rfl (lb rfl))) F S, trivial⟩ ?_
         refine dv_op ok2 11 rfl [] ?_
         refine wl_lit (l := ([y5.1, y5.2.1] : List Patch)) (vs := [.agg #[v7], .agg #[v6]]) (parts := [(0, .tmp 68), (1, .tmp 69)]) (wg F rfl rfl rfl rfl hc6) rfl rfl rfl tu22 te38 (sz_cons rfl (sz_cons rfl sz_nil)) rfl (Cat.cons (rep_Patch_mk (x := y5.1) h7) (Cat.cons (rep_Patch_mk (x := y5.2.1) h6) (Cat.nil _))) (coa_cons rfl (coa_cons rfl coa_nil)) rfl F S rfl rfl ?_; clear F a S
         rintro v12 c4 a w h12 F S
         refine dv_nx trivial ?_
         refine dv_join (HJ _ _ ?_)
         replace S : St g4 [c4, c3, c1] fr w := St.tail [c4, c3, c1] _ (((S.frontC 5 rfl).frontC 2 rfl).frontC 2 rfl)
         exact ⟨([y5.1, y5.2.1] : List Patch), v12, v11, c4, c3, g4, F.sub ⟨rfl, rfl, rfl, rfl, rfl, trivial⟩, (Le.refl _), S, h12, h11, hm⟩
        ·refine wl_lit (l := ([y5.1, y5.2.1] : List Patch)) (vs := [.agg #[v7], .agg #[v6]]) (parts := [(0, .tmp 68), (1, .tmp 69)]) (wg F rfl rfl rfl rfl hc6) rfl rfl rfl tu22 te38 (sz_cons rfl (sz_cons rfl sz_nil)) rfl (Cat.cons (rep_Patch_mk (x := y5.1) h7) (Cat.cons (rep_Patch_mk (x := y5.2.1) h6) (Cat.nil _))) (coa_cons rfl (coa_cons rfl coa_nil)) rfl F S rfl rfl ?_; clear F a S
         rintro v12 c4 a w h12 F S
         refine dv_nx trivial ?_
         refine dv_op ok2 8 rfl [] ?_
         obtain ⟨cs3, hk1, hr3⟩ := RepSl.reads h8
         refine wl_append (wg F rfl rfl rfl rfl hc6) rfl tu22 tu22 te38 (by decide) (by decide) F S rfl rfl (k := 1) rfl h10 hk1 rfl (hr3 _ _ S) hy9 rfl rfl ?_; clear F a S
         rintro v11 c3 a w h11 S F; replace S : St g4 [c4, c3, [bx b5 #[.i6 y5.2.2.2.Code, .i6 y5.2.2.2.Index] 24], [bx b6 #[v6] 38], [bx b7 #[v7] 38], c1] fr w := S
         refine dv_nx trivial ?_
         refine dv_join (HJ _ _ ?_)
         replace S : St g4 [c4, c3, c1] fr w := St.tail [c4, c3, c1] _ (((S.frontC 5 rfl).frontC 2 rfl).frontC 2 rfl)
         exact ⟨([y5.1, y5.2.1] : List Patch), v12, v11, c4, c3, g4, F.sub ⟨rfl, rfl, rfl, rfl, rfl, trivial⟩, (Le.refl _), S, h12, h11, hm⟩
       ·refine wl_lit (l := ([y5.1, y5.2.1] : List Patch)) (vs := [.agg #[v7], .agg #[v6]]) (parts := [(0, .tmp 68), (1, .tmp 69)]) (wg F rfl rfl rfl rfl hc6) rfl rfl rfl tu22 te38 (sz_cons rfl (sz_cons rfl sz_nil)) rfl (Cat.cons (rep_Patch_mk (x := y5.1) h7) (Cat.cons (rep_Patch_mk (x := y5.2.1) h6) (Cat.nil _))) (coa_cons rfl (coa_cons rfl coa_nil)) rfl F S rfl rfl ?_; clear F a S
        rintro v12 c4 a w h12 F S
        refine dv_nx trivial ?_
        refine dv_op ok2 4 rfl [] ?_
        refine wl_lit (l := ([] : List Patch)) (vs := []) (parts := []) (wg F rfl rfl rfl rfl hc6) rfl rfl rfl tu22 te38 sz_nil rfl (Cat.nil _) coa_nil rfl F S rfl rfl ?_; clear F a S
        rintro v10 c2 a w h10 F S
        refine dv_nx trivial ?_
        refine dv_op ok2 8 rfl [] ?_
        obtain ⟨cs3, hk1, hr3⟩ := RepSl.reads h8
        refine wl_append (wg F rfl rfl rfl rfl hc6) rfl tu22 tu22 te38 (by decide) (by decide) F S rfl rfl (k := 0) rfl h10 hk1 rfl (hr3 _ _ S) hy9 rfl rfl ?_; clear F a S
        rintro v11 c3 a w h11 S F; replace S : St g4 [c3, c4, [bx b5 #[.i6 y5.2.2.2.Code, .i6 y5.2.2.2.Index] 24], [bx b6 #[v6] 38], [bx b7 #[v7] 38], c1] fr w := S
        refine dv_nx trivial ?_
        refine dv_join (HJ _ _ ?_)
        replace S : St g4 [c4, c3, c1] fr w := St.tail [c4, c3, c1] _ (((S.frontC 5 rfl).frontC 1 rfl).frontC 3 rfl)
        exact ⟨([y5.1, y5.2.1] : List Patch), v12, v11, c4, c3, g4, F.sub ⟨rfl, rfl, rfl, rfl, rfl, trivial⟩, (Le.refl _), S, h12, h11, hm⟩
      ·clear F S hm; rintro a w ⟨x7, v13, v14, c5, c6, g7, F, l7, S, h13, h14, hm⟩
       refine dv_op ok2 12 rfl [] ?_
       obtain ⟨cs4, hk2, hr4⟩ := OwnS.reads h13
       obtain ⟨y10, hy10, hm⟩ := bind_some hm
       refine wl_append (wg F rfl rfl rfl rfl hc6) rfl tu22 tu22 te38 (by decide) (by decide) F S rfl rfl (k := 1) rfl h14 hk2 rfl (hr4 _ _ _ 0 rfl S) hy10 rfl rfl ?_; clear F a S
       rintro v15 c7 a w h15 S F; replace S : St g7 [c5, c7, c1] fr w := S
       refine dv_nx trivial ?_
       refine dv_op ok2 17 rfl [] ?_
       obtain ⟨cs5, hk3, hr5⟩ := RepSl.reads (h9.mono l7)
       obtain ⟨y11, hy11, hm⟩ := bind_some hm
       refine wl_append (wg F rfl rfl rfl rfl hc6) rfl tu22 tu22 te38 (by decide) (by decide) F S rfl rfl (k := 1) rfl h15 hk3 rfl (hr5 _ _ S) hy11 rfl rfl ?_; clear F a S
       rintro v16 c8 a w h16 S F; replace S : St g7 [c5, c8, c1] fr w := S
       refine dv_nx trivial ?_
       refine dv_op ok2 18 rfl [] ?_
       obtain ⟨g8, l8, S, h17⟩ : ∃ gz, Le g7 gz ∧ St gz [c5, c8] fr w ∧ RepSl gz y1.1 v1 := ⟨_, Le.add _ _, S.freeze 2 rfl, OwnS.freeze (S.front 2 rfl) (h1.mono (l4.trans l7))⟩
       obtain ⟨g9, l9, S, h18⟩ : ∃ gz, Le g8 gz ∧ St gz [c5] fr w ∧ RepSl gz y11 v16 := ⟨_, Le.add _ _, S.freeze 1 rfl, OwnS.freeze (S.front 1 rfl) (h16.mono l8)⟩
       obtain ⟨y12, hy12, hm⟩ := bind_some hm
       refine wl_call0 (wg F rfl rfl rfl rfl hc6) rfl F rfl (changeforgeequal_Patches_ok (fr := (fl [c5] fr)) y1.1 v1 (h17.mono l9) y11 v16 h18 S hy12) rfl tc14 rfl rfl ?_; clear F a S
       rintro _ a w ⟨g10, l10, S, rfl⟩ F; replace S : St g10 [c5] fr w := S
       refine dv_nx trivial ?_
       refine dv_et ok2 19 rfl (ev_pickF rfl hc6 rfl) F rfl fun a F=>?_
       refine dv_et ok2 20 rfl (ev_move rfl) F rfl fun a F=>?_
       obtain ⟨hc7, hm⟩ | ⟨hc7, hm⟩ := ite_or hm
       ·refine dv_op ok2 21 rfl [] ?_
        obtain ⟨y13, hy13, hm⟩ := bind_some hm
        refine wl_call0 (wg F rfl rfl rfl rfl hc7) rfl F rfl (changeforgelaw2_dropped_ok (fr := (fl [c5] fr))  S hy13) rfl tc15 rfl rfl ?_; clear F a S
        rintro _ a w ⟨g11, l11, S, rfl⟩ F; replace S : St g11 [c5] fr w := S
        refine dv_nx trivial ?_
        refine dv_et ok2 22 rfl (ev_pickT rfl hc7 rfl) F rfl fun a F=>?_
        refine dv_et ok2 23 rfl (ev_assign rfl) F rfl fun a F=>?_
        refine dv_fin ok2 ?_
        refine then_n ?_
        replace S : St g11 [] fr w := St.tail [] _ S
        exact ⟨y13, g11, F.sub ⟨rfl, trivial⟩, ((((l7.trans l8).trans l9).trans l10).trans l11), S, hm⟩
       ·refine dv_skip ok2 21 rfl rfl rfl rfl rfl (ne_tf hc7) F rfl rfl fun a F=>?_
        refine dv_et ok2 22 rfl (ev_pickF rfl hc7 rfl) F rfl fun a F=>?_
        refine dv_et ok2 23 rfl (ev_assign rfl) F rfl fun a F=>?_
        refine dv_fin ok2 ?_
        refine then_n ?_
        replace S : St g10 [] fr w := St.tail [] _ S
        exact ⟨false, g10, F.sub ⟨rfl, trivial⟩, (((l7.trans l8).trans l9).trans l10), S, hm⟩
    ·clear F S hm; rintro a w ⟨x6, g5, F, l5, S, hm⟩
     refine then_n ?_
     refine wp_ret ?_
     obtain rfl := sinj hm
     refine post_r _ F rfl (ar_cons (resT rfl) ar_nil) ?_
     exact ⟨_, rfl, g5, ((l1.trans l4).trans l5), S, rfl⟩
end Go.Dc
