/- Walks: each function comes to what its model says. -/
import Derived.Test.YtgcjgmfdnhimmaaDcTab
import Derived.Test.YtgcjgmfdnhimmaaDcM
import Derived.Test.YtgcjgmfdnhimmaaDcW13
import Derived.Test.YtgcjgmfdnhimmaaDcW16
import Derived.Test.YtgcjgmfdnhimmaaDcW17
import Derived.Test.YtgcjgmfdnhimmaaDcW3
import Derived.Test.YtgcjgmfdnhimmaaDcW5
import Derived.Test.YtgcjgmfdnhimmaaDcW7
namespace Go.Dc
open Go Go.Proofs
set_option maxRecDepth 100000
set_option maxHeartbeats 4000000
set_option linter.unusedVariables false
theorem changeforgeref2_SquashStack_ok {g : Gh} {fr : Hl} {w : World} {r : (List Patch) × Fault} (l_ : (List Patch)) (vl_1 : Value) (hl_1 : RepSl g l_ vl_1) (i_ : Int) (S : St g [] fr w) (hm : changeforgeref2_SquashStack l_ i_ = some r) :
  Calls Try.prog 22 [vl_1, .i6 i_].toArray w (fun en w' => ∃ v, en = .returned v ∧ ∃ (g' : Gh) (v1 : Value) (c1 : Hl), Le g g' ∧ St g' [c1] fr w' ∧ OwnS g' r.1 v1 c1 ∧ .tuple #[v1, .agg #[.i6 r.2.Code, .i6 r.2.Index]] = v) := by
 unfold changeforgeref2_SquashStack at hm
 refine calls_enter (fn := Try.f22) Try.func22 rfl Try.ntmps22 (lb rfl) ?_
 intro a F
 replace F : Fr 58 a [(0, vl_1), (1, .i6 i_)] := F
 refine wp_seq ?_
 refine wp_region_lit ?_
 refine wE (ev_assign rfl) F S rfl fun a F=>?_
 refine wl_alloc (wn rfl) rfl tz24 (cs := [.i6 0, .i6 0]) rfl F S rfl rfl ?_; clear F a S; rintro b1 a w F S
 refine wpList_nil ?_
 refine then_n ?_
 refine wp_seq ?_
 refine wp_seq ?_
 refine wp_region_lit ?_
 refine wE (ev_move rfl) F S rfl fun a F=>?_
 obtain ⟨y1, hy1, hm⟩ := bind_some hm
 refine wl_call0 (wn rfl) rfl F rfl (changeforgeref2_StackFault_ok (fr := (fl [[bx b1 #[.i6 0, .i6 0] 24]] fr)) l_ vl_1 hl_1 S hy1) rfl tc25 rfl rfl ?_; clear F a S
 rintro _ a w ⟨g1, l1, S, rfl⟩ F; replace S : St g1 [[bx b1 #[.i6 0, .i6 0] 24]] fr w := S
 refine wl_alloc (wn rfl) rfl tz24 (cs := [.i6 0, .i6 0]) rfl F S rfl rfl ?_; clear F a S; rintro b2 a w F S
 refine wl_storeC (wn rfl) rfl F S rfl rfl (vs := [.i6 y1.Code, .i6 y1.Index]) rfl ts24 (one_cons rfl (one_cons rfl one_nil)) (k := 0) rfl (lb rfl) (c' := #[.i6 y1.Code, .i6 y1.Index]) rfl rfl ?_; clear S; intro w S
 refine wpList_nil ?_
 refine then_n ?_
 refine wp_seq ?_
 refine wp_region_lit ?_
 refine wE (ev_fieldAddr' tu24 tf24_0 (z := 0) ts3 rfl ⟨_, rfl⟩ rfl) F S rfl fun a F=>?_
 refine wE (ev_load1 tu3 rfl rfl (box_ptr (cells := [.i6 y1.Code]) 0 rfl 0 rfl (lb rfl))) F S rfl fun a F=>?_
 refine wE (ev_int rfl rfl (bo_neq _ _ _ _)) F S rfl fun a F=>?_
 refine wpList_nil ?_
 refine then_n ?_
 obtain ⟨hc1, hm⟩ | ⟨hc1, hm⟩ := ite_or hm
 ·refine wp_condT F rfl hc1 ?_
  refine wp_seq ?_
  refine wp_dv [] mo S ?_; clear S; intro ok1 w S
  refine dv_ev ok1 0 rfl (ev_loadA tu24 rfl (cs := [.i6 y1.Code, .i6 y1.Index]) ts24 rfl (box_ptr (cells := [.i6 y1.Code, .i6 y1.Index]) 0 rfl 0 rfl (lb rfl))) F S rfl fun a F=>?_
  refine dv_et ok1 1 rfl (ev_assign rfl) F rfl fun a F=>?_
  refine dv_op ok1 2 rfl [] ?_
  refine wl_storeC (wn rfl) rfl F S rfl rfl (vs := [.i6 y1.Code, .i6 y1.Index]) rfl ts24 (one_cons rfl (one_cons rfl one_nil)) (k := 1) rfl (lb rfl) (c' := #[.i6 y1.Code, .i6 y1.Index]) rfl rfl ?_; clear S; intro w S
  refine dv_nx trivial ?_
  refine dv_fin ok1 ?_
  refine then_n ?_
  refine wp_ret ?_
  refine then_r ?_
  obtain rfl := sinj hm
  replace S : St g1 [[], [bx b2 #[.i6 y1.Code, .i6 y1.Index] 24], [bx b1 #[.i6 y1.Code, .i6 y1.Index] 24]] fr w := S
  refine post_r _ F rfl (ar_cons (resT rfl) (ar_cons (resA rfl tu24 rfl (box_ptr (cells := [.i6 y1.Code, .i6 y1.Index]) 2 rfl 0 rfl (lb rfl) w S) ts24) ar_nil)) ?_
  replace S : St g1 [[]] fr w := St.tail [[]] _ (S.frontC 0 rfl)
  exact ⟨_, rfl, g1, (nilS), [], l1, S, (OwnS.nil _), rfl⟩
 ·refine wp_condF F rfl hc1 ?_
  refine wp_skip ?_
  refine then_n ?_
  refine wp_seq ?_
  refine wp_seq ?_
  refine wp_region_lit ?_
  refine wE (ev_move rfl) F S rfl fun a F=>?_
  refine wE (ev_int rfl rfl (bo_lss _ _ _ _)) F S rfl fun a F=>?_
  refine wE (ev_move rfl) F S rfl fun a F=>?_
  obtain ⟨x1, hx1, hm⟩ := bind_some hm
  refine wl_cut 6 (fun a w' => w = w' ∧ Fr 58 a [(23, .bool x1), (5, bp b1 0), (0, vl_1), (1, .i6 i_)]) ?_ ?_
  ·clear hm; obtain ⟨hc2, hm⟩ | ⟨hc2, hm⟩ := ite_or hx1
   ·refine wl_skip rfl rfl rfl rfl (ne_ft hc2) F rfl rfl ?_; clear F a; intro a F
    refine wl_skip rfl rfl rfl rfl (ne_ft hc2) F rfl rfl ?_; clear F a; intro a F
    refine wl_skip rfl rfl rfl rfl (ne_ft hc2) F rfl rfl ?_; clear F a; intro a F
    refine wl_skip rfl rfl rfl rfl (ne_ft hc2) F rfl rfl ?_; clear F a; intro a F
    refine wl_skip rfl rfl rfl rfl (ne_ft hc2) F rfl rfl ?_; clear F a; intro a F
    refine wE (ev_pickT rfl hc2 rfl) F S rfl fun a F=>?_
    obtain rfl := sinj hm
    refine wpList_nil (then_n ?_); exact ⟨rfl, F.sub ⟨rfl, rfl, rfl, rfl, trivial⟩⟩
   ·refine wl_ev (wg F rfl rfl rfl rfl hc2) (ev_move rfl) F S rfl rfl ?_; clear F a; intro a F
    refine wl_ev (wg F rfl rfl rfl rfl hc2) (ev_move rfl) F S rfl rfl ?_; clear F a; intro a F
    refine wl_ev (wg F rfl rfl rfl rfl hc2) (ev_lenSh hl_1 rfl tu22) F S rfl rfl ?_; clear F a; intro a F
    obtain ⟨z1, hz1, hm⟩ := bind_some hm
    refine wl_ev (wg F rfl rfl rfl rfl hc2) (ev_int rfl rfl (bo_sub hz1)) F S rfl rfl ?_; clear F a; intro a F
    refine wl_ev (wg F rfl rfl rfl rfl hc2) (ev_int rfl rfl (bo_geq _ _ _ _)) F S rfl rfl ?_; clear F a; intro a F
    refine wE (ev_pickF rfl hc2 rfl) F S rfl fun a F=>?_
    obtain rfl := sinj hm
    refine wpList_nil (then_n ?_); exact ⟨rfl, F.sub ⟨rfl, rfl, rfl, rfl, trivial⟩⟩
  clear F; rintro a w' ⟨rfl, F⟩
  refine wpList_nil ?_
  refine then_n ?_
  obtain ⟨hc3, hm⟩ | ⟨hc3, hm⟩ := ite_or hm
  ·refine wp_condT F rfl hc3 ?_
   refine wp_seq ?_
   refine wp_region_lit ?_
   obtain ⟨y2, hy2, hm⟩ := bind_some hm
   refine wl_call0 (wn rfl) rfl F rfl (changeforgeref1_At_ok (fr := (fl [[bx b2 #[.i6 y1.Code, .i6 y1.Index] 24], [bx b1 #[.i6 0, .i6 0] 24]] fr)) 3 (-2) S hy2) rfl tc26 rfl rfl ?_; clear F a S
   rintro _ a w ⟨g2, l2, S, rfl⟩ F; replace S : St g2 [[bx b2 #[.i6 y1.Code, .i6 y1.Index] 24], [bx b1 #[.i6 0, .i6 0] 24]] fr w := S
   refine wE (ev_assign rfl) F S rfl fun a F=>?_
   refine wl_storeC (wn rfl) rfl F S rfl rfl (vs := [.i6 y2.Code, .i6 y2.Index]) rfl ts24 (one_cons rfl (one_cons rfl one_nil)) (k := 1) rfl (lb rfl) (c' := #[.i6 y2.Code, .i6 y2.Index]) rfl rfl ?_; clear S; intro w S
   refine wpList_nil ?_
   refine then_n ?_
   refine wp_ret ?_
   refine then_r ?_
   obtain rfl := sinj hm
   replace S : St g2 [[], [bx b2 #[.i6 y1.Code, .i6 y1.Index] 24], [bx b1 #[.i6 y2.Code, .i6 y2.Index] 24]] fr w := S
   refine post_r _ F rfl (ar_cons (resT rfl) (ar_cons (resA rfl tu24 rfl (box_ptr (cells := [.i6 y2.Code, .i6 y2.Index]) 2 rfl 0 rfl (lb rfl) w S) ts24) ar_nil)) ?_
   replace S : St g2 [[]] fr w := St.tail [[]] _ (S.frontC 0 rfl)
   exact ⟨_, rfl, g2, (nilS), [], (l1.trans l2), S, (OwnS.nil _), rfl⟩
  ·refine wp_condF F rfl hc3 ?_
   refine wp_skip ?_
   refine then_n ?_
   refine wp_seq ?_
   refine wp_dv [] mo S ?_; clear S; intro ok2 w S
   refine dv_et ok2 0 rfl (ev_move rfl) F rfl fun a F=>?_
   refine dv_et ok2 1 rfl (ev_move rfl) F rfl fun a F=>?_
   obtain ⟨y3, hy3, hm⟩ := bind_some hm
   obtain ⟨cs1, hr1, hp1⟩ := elemS (hl_1.mono l1) hy3
   obtain ⟨v1, rfl, h1⟩ := rep_Patch hr1
   refine dv_et ok2 2 rfl (ev_idxS (hl_1.mono l1) hy3 tu22 ts38 rfl rfl) F rfl fun a F=>?_
   refine dv_ev ok2 3 rfl (ev_loadA tu38 rfl (cs := [v1]) ts38 rfl (ptr_mono (cks := [[bx b2 #[.i6 y1.Code, .i6 y1.Index] 24], [bx b1 #[.i6 0, .i6 0] 24]]) (fr := fr) hp1 (Le.refl _))) F S rfl fun a F=>?_
   refine dv_et ok2 4 rfl (ev_move rfl) F rfl fun a F=>?_
   refine dv_et ok2 5 rfl (ev_move rfl) F rfl fun a F=>?_
   obtain ⟨z2, hz2, hm⟩ := bind_some hm
   refine dv_et ok2 6 rfl (ev_int rfl rfl (bo_add hz2)) F rfl fun a F=>?_
   obtain ⟨y4, hy4, hm⟩ := bind_some hm
   obtain ⟨cs2, hr2, hp2⟩ := elemS (hl_1.mono l1) hy4
   obtain ⟨v2, rfl, h2⟩ := rep_Patch hr2
   refine dv_et ok2 7 rfl (ev_idxS (hl_1.mono l1) hy4 tu22 ts38 rfl rfl) F rfl fun a F=>?_
   refine dv_ev ok2 8 rfl (ev_loadA tu38 rfl (cs := [v2]) ts38 rfl (ptr_mono (cks := [[bx b2 #[.i6 y1.Code, .i6 y1.Index] 24], [bx b1 #[.i6 0, .i6 0] 24]]) (fr := fr) hp2 (Le.refl _))) F S rfl fun a F=>?_
   obtain ⟨y5, hy5, hm⟩ := bind_some hm
   refine dv_cut [0, 1, 2, 3, 4, 5, 6, 7, 8, 9, 10, 11, 12, 13, 14] (fun a w => ∃ (v4 : Value) (b5 b6 : Nat) (g4 : Gh), Fr 58 a [(8, bp b5 0), (7, bp b6 0), (37, .agg #[.i6 y5.2.Code, .i6 y5.2.Index]), (36, .agg #[v4]), (5, bp b1 0), (0, vl_1), (1, .i6 i_)] ∧ Le g1 g4 ∧ St g4 [[bx b5 #[.i6 0, .i6 0] 24], [bx b6 #[nilS] 38], [bx b1 #[.i6 0, .i6 0] 24]] fr w ∧ RepSl g4 y5.1.Hunks v4 ∧ changeforgeref2_SquashStack.j1 l_ i_ y5 = some r) ?_ ?_
   ·intro HJ
    refine dv_fork ok2 9 [13, 14] (fk 9 rfl [] ?_ (fk 13 rfl [(8, .agg #[v2]), (3, .agg #[v1])] ?_ (fk 14 rfl [(8, .agg #[v2]), (3, .agg #[v1])] ?_ trivial)))
    ·refine wl_call0 (wn rfl) rfl F rfl (changeforgeref1_Compose_ok (fr := (fl [[bx b2 #[.i6 y1.Code, .i6 y1.Index] 24], [bx b1 #[.i6 0, .i6 0] 24]] fr)) y3 v1 h1 y4 v2 h2 S hy5) rfl tc44 rfl rfl ?_; clear F a S
     rintro _ a w ⟨g3, v3, l3, S, h3, rfl⟩ F; replace S : St g3 [[bx b2 #[.i6 y1.Code, .i6 y1.Index] 24], [bx b1 #[.i6 0, .i6 0] 24]] fr w := S
     refine dv_nx trivial ?_
     refine dv_et ok2 10 rfl (ev_move rfl) F rfl fun a F=>?_
     refine dv_et ok2 11 rfl (ev_extract rfl rfl) F rfl fun a F=>?_
     refine dv_et ok2 12 rfl (ev_extract rfl rfl) F rfl fun a F=>?_
     refine dv_fork ok2 13 [14] (fk 13 rfl [] ?_ (fk 14 rfl [] ?_ trivial))
     ·refine wl_alloc (wn rfl) rfl tz38 (cs := [nilS]) rfl F S rfl rfl ?_; clear F a S; rintro b3 a w F S
      refine dv_nx trivial ?_
      refine dv_op ok2 14 rfl [] ?_
      refine wl_alloc (wn rfl) rfl tz24 (cs := [.i6 0, .i6 0]) rfl F S rfl rfl ?_; clear F a S; rintro b4 a w F S
      refine dv_nx trivial ?_
      refine dv_join (HJ _ _ ?_)
      replace S : St g3 [[bx b4 #[.i6 0, .i6 0] 24], [bx b3 #[nilS] 38], [bx b1 #[.i6 0, .i6 0] 24]] fr w := St.tail [[bx b4 #[.i6 0, .i6 0] 24], [bx b3 #[nilS] 38], [bx b1 #[.i6 0, .i6 0] 24]] _ (((S.frontC 3 rfl).frontC 2 rfl).frontC 2 rfl)
      exact ⟨v3, b4, b3, g3, F.sub ⟨rfl, rfl, rfl, rfl, rfl, rfl, rfl, trivial⟩, l3, S, h3, hm⟩
     ·refine wl_alloc (wn rfl) rfl tz24 (cs := [.i6 0, .i6 0]) rfl F S rfl rfl ?_; clear F a S; rintro b4 a w F S
      refine dv_nx trivial ?_
      refine dv_op ok2 13 rfl [] ?_
      refine wl_alloc (wn rfl) rfl tz38 (cs := [nilS]) rfl F S rfl rfl ?_; clear F a S; rintro b3 a w F S
      refine dv_nx trivial ?_
      refine dv_join (HJ _ _ ?_)
      replace S : St g3 [[bx b4 #[.i6 0, .i6 0] 24], [bx b3 #[nilS] 38], [bx b1 #[.i6 0, .i6 0] 24]] fr w := St.tail [[bx b4 #[.i6 0, .i6 0] 24], [bx b3 #[nilS] 38], [bx b1 #[.i6 0, .i6 0] 24]] _ (((S.frontC 3 rfl).frontC 1 rfl).frontC 3 rfl)
      exact ⟨v3, b4, b3, g3, F.sub ⟨rfl, rfl, rfl, rfl, rfl, rfl, rfl, trivial⟩, l3, S, h3, hm⟩
    ·refine wl_alloc (wn rfl) rfl tz38 (cs := [nilS]) rfl F S rfl rfl ?_; clear F a S; rintro b3 a w F S
     refine dv_nx ⟨yl_ev rfl rfl (ev_loadA tu38 rfl (cs := [v2]) ts38 rfl (ptr_mono (cks := [[bx b3 #[nilS] 38], [bx b2 #[.i6 y1.Code, .i6 y1.Index] 24], [bx b1 #[.i6 0, .i6 0] 24]]) (fr := fr) hp2 (Le.refl _))) F S, yl_ev rfl rfl (ev_loadA tu38 rfl (cs := [v1]) ts38 rfl (ptr_mono (cks := [[bx b3 #[nilS] 38], [bx b2 #[.i6 y1.Code, .i6 y1.Index] 24], [bx b1 #[.i6 0, .i6 0] 24]]) (fr := fr) hp1 (Le.refl _))) F S, trivial⟩ ?_
     refine dv_fork ok2 9 [14] (fk 9 rfl [] ?_ (fk 14 rfl [(8, .agg #[v2]), (3, .agg #[v1])] ?_ trivial))
     ·refine wl_call0 (wn rfl) rfl F rfl (changeforgeref1_Compose_ok (fr := (fl [[bx b3 #[nilS] 38], [bx b2 #[.i6 y1.Code, .i6 y1.Index] 24], [bx b1 #[.i6 0, .i6 0] 24]] fr)) y3 v1 h1 y4 v2 h2 S hy5) rfl tc44 rfl rfl ?_; clear F a S
      rintro _ a w ⟨g3, v3, l3, S, h3, rfl⟩ F; replace S : St g3 [[bx b3 #[nilS] 38], [bx b2 #[.i6 y1.Code, .i6 y1.Index] 24], [bx b1 #[.i6 0, .i6 0] 24]] fr w := S
      refine dv_nx trivial ?_
      refine dv_et ok2 10 rfl (ev_move rfl) F rfl fun a F=>?_
      refine dv_et ok2 11 rfl (ev_extract rfl rfl) F rfl fun a F=>?_
      refine dv_et ok2 12 rfl (ev_extract rfl rfl) F rfl fun a F=>?_
      refine dv_op ok2 14 rfl [] ?_
      refine wl_alloc (wn rfl) rfl tz24 (cs := [.i6 0, .i6 0]) rfl F S rfl rfl ?_; clear F a S; rintro b4 a w F S
      refine dv_nx trivial ?_
      refine dv_join (HJ _ _ ?_)
      replace S : St g3 [[bx b4 #[.i6 0, .i6 0] 24], [bx b3 #[nilS] 38], [bx b1 #[.i6 0, .i6 0] 24]] fr w := St.tail [[bx b4 #[.i6 0, .i6 0] 24], [bx b3 #[nilS] 38], [bx b1 #[.i6 0, .i6 0] 24]] _ (((S.frontC 3 rfl).frontC 2 rfl).frontC 2 rfl)
      exact ⟨v3, b4, b3, g3, F.sub ⟨rfl, rfl, rfl, rfl, rfl, rfl, rfl, trivial⟩, l3, S, h3, hm⟩
     ·refine wl_alloc (wn rfl) rfl tz24 (cs := [.i6 0, .i6 0]) rfl F S rfl rfl ?_; clear F a S; rintro b4 a w F S
      refine dv_nx ⟨yl_ev rfl rfl (ev_loadA tu38 rfl (cs := [v2]) ts38 rfl (ptr_mono (cks := [[bx b4 #[.i6 0, .i6 0] 24], [bx b3 #[nilS] 38], [bx b2 #[.i6 y1.Code, .i6 y1.Index] 24], [bx b1 #[.i6 0, .i6 0] 24]]) (fr := fr) hp2 (Le.refl _))) F S, yl_ev rfl rfl (ev_loadA tu38 rfl (cs := [v1]) ts38 rfl (ptr_mono (cks := [[bx b4 #[.i6 0, .i6 0] 24], [bx b3 #[nilS] 38], [bx b2 #[.i6 y1.Code, .i6 y1.Index] 24], [bx b1 #[.i6 0, .i6 0] 24]]) (fr := fr) hp1 (Le.refl _))) F S, trivial⟩ ?_
      refine dv_op ok2 9 rfl [] ?_
      refine wl_call0 (wn rfl) rfl F rfl (changeforgeref1_Compose_ok (fr := (fl [[bx b4 #[.i6 0, .i6 0] 24], [bx b3 #[nilS] 38], [bx b2 #[.i6 y1.Code, .i6 y1.Index] 24], [bx b1 #[.i6 0, .i6 0] 24]] fr)) y3 v1 h1 y4 v2 h2 S hy5) rfl tc44 rfl rfl ?_; clear F a S
      rintro _ a w ⟨g3, v3, l3, S, h3, rfl⟩ F; replace S : St g3 [[bx b4 #[.i6 0, .i6 0] 24], [bx b3 #[nilS] 38], [bx b2 #[.i6 y1.Code, .i6 y1.Index] 24], [bx b1 #[.i6 0, .i6 0] 24]] fr w := S
      refine dv_nx trivial ?_
      refine dv_et ok2 10 rfl (ev_move rfl) F rfl fun a F=>?_
      refine dv_et ok2 11 rfl (ev_extract rfl rfl) F rfl fun a F=>?_
      refine dv_et ok2 12 rfl (ev_extract rfl rfl) F rfl fun a F=>?_
      refine dv_join (HJ _ _ ?_)
      replace S : St g3 [[bx b4 #[.i6 0, .i6 0] 24], [bx b3 #[nilS] 38], [bx b1 #[.i6 0, .i6 0] 24]] fr w := St.tail [[bx b4 #[.i6 0, .i6 0] 24], [bx b3 #[nilS] 38], [bx b1 #[.i6 0, .i6 0] 24]] _ (((S.frontC 3 rfl).frontC 2 rfl).frontC 2 rfl)
      exact ⟨v3, b4, b3, g3, F.sub ⟨rfl, rfl, rfl, rfl, rfl, rfl, rfl, trivial⟩, l3, S, h3, hm⟩
    ·refine wl_alloc (wn rfl) rfl tz24 (cs := [.i6 0, .i6 0]) rfl F S rfl rfl ?_; clear F a S; rintro b4 a w F S
     refine dv_nx ⟨yl_ev rfl rfl (ev_loadA tu38 rfl (cs := [v2]) ts38 rfl (ptr_mono (cks := [[bx b4 #[.i6 0, .i6 0] 24], [bx b2 #[.i6 y1.Code, .i6 y1.Index] 24], [bx b1 #[.i6 0, .i6 0] 24]]) (fr := fr) hp2 (Le.refl _))) F S, yl_ev rfl rfl (ev_loadA tu38 rfl (cs := [v1]) ts38 rfl (ptr_mono (cks := [[bx b4 #[.i6 0, .i6 0] 24], [bx b2 #[.i6 y1.Code, .i6 y1.Index] 24], [bx b1 #[.i6 0, .i6 0] 24]]) (fr := fr) hp1 (Le.refl _))) F S, trivial⟩ ?_
     refine dv_fork ok2 9 [13] (fk 9 rfl [] ?_ (fk 13 rfl [(8, .agg #[v2]), (3, .agg #[v1])] ?_ trivial))
     ·refine wl_call0 (wn rfl) rfl F rfl (changeforgeref1_Compose_ok (fr := (fl [[bx b4 #[.i6 0, .i6 0] 24], [bx b2 #[.i6 y1.Code, .i6 y1.Index] 24], [bx b1 #[.i6 0, .i6 0] 24]] fr)) y3 v1 h1 y4 v2 h2 S hy5) rfl tc44 rfl rfl ?_; clear F a S
      rintro _ a w ⟨g3, v3, l3, S, h3, rfl⟩ F; replace S : St g3 [[bx b4 #[.i6 0, .i6 0] 24], [bx b2 #[.i6 y1.Code, .i6 y1.Index] 24], [bx b1 #[.i6 0, .i6 0] 24]] fr w := S
      refine dv_nx trivial ?_
      refine dv_et ok2 10 rfl (ev_move rfl) F rfl fun a F=>?_
      refine dv_et ok2 11 rfl (ev_extract rfl rfl) F rfl fun a F=>?_
      refine dv_et ok2 12 rfl (ev_extract rfl rfl) F rfl fun a F=>?_
      refine dv_op ok2 13 rfl [] ?_
      refine wl_alloc (wn rfl) rfl tz38 (cs := [nilS]) rfl F S rfl rfl ?_; clear F a S; rintro b3 a w F S
      refine dv_nx trivial ?_
      refine dv_join (HJ _ _ ?_)
      replace S : St g3 [[bx b4 #[.i6 0, .i6 0] 24], [bx b3 #[nilS] 38], [bx b1 #[.i6 0, .i6 0] 24]] fr w := St.tail [[bx b4 #[.i6 0, .i6 0] 24], [bx b3 #[nilS] 38], [bx b1 #[.i6 0, .i6 0] 24]] _ (((S.frontC 3 rfl).frontC 1 rfl).frontC 3 rfl)
      exact ⟨v3, b4, b3, g3, F.sub ⟨rfl, rfl, rfl, rfl, rfl, rfl, rfl, trivial⟩, l3, S, h3, hm⟩
     ·refine wl_alloc (wn rfl) rfl tz38 (cs := [nilS]) rfl F S rfl rfl ?_; clear F a S; rintro b3 a w F S
      refine dv_nx ⟨yl_ev rfl rfl (ev_loadA tu38 rfl (cs := [v2]) ts38 rfl (ptr_mono (cks := [[bx b3 #[nilS] 38], [bx b4 #[.i6 0, .i6 0] 24], [bx b2 #[.i6 y1.Code, .i6 y1.Index] 24], [bx b1 #[.i6 0, .i6 0] 24]]) (fr := fr) hp2 (Le.refl _))) F S, yl_ev rfl rfl (ev_loadA tu38 rfl (cs := [v1]) ts38 rfl (ptr_mono (cks := [[bx b3 #[nilS] 38], [bx b4 #[.i6 0, .i6 0] 24], [bx b2 #[.i6 y1.Code, .i6 y1.Index] 24], [bx b1 #[.i6 0, .i6 0] 24]]) (fr := fr) hp1 (Le.refl _))) F S, trivial⟩ ?_
      refine dv_op ok2 9 rfl [] ?_
      refine wl_call0 (wn rfl) rfl F rfl (changeforgeref1_Compose_ok (fr := (fl [[bx b3 #[nilS] 38], [bx b4 #[.i6 0, .i6 0] 24], [bx b2 #[.i6 y1.Code, .i6 y1.Index] 24], [bx b1 #[.i6 0, .i6 0] 24]] fr)) y3 v1 h1 y4 v2 h2 S hy5) rfl tc44 rfl rfl ?_; clear F a S
      rintro _ a w ⟨g3, v3, l3, S, h3, rfl⟩ F; replace S : St g3 [[bx b3 #[nilS] 38], [bx b4 #[.i6 0, .i6 0] 24], [bx b2 #[.i6 y1.Code, .i6 y1.Index] 24], [bx b1 #[.i6 0, .i6 0] 24]] fr w := S
      refine dv_nx trivial ?_
      refine dv_et ok2 10 rfl (ev_move rfl) F rfl fun a F=>?_
      refine dv_et ok2 11 rfl (ev_extract rfl rfl) F rfl fun a F=>?_
      refine dv_et ok2 12 rfl (ev_extract rfl rfl) F rfl fun a F=>?_
      refine dv_join (HJ _ _ ?_)
      replace S : St g3 [[bx b4 #[.i6 0, .i6 0] 24], [bx b3 #[nilS] 38], [bx b1 #[.i6 0, .i6 0] 24]] fr w := St.tail [[bx b4 #[.i6 0, .i6 0] 24], [bx b3 #[nilS] 38], [bx b1 #[.i6 0, .i6 0] 24]] _ (((S.frontC 3 rfl).frontC 1 rfl).frontC 3 rfl)
      exact ⟨v3, b4, b3, g3, F.sub ⟨rfl, rfl, rfl, rfl, rfl, rfl, rfl, trivial⟩, l3, S, h3, hm⟩
   ·clear F S hm; rintro a w ⟨v4, b5, b6, g4, F, l4, S, h4, hm⟩
    refine dv_op ok2 15 rfl [] ?_
    refine wl_storeC (wn rfl) rfl F S rfl rfl (vs := [v4]) rfl ts38 (one_cons h4.one one_nil) (k := 1) rfl (lb rfl) (c' := #[v4]) rfl rfl ?_; clear S; intro w S
    refine dv_nx trivial ?_
    refine dv_op ok2 16 rfl [] ?_
    refine wl_storeC (wn rfl) rfl F S rfl rfl (vs := [.i6 y5.2.Code, .i6 y5.2.Index]) rfl ts24 (one_cons rfl (one_cons rfl one_nil)) (k := 0) rfl (lb rfl) (c' := #[.i6 y5.2.Code, .i6 y5.2.Index]) rfl rfl ?_; clear S; intro w S
    refine dv_nx trivial ?_
    refine dv_fin ok2 ?_
    refine then_n ?_
    refine wp_seq ?_
    refine wp_seq ?_
    refine wp_region_lit ?_
    refine wE (ev_fieldAddr' tu24 tf24_0 (z := 0) ts3 rfl ⟨_, rfl⟩ rfl) F S rfl fun a F=>?_
    refine wE (ev_load1 tu3 rfl rfl (box_ptr (cells := [.i6 y5.2.Code]) 0 rfl 0 rfl (lb rfl))) F S rfl fun a F=>?_
    refine wE (ev_int rfl rfl (bo_neq _ _ _ _)) F S rfl fun a F=>?_
    refine wpList_nil ?_
    refine then_n ?_
    obtain ⟨hc4, hm⟩ | ⟨hc4, hm⟩ := ite_or hm
    ·refine wp_condT F rfl hc4 ?_
     refine wp_seq ?_
     refine wp_region_lit ?_
     refine wE (ev_fieldAddr' tu24 tf24_0 (z := 0) ts3 rfl ⟨_, rfl⟩ rfl) F S rfl fun a F=>?_
     refine wE (ev_load1 tu3 rfl rfl (box_ptr (cells := [.i6 y5.2.Code]) 0 rfl 0 rfl (lb rfl))) F S rfl fun a F=>?_
     obtain ⟨y6, hy6, hm⟩ := bind_some hm
     refine wl_call0 (wn rfl) rfl F rfl (changeforgeref1_At_ok (fr := (fl [[bx b5 #[.i6 y5.2.Code, .i6 y5.2.Index] 24], [bx b6 #[v4] 38], [bx b1 #[.i6 0, .i6 0] 24]] fr)) y5.2.Code (-3) S hy6) rfl tc26 rfl rfl ?_; clear F a S
     rintro _ a w ⟨g5, l5, S, rfl⟩ F; replace S : St g5 [[bx b5 #[.i6 y5.2.Code, .i6 y5.2.Index] 24], [bx b6 #[v4] 38], [bx b1 #[.i6 0, .i6 0] 24]] fr w := S
     refine wE (ev_assign rfl) F S rfl fun a F=>?_
     refine wl_storeC (wn rfl) rfl F S rfl rfl (vs := [.i6 y6.Code, .i6 y6.Index]) rfl ts24 (one_cons rfl (one_cons rfl one_nil)) (k := 2) rfl (lb rfl) (c' := #[.i6 y6.Code, .i6 y6.Index]) rfl rfl ?_; clear S; intro w S
     refine wpList_nil ?_
     refine then_n ?_
     refine wp_ret ?_
     refine then_r ?_
     obtain rfl := sinj hm
     replace S : St g5 [[], [bx b5 #[.i6 y5.2.Code, .i6 y5.2.Index] 24], [bx b6 #[v4] 38], [bx b1 #[.i6 y6.Code, .i6 y6.Index] 24]] fr w := S
     refine post_r _ F rfl (ar_cons (resT rfl) (ar_cons (resA rfl tu24 rfl (box_ptr (cells := [.i6 y6.Code, .i6 y6.Index]) 3 rfl 0 rfl (lb rfl) w S) ts24) ar_nil)) ?_
     replace S : St g5 [[]] fr w := St.tail [[]] _ (S.frontC 0 rfl)
     exact ⟨_, rfl, g5, (nilS), [], ((l1.trans l4).trans l5), S, (OwnS.nil _), rfl⟩
    ·refine wp_condF F rfl hc4 ?_
     refine wp_skip ?_
     refine then_n ?_
     refine wp_seq ?_
     refine wp_dv [] mo S ?_; clear S; intro ok3 w S
     refine dv_et ok3 1 rfl (ev_move rfl) F rfl fun a F=>?_
     refine dv_et ok3 2 rfl (ev_move rfl) F rfl fun a F=>?_
     obtain ⟨y7, hy7, hm⟩ := bind_some hm
     obtain ⟨v5, h5, he1⟩ := ev_cut (P := Try.prog) (n := 58) (e := [(46, .i6 i_), (45, vl_1), (40, .bool (!decide (y5.2.Code = 0))), (39, .i6 y5.2.Code), (38, bp b5 0), (8, bp b5 0), (7, bp b6 0), (37, .agg #[.i6 y5.2.Code, .i6 y5.2.Index]), (36, .agg #[v4]), (5, bp b1 0), (0, vl_1), (1, .i6 i_)]) (C := fun _ => True) (x := .tmp 45) (lo := Option.none) (hi := some (.tmp 46)) (hl_1.mono (l1.trans l4)) hy7 tu22 ts38 rfl (bnd0 _) (bndV rfl)
     refine dv_et ok3 3 rfl he1 F rfl fun a F=>?_
     refine dv_ev ok3 5 rfl (ev_loadA tu38 rfl (cs := [v4]) ts38 rfl (box_ptr (cells := [v4]) 1 rfl 0 rfl (lb rfl))) F S rfl fun a F=>?_
     refine dv_et ok3 8 rfl (ev_move rfl) F rfl fun a F=>?_
     refine dv_et ok3 9 rfl (ev_move rfl) F rfl fun a F=>?_
     obtain ⟨z3, hz3, hm⟩ := bind_some hm
     refine dv_et ok3 10 rfl (ev_int rfl rfl (bo_add hz3)) F rfl fun a F=>?_
     obtain ⟨y8, hy8, hm⟩ := bind_some hm
     obtain ⟨v6, h6, he2⟩ := ev_cut (P := Try.prog) (n := 58) (e := [(54, .i6 z3), (53, .i6 i_), (52, vl_1), (49, .agg #[v4]), (47, v5), (46, .i6 i_), (45, vl_1), (40, .bool (!decide (y5.2.Code = 0))), (39, .i6 y5.2.Code), (38, bp b5 0), (8, bp b5 0), (7, bp b6 0), (37, .agg #[.i6 y5.2.Code, .i6 y5.2.Index]), (36, .agg #[v4]), (5, bp b1 0), (0, vl_1), (1, .i6 i_)]) (C := fun _ => True) (x := .tmp 52) (lo := some (.tmp 54)) (hi := Option.none) (hl_1.mono (l1.trans l4)) hy8 tu22 ts38 rfl (bndV rfl) (bnd0 _)
     refine dv_et ok3 11 rfl he2 F rfl fun a F=>?_
     refine dv_et ok3 13 rfl (ev_build (parts := []) (vs := []) rfl (fun w => tb24_  w)) F rfl fun a F=>?_
     obtain ⟨y9, hy9, hm⟩ := bind_some hm
     refine dv_cut [1, 2, 3, 5, 8, 9, 10, 11, 13, 0, 4, 6] (fun a w => ∃ (x3 : List Patch) (v10 v11 : Value) (c4 c5 : Hl) (g6 : Gh), Fr 58 a [(50, v10), (48, v11), (57, .agg #[.i6 0, .i6 0]), (55, v6), (5, bp b1 0)] ∧ Le g4 g6 ∧ St g6 [c4, c5, [bx b1 #[.i6 0, .i6 0] 24]] fr w ∧ OwnS g6 x3 v10 c4 ∧ OwnS g6 y9 v11 c5 ∧ changeforgeref2_SquashStack.j2 y8 y9 x3 = some r) ?_ ?_
     ·intro HJ
      refine dv_fork ok3 0 [6] (fk 0 rfl [(5, .agg #[v4])] ?_ (fk 6 rfl [] ?_ trivial))
      ·refine wl_lit (l := ([] : List Patch)) (vs := []) (parts := []) (wn rfl) rfl rfl rfl tu22 te38 sz_nil rfl (Cat.nil _) coa_nil rfl F S rfl rfl ?_; clear F a S
       rintro v7 c1 a w h7 F S
       refine dv_nx ⟨yl_ev rfl rfl (ev_loadA tu38 rfl (cs := [v4]) ts38 rfl (box_ptr (cells := [v4]) 2 rfl 0 rfl (lb rfl))) F S, trivial⟩ ?_
       refine dv_fork ok3 4 [6] (fk 4 rfl [(5, .agg #[v4])] ?_ (fk 6 rfl [] ?_ trivial))
       ·obtain ⟨cs3, hk1, hr3⟩ := RepSl.reads h5
        refine wl_append (wn rfl) rfl tu22 tu22 te38 (by decide) (by decide) F S rfl rfl (k := 0) rfl h7 hk1 rfl (hr3 _ _ S) hy9 rfl rfl ?_; clear F a S
        rintro v8 c2 a w h8 S F; replace S : St g4 [c2, [bx b5 #[.i6 y5.2.Code, .i6 y5.2.Index] 24], [bx b6 #[v4] 38], [bx b1 #[.i6 0, .i6 0] 24]] fr w := S
        refine dv_nx ⟨yl_ev rfl rfl (ev_loadA tu38 rfl (cs := [v4]) ts38 rfl (box_ptr (cells := [v4]) 2 rfl 0 rfl (lb rfl))) F S, trivial⟩ ?_
        refine dv_op ok3 6 rfl [] ?_
        refine wl_lit (l := ([y5.1] : List Patch)) (vs := [.agg #[v4]]) (parts := [(0, .tmp 49)]) (wn rfl) rfl rfl rfl tu22 te38 (sz_cons rfl sz_nil) rfl (Cat.cons (rep_Patch_mk (x := y5.1) h4) (Cat.nil _)) (coa_cons rfl coa_nil) rfl F S rfl rfl ?_; clear F a S
        rintro v9 c3 a w h9 F S
        refine dv_nx trivial ?_
        refine dv_join (HJ _ _ ?_)
        replace S : St g4 [c3, c2, [bx b1 #[.i6 0, .i6 0] 24]] fr w := St.tail [c3, c2, [bx b1 #[.i6 0, .i6 0] 24]] _ (((S.frontC 4 rfl).frontC 2 rfl).frontC 2 rfl)
        exact ⟨([y5.1] : List Patch), v9, v8, c3, c2, g4, F.sub ⟨rfl, rfl, rfl, rfl, rfl, trivial⟩, (Le.refl _), S, h9, h8, hm⟩
       ·refine wl_lit (l := ([y5.1] : List Patch)) (vs := [.agg #[v4]]) (parts := [(0, .tmp 49)]) (wn rfl) rfl rfl rfl tu22 te38 (sz_cons rfl sz_nil) rfl (Cat.cons (rep_Patch_mk (x := y5.1) h4) (Cat.nil _)) (coa_cons rfl coa_nil) rfl F S rfl rfl ?_; clear F a S
        rintro v9 c3 a w h9 F S
        refine dv_nx trivial ?_
        refine dv_op ok3 4 rfl [] ?_
        obtain ⟨cs3, hk1, hr3⟩ := RepSl.reads h5
        refine wl_append (wn rfl) rfl tu22 tu22 te38 (by decide) (by decide) F S rfl rfl (k := 1) rfl h7 hk1 rfl (hr3 _ _ S) hy9 rfl rfl ?_; clear F a S
        rintro v8 c2 a w h8 S F; replace S : St g4 [c3, c2, [bx b5 #[.i6 y5.2.Code, .i6 y5.2.Index] 24], [bx b6 #[v4] 38], [bx b1 #[.i6 0, .i6 0] 24]] fr w := S
        refine dv_nx trivial ?_
        refine dv_join (HJ _ _ ?_)
        replace S : St g4 [c3, c2, [bx b1 #[.i6 0, .i6 0] 24]] fr w := St.tail [c3, c2, [bx b1 #[.i6 0, .i6 0] 24]] _ (((S.frontC 4 rfl).frontC 2 rfl).frontC 2 rfl)
        exact ⟨([y5.1] : List Patch), v9, v8, c3, c2, g4, F.sub ⟨rfl, rfl, rfl, rfl, rfl, trivial⟩, (Le.refl _), S, h9, h8, hm⟩
      ·refine wl_lit (l := ([y5.1] : List Patch)) (vs := [.agg #[v4]]) (parts := [(0, .tmp 49)]) (wn rfl) rfl rfl rfl tu22 te38 (sz_cons rfl sz_nil) rfl (Cat.cons (rep_Patch_mk (x := y5.1) h4) (Cat.nil _)) (coa_cons rfl coa_nil) rfl F S rfl rfl ?_; clear F a S
       rintro v9 c3 a w h9 F S
       refine dv_nx trivial ?_
       refine dv_op ok3 0 rfl [] ?_
       refine wl_lit (l := ([] : List Patch)) (vs := []) (parts := []) (wn rfl) rfl rfl rfl tu22 te38 sz_nil rfl (Cat.nil _) coa_nil rfl F S rfl rfl ?_; clear F a S
       rintro v7 c1 a w h7 F S
       refine dv_nx trivial ?_
       refine dv_op ok3 4 rfl [] ?_
       obtain ⟨cs3, hk1, hr3⟩ := RepSl.reads h5
       refine wl_append (wn rfl) rfl tu22 tu22 te38 (by decide) (by decide) F S rfl rfl (k := 0) rfl h7 hk1 rfl (hr3 _ _ S) hy9 rfl rfl ?_; clear F a S
       rintro v8 c2 a w h8 S F; replace S : St g4 [c2, c3, [bx b5 #[.i6 y5.2.Code, .i6 y5.2.Index] 24], [bx b6 #[v4] 38], [bx b1 #[.i6 0, .i6 0] 24]] fr w := S
       refine dv_nx trivial ?_
       refine dv_join (HJ _ _ ?_)
       replace S : St g4 [c3, c2, [bx b1 #[.i6 0, .i6 0] 24]] fr w := St.tail [c3, c2, [bx b1 #[.i6 0, .i6 0] 24]] _ (((S.frontC 4 rfl).frontC 1 rfl).frontC 3 rfl)
       exact ⟨([y5.1] : List Patch), v9, v8, c3, c2, g4, F.sub ⟨rfl, rfl, rfl, rfl, rfl, trivial⟩, (Le.refl _), S, h9, h8, hm⟩
     ·clear F S hm; rintro a w ⟨x3, v10, v11, c4, c5, g6, F, l6, S, h10, h11, hm⟩
      refine dv_op ok3 7 rfl [] ?_
      obtain ⟨cs4, hk2, hr4⟩ := OwnS.reads h10
      obtain ⟨y10, hy10, hm⟩ := bind_some hm
      refine wl_append (wn rfl) rfl tu22 tu22 te38 (by decide) (by decide) F S rfl rfl (k := 1) rfl h11 hk2 rfl (hr4 _ _ _ 0 rfl S) hy10 rfl rfl ?_; clear F a S
      rintro v12 c6 a w h12 S F; replace S : St g6 [c4, c6, [bx b1 #[.i6 0, .i6 0] 24]] fr w := S
      refine dv_nx trivial ?_
      refine dv_op ok3 12 rfl [] ?_
      obtain ⟨cs5, hk3, hr5⟩ := RepSl.reads (h6.mono l6)
      obtain ⟨y11, hy11, hm⟩ := bind_some hm
      refine wl_append (wn rfl) rfl tu22 tu22 te38 (by decide) (by decide) F S rfl rfl (k := 1) rfl h12 hk3 rfl (hr5 _ _ S) hy11 rfl rfl ?_; clear F a S
      rintro v13 c7 a w h13 S F; replace S : St g6 [c4, c7, [bx b1 #[.i6 0, .i6 0] 24]] fr w := S
      refine dv_nx trivial ?_
      refine dv_et ok3 14 rfl (ev_assign rfl) F rfl fun a F=>?_
      refine dv_op ok3 15 rfl [] ?_
      refine wl_storeC (wn rfl) rfl F S rfl rfl (vs := [.i6 0, .i6 0]) rfl ts24 (one_cons rfl (one_cons rfl one_nil)) (k := 2) rfl (lb rfl) (c' := #[.i6 0, .i6 0]) rfl rfl ?_; clear S; intro w S
      refine dv_nx trivial ?_
      refine dv_fin ok3 ?_
      refine then_n ?_
      refine wp_ret ?_
      obtain rfl := sinj hm
      refine post_r _ F rfl (ar_cons (resT rfl) (ar_cons (resA rfl tu24 rfl (box_ptr (cells := [.i6 0, .i6 0]) 2 rfl 0 rfl (lb rfl) w S) ts24) ar_nil)) ?_
      replace S : St g6 [c7] fr w := St.tail [c7] _ (S.frontC 1 rfl)
      exact ⟨_, rfl, g6, v13, c7, ((l1.trans l4).trans l6), S, h13, rfl⟩

theorem changeforgelaw2_StackMatchesSpec_ok {g : Gh} {fr : Hl} {w : World} {r : Bool} (base : (List ByteArray)) (vbase1 : Value) (hbase1 : RepSl g base vbase1) (l_ : (List Patch)) (vl_1 : Value) (hl_1 : RepSl g l_ vl_1) (i_ : Int) (S : St g [] fr w) (hm : changeforgelaw2_StackMatchesSpec base l_ i_ = some r) :
  Calls Try.prog 8 [vbase1, vl_1, .i6 i_].toArray w (fun en w' => ∃ v, en = .returned v ∧ ∃ (g' : Gh), Le g g' ∧ St g' [] fr w' ∧ .bool r = v) := by
 unfold changeforgelaw2_StackMatchesSpec at hm
 refine calls_enter (fn := Try.f8) Try.func8 rfl Try.ntmps8 (lb rfl) ?_
 intro a F
 replace F : Fr 60 a [(0, vbase1), (1, vl_1), (2, .i6 i_)] := F
 refine wp_seq ?_
 refine wp_region_lit ?_
 refine wE (ev_assign rfl) F S rfl fun a F=>?_
 refine wpList_nil ?_
 refine then_n ?_
 refine wp_seq ?_
 refine wp_region_lit ?_
 refine wE (ev_move rfl) F S rfl fun a F=>?_
 refine wE (ev_move rfl) F S rfl fun a F=>?_
 obtain ⟨y1, hy1, hm⟩ := bind_some hm
 refine wl_call0 (wn rfl) rfl F rfl (stack_Apply_ok base vbase1 hbase1 l_ vl_1 hl_1 S hy1) rfl tc16 rfl rfl ?_; clear F a S
 rintro _ a w ⟨g1, v1, c1, l1, S, h1, rfl⟩ F; replace S : St g1 [c1] fr w := S
 refine wE (ev_move rfl) F S rfl fun a F=>?_
 refine wE (ev_extract rfl rfl) F S rfl fun a F=>?_
 refine wE (ev_extract rfl rfl) F S rfl fun a F=>?_
 refine wl_alloc (wn rfl) rfl tz24 (cs := [.i6 0, .i6 0]) rfl F S rfl rfl ?_; clear F a S; rintro b1 a w F S
 refine wE (ev_assign rfl) F S rfl fun a F=>?_
 refine wl_storeC (wn rfl) rfl F S rfl rfl (vs := [.i6 y1.2.Code, .i6 y1.2.Index]) rfl ts24 (one_cons rfl (one_cons rfl one_nil)) (k := 0) rfl (lb rfl) (c' := #[.i6 y1.2.Code, .i6 y1.2.Index]) rfl rfl ?_; clear S; intro w S
 refine wpList_nil ?_
 refine then_n ?_
 refine wp_seq ?_
 refine wp_region_lit ?_
 refine wE (ev_move rfl) F S rfl fun a F=>?_
 refine wE (ev_move rfl) F S rfl fun a F=>?_
 obtain ⟨y2, hy2, hm⟩ := bind_some hm
 refine wl_call0 (wn rfl) rfl F rfl (changeforgeref2_ApplyStack_ok (fr := (fl [[bx b1 #[.i6 y1.2.Code, .i6 y1.2.Index] 24], c1] fr)) base vbase1 (hbase1.mono l1) l_ vl_1 (hl_1.mono l1) S hy2) rfl tc20 rfl rfl ?_; clear F a S
 rintro _ a w ⟨g2, v2, l2, S, h2, rfl⟩ F; replace S : St g2 [[bx b1 #[.i6 y1.2.Code, .i6 y1.2.Index] 24], c1] fr w := S
 refine wE (ev_move rfl) F S rfl fun a F=>?_
 refine wE (ev_extract rfl rfl) F S rfl fun a F=>?_
 refine wE (ev_extract rfl rfl) F S rfl fun a F=>?_
 refine wl_alloc (wn rfl) rfl tz24 (cs := [.i6 0, .i6 0]) rfl F S rfl rfl ?_; clear F a S; rintro b2 a w F S
 refine wE (ev_assign rfl) F S rfl fun a F=>?_
 refine wl_storeC (wn rfl) rfl F S rfl rfl (vs := [.i6 y2.2.Code, .i6 y2.2.Index]) rfl ts24 (one_cons rfl (one_cons rfl one_nil)) (k := 0) rfl (lb rfl) (c' := #[.i6 y2.2.Code, .i6 y2.2.Index]) rfl rfl ?_; clear S; intro w S
 refine wpList_nil ?_
 refine then_n ?_
 refine wp_seq ?_
 refine wp_region_lit ?_
 refine wE (ev_move rfl) F S rfl fun a F=>?_
 refine wE (ev_move rfl) F S rfl fun a F=>?_
 obtain ⟨y3, hy3, hm⟩ := bind_some hm
 refine wl_call0 (wn rfl) rfl F rfl (stack_Squash_ok (fr := (fl [[bx b2 #[.i6 y2.2.Code, .i6 y2.2.Index] 24], [bx b1 #[.i6 y1.2.Code, .i6 y1.2.Index] 24], c1] fr)) l_ vl_1 (hl_1.mono (l1.trans l2)) i_ S hy3) rfl tc21 rfl rfl ?_; clear F a S
 rintro _ a w ⟨g3, v3, c2, l3, S, h3, rfl⟩ F; replace S : St g3 [c2, [bx b2 #[.i6 y2.2.Code, .i6 y2.2.Index] 24], [bx b1 #[.i6 y1.2.Code, .i6 y1.2.Index] 24], c1] fr w := S
 refine wE (ev_move rfl) F S rfl fun a F=>?_
 refine wE (ev_extract rfl rfl) F S rfl fun a F=>?_
 refine wE (ev_extract rfl rfl) F S rfl fun a F=>?_
 refine wl_alloc (wn rfl) rfl tz24 (cs := [.i6 0, .i6 0]) rfl F S rfl rfl ?_; clear F a S; rintro b3 a w F S
 refine wE (ev_assign rfl) F S rfl fun a F=>?_
 refine wl_storeC (wn rfl) rfl F S rfl rfl (vs := [.i6 y3.2.Code, .i6 y3.2.Index]) rfl ts24 (one_cons rfl (one_cons rfl one_nil)) (k := 0) rfl (lb rfl) (c' := #[.i6 y3.2.Code, .i6 y3.2.Index]) rfl rfl ?_; clear S; intro w S
 refine wpList_nil ?_
 refine then_n ?_
 refine wp_seq ?_
 refine wp_region_lit ?_
 refine wE (ev_move rfl) F S rfl fun a F=>?_
 refine wE (ev_move rfl) F S rfl fun a F=>?_
 obtain ⟨y4, hy4, hm⟩ := bind_some hm
 refine wl_call0 (wn rfl) rfl F rfl (changeforgeref2_SquashStack_ok (fr := (fl [[bx b3 #[.i6 y3.2.Code, .i6 y3.2.Index] 24], c2, [bx b2 #[.i6 y2.2.Code, .i6 y2.2.Index] 24], [bx b1 #[.i6 y1.2.Code, .i6 y1.2.Index] 24], c1] fr)) l_ vl_1 (hl_1.mono ((l1.trans l2).trans l3)) i_ S hy4) rfl tc22 rfl rfl ?_; clear F a S
 rintro _ a w ⟨g4, v4, c3, l4, S, h4, rfl⟩ F; replace S : St g4 [c3, [bx b3 #[.i6 y3.2.Code, .i6 y3.2.Index] 24], c2, [bx b2 #[.i6 y2.2.Code, .i6 y2.2.Index] 24], [bx b1 #[.i6 y1.2.Code, .i6 y1.2.Index] 24], c1] fr w := S
 refine wE (ev_move rfl) F S rfl fun a F=>?_
 refine wE (ev_extract rfl rfl) F S rfl fun a F=>?_
 refine wE (ev_extract rfl rfl) F S rfl fun a F=>?_
 refine wl_alloc (wn rfl) rfl tz24 (cs := [.i6 0, .i6 0]) rfl F S rfl rfl ?_; clear F a S; rintro b4 a w F S
 refine wE (ev_assign rfl) F S rfl fun a F=>?_
 refine wl_storeC (wn rfl) rfl F S rfl rfl (vs := [.i6 y4.2.Code, .i6 y4.2.Index]) rfl ts24 (one_cons rfl (one_cons rfl one_nil)) (k := 0) rfl (lb rfl) (c' := #[.i6 y4.2.Code, .i6 y4.2.Index]) rfl rfl ?_; clear S; intro w S
 refine wpList_nil ?_
 refine then_n ?_
 refine wp_seq ?_
 refine wp_region_lit ?_
 refine wE (ev_move rfl) F S rfl fun a F=>?_
 refine wE (ev_move rfl) F S rfl fun a F=>?_
 obtain ⟨g5, l5, S, h5⟩ : ∃ gz, Le g4 gz ∧ St gz [[bx b4 #[.i6 y4.2.Code, .i6 y4.2.Index] 24], c3, [bx b3 #[.i6 y3.2.Code, .i6 y3.2.Index] 24], c2, [bx b2 #[.i6 y2.2.Code, .i6 y2.2.Index] 24], [bx b1 #[.i6 y1.2.Code, .i6 y1.2.Index] 24]] fr w ∧ RepSl gz y1.1 v1 := ⟨_, Le.add _ _, S.freeze 6 rfl, OwnS.freeze (S.front 6 rfl) (h1.mono ((l2.trans l3).trans l4))⟩
 obtain ⟨y5, hy5, hm⟩ := bind_some hm
 refine wl_call0 (wn rfl) rfl F rfl (changeforgeequal_Strings_ok (fr := (fl [[bx b4 #[.i6 y4.2.Code, .i6 y4.2.Index] 24], c3, [bx b3 #[.i6 y3.2.Code, .i6 y3.2.Index] 24], c2, [bx b2 #[.i6 y2.2.Code, .i6 y2.2.Index] 24], [bx b1 #[.i6 y1.2.Code, .i6 y1.2.Index] 24]] fr)) y1.1 v1 h5 y2.1 v2 (h2.mono ((l3.trans l4).trans l5)) S hy5) rfl tc17 rfl rfl ?_; clear F a S
 rintro _ a w ⟨g6, l6, S, rfl⟩ F; replace S : St g6 [[bx b4 #[.i6 y4.2.Code, .i6 y4.2.Index] 24], c3, [bx b3 #[.i6 y3.2.Code, .i6 y3.2.Index] 24], c2, [bx b2 #[.i6 y2.2.Code, .i6 y2.2.Index] 24], [bx b1 #[.i6 y1.2.Code, .i6 y1.2.Index] 24]] fr w := S
 refine wE (ev_move rfl) F S rfl fun a F=>?_
 obtain ⟨x1, hx1, hm⟩ := bind_some hm
 refine wl_cut 4 (fun a w' => w = w' ∧ Fr 60 a [(46, .bool x1), (13, v4), (14, bp b4 0), (11, v3), (12, bp b3 0), (6, .bool false)]) ?_ ?_
 ·clear hm; obtain ⟨hc1, hm⟩ | ⟨hc1, hm⟩ := ite_or hx1
  ·refine wl_ev (wg F rfl rfl rfl rfl hc1) (ev_loadA tu24 rfl (cs := [.i6 y1.2.Code, .i6 y1.2.Index]) ts24 rfl (box_ptr (cells := [.i6 y1.2.Code, .i6 y1.2.Index]) 5 rfl 0 rfl (lb rfl))) F S rfl rfl ?_; clear F a; intro a F
   refine wl_ev (wg F rfl rfl rfl rfl hc1) (ev_loadA tu24 rfl (cs := [.i6 y2.2.Code, .i6 y2.2.Index]) ts24 rfl (box_ptr (cells := [.i6 y2.2.Code, .i6 y2.2.Index]) 4 rfl 0 rfl (lb rfl))) F S rfl rfl ?_; clear F a; intro a F
   refine wl_ev (wg F rfl rfl rfl rfl hc1) (ev_eqS tu24 tqa24 tqb24 tqc24 (xs := [.i6 y1.2.Code, .i6 y1.2.Index]) (ys := [.i6 y2.2.Code, .i6 y2.2.Index]) rfl rfl ⟨_, _, rfl, by decide, ⟨_, _, rfl, rfl, leaf_int tu3⟩, ⟨_, _, rfl, by decide, ⟨_, _, rfl, rfl, leaf_int tu3⟩, rfl⟩⟩) F S rfl rfl ?_; clear F a; intro a F
   refine wE (ev_pickT rfl hc1 rfl) F S rfl fun a F=>?_
   obtain rfl := sinj hm
   refine wpList_nil (then_n ?_); exact ⟨rfl, F.sub ⟨rfl, rfl, rfl, rfl, rfl, rfl, trivial⟩⟩
  ·refine wl_skip rfl rfl rfl rfl (ne_tf hc1) F rfl rfl ?_; clear F a; intro a F
   refine wl_skip rfl rfl rfl rfl (ne_tf hc1) F rfl rfl ?_; clear F a; intro a F
   refine wl_skip rfl rfl rfl rfl (ne_tf hc1) F rfl rfl ?_; clear F a; intro a F
   refine wE (ev_pickF rfl hc1 rfl) F S rfl fun a F=>?_
   obtain rfl := sinj hm
   refine wpList_nil (then_n ?_); exact ⟨rfl, F.sub ⟨rfl, rfl, rfl, rfl, rfl, rfl, trivial⟩⟩
 clear F; rintro a w' ⟨rfl, F⟩
 refine wE (ev_move rfl) F S rfl fun a F=>?_
 obtain ⟨g7, l7, S, h6⟩ : ∃ gz, Le g6 gz ∧ St gz [[bx b4 #[.i6 y4.2.Code, .i6 y4.2.Index] 24], [bx b3 #[.i6 y3.2.Code, .i6 y3.2.Index] 24], c2, [bx b2 #[.i6 y2.2.Code, .i6 y2.2.Index] 24], [bx b1 #[.i6 y1.2.Code, .i6 y1.2.Index] 24]] fr w ∧ RepSl gz y4.1 v4 := ⟨_, Le.add _ _, S.freeze 1 rfl, OwnS.freeze (S.front 1 rfl) (h4.mono (l5.trans l6))⟩
 obtain ⟨g8, l8, S, h7⟩ : ∃ gz, Le g7 gz ∧ St gz [[bx b4 #[.i6 y4.2.Code, .i6 y4.2.Index] 24], [bx b3 #[.i6 y3.2.Code, .i6 y3.2.Index] 24], [bx b2 #[.i6 y2.2.Code, .i6 y2.2.Index] 24], [bx b1 #[.i6 y1.2.Code, .i6 y1.2.Index] 24]] fr w ∧ RepSl gz y3.1 v3 := ⟨_, Le.add _ _, S.freeze 2 rfl, OwnS.freeze (S.front 2 rfl) (h3.mono (((l4.trans l5).trans l6).trans l7))⟩
 obtain ⟨x2, hx2, hm⟩ := bind_some hm
 refine wl_cut 4 (fun a w => ∃ g9, Fr 60 a [(51, .bool x2), (14, bp b4 0), (12, bp b3 0), (6, .bool false)] ∧ Le g8 g9 ∧ St g9 [[bx b4 #[.i6 y4.2.Code, .i6 y4.2.Index] 24], [bx b3 #[.i6 y3.2.Code, .i6 y3.2.Index] 24], [bx b2 #[.i6 y2.2.Code, .i6 y2.2.Index] 24], [bx b1 #[.i6 y1.2.Code, .i6 y1.2.Index] 24]] fr w) ?_ ?_
 ·clear hm; obtain ⟨hc2, hm⟩ | ⟨hc2, hm⟩ := ite_or hx2
  ·refine wl_ev (wg F rfl rfl rfl rfl hc2) (ev_move rfl) F S rfl rfl ?_; clear F a; intro a F
   refine wl_ev (wg F rfl rfl rfl rfl hc2) (ev_move rfl) F S rfl rfl ?_; clear F a; intro a F
   obtain ⟨y6, hy6, hm⟩ := bind_some hm
   refine wl_call0 (wg F rfl rfl rfl rfl hc2) rfl F rfl (changeforgeequal_Patches_ok (fr := (fl [[bx b4 #[.i6 y4.2.Code, .i6 y4.2.Index] 24], [bx b3 #[.i6 y3.2.Code, .i6 y3.2.Index] 24], [bx b2 #[.i6 y2.2.Code, .i6 y2.2.Index] 24], [bx b1 #[.i6 y1.2.Code, .i6 y1.2.Index] 24]] fr)) y3.1 v3 h7 y4.1 v4 (h6.mono l8) S hy6) rfl tc14 rfl rfl ?_; clear F a S
   rintro _ a w ⟨g10, l10, S, rfl⟩ F; replace S : St g10 [[bx b4 #[.i6 y4.2.Code, .i6 y4.2.Index] 24], [bx b3 #[.i6 y3.2.Code, .i6 y3.2.Index] 24], [bx b2 #[.i6 y2.2.Code, .i6 y2.2.Index] 24], [bx b1 #[.i6 y1.2.Code, .i6 y1.2.Index] 24]] fr w := S
   refine wE (ev_pickT rfl hc2 rfl) F S rfl fun a F=>?_
   obtain rfl := sinj hm
   refine wpList_nil (then_n ?_); exact ⟨g10, F.sub ⟨rfl, rfl, rfl, rfl, trivial⟩, l10, S⟩
  ·refine wl_skip rfl rfl rfl rfl (ne_tf hc2) F rfl rfl ?_; clear F a; intro a F
   refine wl_skip rfl rfl rfl rfl (ne_tf hc2) F rfl rfl ?_; clear F a; intro a F
   refine wl_skip rfl rfl rfl rfl (ne_tf hc2) F rfl rfl ?_; clear F a; intro a F
   refine wE (ev_pickF rfl hc2 rfl) F S rfl fun a F=>?_
   obtain rfl := sinj hm
   refine wpList_nil (then_n ?_); exact ⟨g8, F.sub ⟨rfl, rfl, rfl, rfl, trivial⟩, (Le.refl _), S⟩
 clear F S; rintro a w ⟨g9, F, l9, S⟩
 refine wE (ev_move rfl) F S rfl fun a F=>?_
 obtain ⟨x3, hx3, hm⟩ := bind_some hm
 refine wl_cut 4 (fun a w' => w = w' ∧ Fr 60 a [(56, .bool x3), (6, .bool false)]) ?_ ?_
 ·clear hm; obtain ⟨hc3, hm⟩ | ⟨hc3, hm⟩ := ite_or hx3
  ·refine wl_ev (wg F rfl rfl rfl rfl hc3) (ev_loadA tu24 rfl (cs := [.i6 y3.2.Code, .i6 y3.2.Index]) ts24 rfl (box_ptr (cells := [.i6 y3.2.Code, .i6 y3.2.Index]) 1 rfl 0 rfl (lb rfl))) F S rfl rfl ?_; clear F a; intro a F
   refine wl_ev (wg F rfl rfl rfl rfl hc3) (ev_loadA tu24 rfl (cs := [.i6 y4.2.Code, .i6 y4.2.Index]) ts24 rfl (box_ptr (cells := [.i6 y4.2.Code, .i6 y4.2.Index]) 0 rfl 0 rfl (lb rfl))) F S rfl rfl ?_; clear F a; intro a F
   refine wl_ev (wg F rfl rfl rfl rfl hc3) (ev_eqS tu24 tqa24 tqb24 tqc24 (xs := [.i6 y3.2.Code, .i6 y3.2.Index]) (ys := [.i6 y4.2.Code, .i6 y4.2.Index]) rfl rfl ⟨_, _, rfl, by decide, ⟨_, _, rfl, rfl, leaf_int tu3⟩, ⟨_, _, rfl, by decide, ⟨_, _, rfl, rfl, leaf_int tu3⟩, rfl⟩⟩) F S rfl rfl ?_; clear F a; intro a F
   refine wE (ev_pickT rfl hc3 rfl) F S rfl fun a F=>?_
   obtain rfl := sinj hm
   refine wpList_nil (then_n ?_); exact ⟨rfl, F.sub ⟨rfl, rfl, trivial⟩⟩
  ·refine wl_skip rfl rfl rfl rfl (ne_tf hc3) F rfl rfl ?_; clear F a; intro a F
   refine wl_skip rfl rfl rfl rfl (ne_tf hc3) F rfl rfl ?_; clear F a; intro a F
   refine wl_skip rfl rfl rfl rfl (ne_tf hc3) F rfl rfl ?_; clear F a; intro a F
   refine wE (ev_pickF rfl hc3 rfl) F S rfl fun a F=>?_
   obtain rfl := sinj hm
   refine wpList_nil (then_n ?_); exact ⟨rfl, F.sub ⟨rfl, rfl, trivial⟩⟩
 clear F; rintro a w' ⟨rfl, F⟩
 refine wE (ev_move rfl) F S rfl fun a F=>?_
 obtain ⟨x4, hx4, hm⟩ := bind_some hm
 refine wl_cut 2 (fun a w => ∃ g11, Fr 60 a [(59, .bool x4), (6, .bool false)] ∧ Le g9 g11 ∧ St g11 [[bx b4 #[.i6 y4.2.Code, .i6 y4.2.Index] 24], [bx b3 #[.i6 y3.2.Code, .i6 y3.2.Index] 24], [bx b2 #[.i6 y2.2.Code, .i6 y2.2.Index] 24], [bx b1 #[.i6 y1.2.Code, .i6 y1.2.Index] 24]] fr w) ?_ ?_
 ·clear hm; obtain ⟨hc4, hm⟩ | ⟨hc4, hm⟩ := ite_or hx4
  ·obtain ⟨y7, hy7, hm⟩ := bind_some hm
   refine wl_call0 (wg F rfl rfl rfl rfl hc4) rfl F rfl (changeforgelaw2_dropped_ok (fr := (fl [[bx b4 #[.i6 y4.2.Code, .i6 y4.2.Index] 24], [bx b3 #[.i6 y3.2.Code, .i6 y3.2.Index] 24], [bx b2 #[.i6 y2.2.Code, .i6 y2.2.Index] 24], [bx b1 #[.i6 y1.2.Code, .i6 y1.2.Index] 24]] fr))  S hy7) rfl tc15 rfl rfl ?_; clear F a S
   rintro _ a w ⟨g12, l12, S, rfl⟩ F; replace S : St g12 [[bx b4 #[.i6 y4.2.Code, .i6 y4.2.Index] 24], [bx b3 #[.i6 y3.2.Code, .i6 y3.2.Index] 24], [bx b2 #[.i6 y2.2.Code, .i6 y2.2.Index] 24], [bx b1 #[.i6 y1.2.Code, .i6 y1.2.Index] 24]] fr w := S
   refine wE (ev_pickT rfl hc4 rfl) F S rfl fun a F=>?_
   obtain rfl := sinj hm
   refine wpList_nil (then_n ?_); exact ⟨g12, F.sub ⟨rfl, rfl, trivial⟩, l12, S⟩
  ·refine wl_skip rfl rfl rfl rfl (ne_tf hc4) F rfl rfl ?_; clear F a; intro a F
   refine wE (ev_pickF rfl hc4 rfl) F S rfl fun a F=>?_
   obtain rfl := sinj hm
   refine wpList_nil (then_n ?_); exact ⟨g9, F.sub ⟨rfl, rfl, trivial⟩, (Le.refl _), S⟩
 clear F S; rintro a w ⟨g11, F, l11, S⟩
 refine wE (ev_assign rfl) F S rfl fun a F=>?_
 refine wpList_nil ?_
 refine then_n ?_
 refine wp_ret ?_
 obtain rfl := sinj hm
 refine post_r _ F rfl (ar_cons (resT rfl) ar_nil) ?_
 replace S : St g11 [] fr w := St.tail [] _ S
 exact ⟨_, rfl, g11, (((((((((l1.trans l2).trans l3).trans l4).trans l5).trans l6).trans l7).trans l8).trans l9).trans l11), S, rfl⟩
end Go.Dc
