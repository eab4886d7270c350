/- Walks: each function comes to what its model says. -/
import Derived.Test.YtgcjgmfdnhimmaaDcTab
import Derived.Test.YtgcjgmfdnhimmaaDcM
import Derived.Test.YtgcjgmfdnhimmaaDcW1
import Derived.Test.YtgcjgmfdnhimmaaDcW15
import Derived.Test.YtgcjgmfdnhimmaaDcW2
namespace Go.Dc
open Go Go.Proofs
set_option maxRecDepth 100000
set_option maxHeartbeats 4000000
set_option linter.unusedVariables false
theorem stack_Squash_ok {g : Gh} {fr : Hl} {w : World} {r : (List Patch) × Fault} (patches : (List Patch)) (vpatches1 : Value) (hpatches1 : RepSl g patches vpatches1) (i_ : Int) (S : St g [] fr w) (hm : stack_Squash patches i_ = some r) :
  Calls Try.prog 21 [vpatches1, .i6 i_].toArray w (fun en w' => ∃ v, en = .returned v ∧ ∃ (g' : Gh) (v1 : Value) (c1 : Hl), Le g g' ∧ St g' [c1] fr w' ∧ OwnS g' r.1 v1 c1 ∧ .tuple #[v1, .agg #[.i6 r.2.Code, .i6 r.2.Index]] = v) := by
 unfold stack_Squash at hm
 refine calls_enter (fn := Try.f21) Try.func21 rfl Try.ntmps21 (lb rfl) ?_
 intro a F
 replace F : Fr 60 a [(0, vpatches1), (1, .i6 i_)] := F
 refine wp_seq ?_
 refine wp_region_lit ?_
 refine wE (ev_assign rfl) F S rfl fun a F=>?_
 refine wl_alloc (wn rfl) rfl tz24 (cs := [.i6 0, .i6 0]) rfl F S rfl rfl ?_; clear F a S; rintro b1 a w F S
 refine wpList_nil ?_
 refine then_n ?_
 refine wp_seq ?_
 refine wp_seq ?_
 refine wp_region_lit ?_
 refine wE (ev_move rfl) F S rfl fun a F=>?_
 obtain ⟨y1, hy1, hm⟩ := bind_some hm
 refine wl_call0 (wn rfl) rfl F rfl (stack_check_ok (fr := (fl [[bx b1 #[.i6 0, .i6 0] 24]] fr)) patches vpatches1 hpatches1 S hy1) rfl tc23 rfl rfl ?_; clear F a S
 rintro _ a w ⟨g1, l1, S, rfl⟩ F; replace S : St g1 [[bx b1 #[.i6 0, .i6 0] 24]] fr w := S
 refine wl_alloc (wn rfl) rfl tz24 (cs := [.i6 0, .i6 0]) rfl F S rfl rfl ?_; clear F a S; rintro b2 a w F S
 refine wl_storeC (wn rfl) rfl F S rfl rfl (vs := [.i6 y1.Code, .i6 y1.Index]) rfl ts24 (one_cons rfl (one_cons rfl one_nil)) (k := 0) rfl (lb rfl) (c' := #[.i6 y1.Code, .i6 y1.Index]) rfl rfl ?_; clear S; intro w S
 refine wpList_nil ?_
 refine then_n ?_
 refine wp_seq ?_
 refine wp_region_lit ?_
 refine wE (ev_loadA tu24 rfl (cs := [.i6 y1.Code, .i6 y1.Index]) ts24 rfl (box_ptr (cells := [.i6 y1.Code, .i6 y1.Index]) 0 rfl 0 rfl (lb rfl))) F S rfl fun a F=>?_
 refine wE (ev_build (parts := []) (vs := []) rfl (fun w => tb24_  w)) F S rfl fun a F=>?_
 refine wE (ev_neS tu24 tqa24 tqb24 tqc24 (xs := [.i6 y1.Code, .i6 y1.Index]) (ys := [.i6 0, .i6 0]) rfl rfl ⟨_, _, rfl, by decide, ⟨_, _, rfl, rfl, leaf_int tu3⟩, ⟨_, _, rfl, by decide, ⟨_, _, rfl, rfl, leaf_int tu3⟩, rfl⟩⟩) F S rfl fun a F=>?_
 refine wpList_nil ?_
 refine then_n ?_
 obtain ⟨hc1, hm⟩ | ⟨hc1, hm⟩ := ite_or hm
 ·refine wp_condT F rfl hc1 ?_
  refine wp_seq ?_
  refine wp_dv [] mo S ?_; clear S; intro ok1 w S
  refine dv_ev ok1 0 rfl (ev_loadA tu24 rfl (cs := [.i6 y1.Code, .i6 y1.Index]) ts24 rfl (box_ptr (cells := [.i6 y1.Code, .i6 y1.Index]) 0 rfl 0 rfl (lb rfl))) F S rfl fun a F=>?_
  refine dv_et ok1 1 rfl (ev_assign rfl) F rfl fun a F=>?_
  refine dv_op ok1 2 rfl [] ?_
  refine wl_storeC (wn rfl) rfl F S rfl rfl (vs := [.i6 y1.Code, .i6 y1.Index]) rfl ts24 (one_cons rfl (one_cons rfl one_nil)) (k := 1) rfl (lb rfl) (c' := #[.i6 y1.Code, .i6 y1.Index]) rfl rfl ?_; clear S; intro w S
  refine dv_nx trivial ?_
  refine dv_fin ok1 ?_
  refine then_n ?_
  refine wp_ret ?_
  refine then_r ?_
  obtain rfl := sinj hm
  replace S : St g1 [[], [bx b2 #[.i6 y1.Code, .i6 y1.Index] 24], [bx b1 #[.i6 y1.Code, .i6 y1.Index] 24]] fr w := S
  refine post_r _ F rfl (ar_cons (resT rfl) (ar_cons (resA rfl tu24 rfl (box_ptr (cells := [.i6 y1.Code, .i6 y1.Index]) 2 rfl 0 rfl (lb rfl) w S) ts24) ar_nil)) ?_
  replace S : St g1 [[]] fr w := St.tail [[]] _ (S.frontC 0 rfl)
  exact ⟨_, rfl, g1, (nilS), [], l1, S, (OwnS.nil _), rfl⟩
 ·refine wp_condF F rfl hc1 ?_
  refine wp_skip ?_
  refine then_n ?_
  refine wp_seq ?_
  refine wp_seq ?_
  refine wp_region_lit ?_
  refine wE (ev_move rfl) F S rfl fun a F=>?_
  refine wE (ev_int rfl rfl (bo_lss _ _ _ _)) F S rfl fun a F=>?_
  refine wE (ev_move rfl) F S rfl fun a F=>?_
  obtain ⟨x1, hx1, hm⟩ := bind_some hm
  refine wl_cut 6 (fun a w' => w = w' ∧ Fr 60 a [(24, .bool x1), (5, bp b1 0), (0, vpatches1), (1, .i6 i_)]) ?_ ?_
  ·clear hm; obtain ⟨hc2, hm⟩ | ⟨hc2, hm⟩ := ite_or hx1
   ·refine wl_skip rfl rfl rfl rfl (ne_ft hc2) F rfl rfl ?_; clear F a; intro a F
    refine wl_skip rfl rfl rfl rfl (ne_ft hc2) F rfl rfl ?_; clear F a; intro a F
    refine wl_skip rfl rfl rfl rfl (ne_ft hc2) F rfl rfl ?_; clear F a; intro a F
    refine wl_skip rfl rfl rfl rfl (ne_ft hc2) F rfl rfl ?_; clear F a; intro a F
    refine wl_skip rfl rfl rfl rfl (ne_ft hc2) F rfl rfl ?_; clear F a; intro a F
    refine wE (ev_pickT rfl hc2 rfl) F S rfl fun a F=>?_
    obtain rfl := sinj hm
    refine wpList_nil (then_n ?_); exact ⟨rfl, F.sub ⟨rfl, rfl, rfl, rfl, trivial⟩⟩
   ·refine wl_ev (wg F rfl rfl rfl rfl hc2) (ev_move rfl) F S rfl rfl ?_; clear F a; intro a F
    refine wl_ev (wg F rfl rfl rfl rfl hc2) (ev_move rfl) F S rfl rfl ?_; clear F a; intro a F
    refine wl_ev (wg F rfl rfl rfl rfl hc2) (ev_lenSh hpatches1 rfl tu22) F S rfl rfl ?_; clear F a; intro a F
    obtain ⟨z1, hz1, hm⟩ := bind_some hm
    refine wl_ev (wg F rfl rfl rfl rfl hc2) (ev_int rfl rfl (bo_sub hz1)) F S rfl rfl ?_; clear F a; intro a F
    refine wl_ev (wg F rfl rfl rfl rfl hc2) (ev_int rfl rfl (bo_geq _ _ _ _)) F S rfl rfl ?_; clear F a; intro a F
    refine wE (ev_pickF rfl hc2 rfl) F S rfl fun a F=>?_
    obtain rfl := sinj hm
    refine wpList_nil (then_n ?_); exact ⟨rfl, F.sub ⟨rfl, rfl, rfl, rfl, trivial⟩⟩
  clear F; rintro a w' ⟨rfl, F⟩
  refine wpList_nil ?_
  refine then_n ?_
  obtain ⟨hc3, hm⟩ | ⟨hc3, hm⟩ := ite_or hm
  ·refine wp_condT F rfl hc3 ?_
   refine wp_seq ?_
   refine wp_region_lit ?_
   refine wE (ev_build (parts := [(0, .const (.i6 3)), (1, .const (.i6 (-2)))]) (vs := [(0, .i6 3), (1, .i6 (-2))]) rfl (fun w => tb24_0_1 3 (-2) w)) F S rfl fun a F=>?_
   refine wE (ev_assign rfl) F S rfl fun a F=>?_
   refine wl_storeC (wn rfl) rfl F S rfl rfl (vs := [.i6 3, .i6 (-2)]) rfl ts24 (one_cons rfl (one_cons rfl one_nil)) (k := 1) rfl (lb rfl) (c' := #[.i6 3, .i6 (-2)]) rfl rfl ?_; clear S; intro w S
   refine wpList_nil ?_
   refine then_n ?_
   refine wp_ret ?_
   refine then_r ?_
   obtain rfl := sinj hm
   replace S : St g1 [[], [bx b2 #[.i6 y1.Code, .i6 y1.Index] 24], [bx b1 #[.i6 3, .i6 (-2)] 24]] fr w := S
   refine post_r _ F rfl (ar_cons (resT rfl) (ar_cons (resA rfl tu24 rfl (box_ptr (cells := [.i6 3, .i6 (-2)]) 2 rfl 0 rfl (lb rfl) w S) ts24) ar_nil)) ?_
   replace S : St g1 [[]] fr w := St.tail [[]] _ (S.frontC 0 rfl)
   exact ⟨_, rfl, g1, (nilS), [], l1, S, (OwnS.nil _), rfl⟩
  ·refine wp_condF F rfl hc3 ?_
   refine wp_skip ?_
   refine then_n ?_
   refine wp_seq ?_
   refine wp_dv [] mo S ?_; clear S; intro ok2 w S
   refine dv_et ok2 0 rfl (ev_move rfl) F rfl fun a F=>?_
   refine dv_et ok2 1 rfl (ev_move rfl) F rfl fun a F=>?_
   obtain ⟨y2, hy2, hm⟩ := bind_some hm
   obtain ⟨cs1, hr1, hp1⟩ := elemS (hpatches1.mono l1) hy2
   obtain ⟨v1, rfl, h1⟩ := rep_Patch hr1
   refine dv_et ok2 2 rfl (ev_idxS (hpatches1.mono l1) hy2 tu22 ts38 rfl rfl) F rfl fun a F=>?_
   refine dv_ev ok2 3 rfl (ev_loadA tu38 rfl (cs := [v1]) ts38 rfl (ptr_mono (cks := [[bx b2 #[.i6 y1.Code, .i6 y1.Index] 24], [bx b1 #[.i6 0, .i6 0] 24]]) (fr := fr) hp1 (Le.refl _))) F S rfl fun a F=>?_
   refine dv_et ok2 4 rfl (ev_move rfl) F rfl fun a F=>?_
   refine dv_et ok2 5 rfl (ev_move rfl) F rfl fun a F=>?_
   obtain ⟨z2, hz2, hm⟩ := bind_some hm
   refine dv_et ok2 6 rfl (ev_int rfl rfl (bo_add hz2)) F rfl fun a F=>?_
   obtain ⟨y3, hy3, hm⟩ := bind_some hm
   obtain ⟨cs2, hr2, hp2⟩ := elemS (hpatches1.mono l1) hy3
   obtain ⟨v2, rfl, h2⟩ := rep_Patch hr2
   refine dv_et ok2 7 rfl (ev_idxS (hpatches1.mono l1) hy3 tu22 ts38 rfl rfl) F rfl fun a F=>?_
   refine dv_ev ok2 8 rfl (ev_loadA tu38 rfl (cs := [v2]) ts38 rfl (ptr_mono (cks := [[bx b2 #[.i6 y1.Code, .i6 y1.Index] 24], [bx b1 #[.i6 0, .i6 0] 24]]) (fr := fr) hp2 (Le.refl _))) F S rfl fun a F=>?_
   obtain ⟨y4, hy4, hm⟩ := bind_some hm
   refine dv_cut [0, 1, 2, 3, 4, 5, 6, 7, 8, 9, 10, 11, 12, 13, 14] (fun a w => ∃ (v4 : Value) (b5 b6 : Nat) (g3 : Gh), Fr 60 a [(8, bp b5 0), (7, bp b6 0), (38, .agg #[.i6 y4.2.Code, .i6 y4.2.Index]), (37, .agg #[v4]), (5, bp b1 0), (0, vpatches1), (1, .i6 i_)] ∧ Le g1 g3 ∧ St g3 [[bx b5 #[.i6 0, .i6 0] 24], [bx b6 #[nilS] 38], [bx b1 #[.i6 0, .i6 0] 24]] fr w ∧ RepSl g3 y4.1.Hunks v4 ∧ stack_Squash.j1 patches i_ y4 = some r) ?_ ?_
   ·intro HJ
    refine dv_fork ok2 9 [13, 14] (fk 9 rfl [] ?_ (fk 13 rfl [(8, .agg #[v2]), (3, .agg #[v1])] ?_ (fk 14 rfl [(8, .agg #[v2]), (3, .agg #[v1])] ?_ trivial)))
    ·refine wl_call0 (wn rfl) rfl F rfl (textpatch_Compose_ok (fr := (fl [[bx b2 #[.i6 y1.Code, .i6 y1.Index] 24], [bx b1 #[.i6 0, .i6 0] 24]] fr)) y2 v1 h1 y3 v2 h2 S hy4) rfl tc42 rfl rfl ?_; clear F a S
     rintro _ a w ⟨g2, v3, l2, S, h3, rfl⟩ F; replace S : St g2 [[bx b2 #[.i6 y1.Code, .i6 y1.Index] 24], [bx b1 #[.i6 0, .i6 0] 24]] fr w := S
     refine dv_nx trivial ?_
     refine dv_et ok2 10 rfl (ev_move rfl) F rfl fun a F=>?_
     refine dv_et ok2 11 rfl (ev_extract rfl rfl) F rfl fun a F=>?_
     refine dv_et ok2 12 rfl (ev_extract rfl rfl) F rfl fun a F=>?_
     refine dv_fork ok2 13 [14] (fk 13 rfl [] ?_ (fk 14 rfl [] ?_ trivial))
     ·refine wl_alloc (wn rfl) rfl tz38 (cs := [nilS]) rfl F S rfl rfl ?_; clear F a S; rintro b3 a w F S
      refine dv_nx trivial ?_
      refine dv_op ok2 14 rfl [] ?_
      refine wl_alloc (wn rfl) rfl tz24 (cs := [.i6 0, .i6 0]) rfl F S rfl rfl ?_; clear F a S; rintro b4 a w F S
      refine dv_nx trivial ?_
      refine dv_join (HJ _ _ ?_)
      replace S : St g2 [[bx b4 #[.i6 0, .i6 0] 24], [bx b3 #[nilS] 38], [bx b1 #[.i6 0, .i6 0] 24]] fr w := St.tail [[bx b4 #[.i6 0, .i6 0] 24], [bx b3 #[nilS] 38], [bx b1 #[.i6 0, .i6 0] 24]] _ (((S.frontC 3 rfl).frontC 2 rfl).frontC 2 rfl)
      exact ⟨v3, b4, b3, g2, F.sub ⟨rfl, rfl, rfl, rfl, rfl, rfl, rfl, trivial⟩, l2, S, h3, hm⟩
     ·refine wl_alloc (wn rfl) rfl tz24 (cs := [.i6 0, .i6 0]) rfl F S rfl rfl ?_; clear F a S; rintro b4 a w F S
      refine dv_nx trivial ?_
      refine dv_op ok2 13 rfl [] ?_
      refine wl_alloc (wn rfl) rfl tz38 (cs := [nilS]) rfl F S rfl rfl ?_; clear F a S; rintro b3 a w F S
      refine dv_nx trivial ?_
      refine dv_join (HJ _ _ ?_)
      replace S : St g2 [[bx b4 #[.i6 0, .i6 0] 24], [bx b3 #[nilS] 38], [bx b1 #[.i6 0, .i6 0] 24]] fr w := St.tail [[bx b4 #[.i6 0, .i6 0] 24], [bx b3 #[nilS] 38], [bx b1 #[.i6 0, .i6 0] 24]] _ (((S.frontC 3 rfl).frontC 1 rfl).frontC 3 rfl)
      exact ⟨v3, b4, b3, g2, F.sub ⟨rfl, rfl, rfl, rfl, rfl, rfl, rfl, trivial⟩, l2, S, h3, hm⟩
    ·refine wl_alloc (wn rfl) rfl tz38 (cs := [nilS]) rfl F S rfl rfl ?_; clear F a S; rintro b3 a w F S
     refine dv_nx ⟨yl_ev rfl rfl (ev_loadA tu38 rfl (cs := [v2]) ts38 rfl (ptr_mono (cks := [[bx b3 #[nilS] 38], [bx b2 #[.i6 y1.Code, .i6 y1.Index] 24], [bx b1 #[.i6 0, .i6 0] 24]]) (fr := fr) hp2 (Le.refl _))) F S, yl_ev rfl rfl (ev_loadA tu38 rfl (cs := [v1]) ts38 rfl (ptr_mono (cks := [[bx b3 #[nilS] 38], [bx b2 #[.i6 y1.Code, .i6 y1.Index] 24], [bx b1 #[.i6 0, .i6 0] 24]]) (fr := fr) hp1 (Le.refl _))) F S, trivial⟩ ?_
     refine dv_fork ok2 9 [14] (fk 9 rfl [] ?_ (fk 14 rfl [(8, .agg #[v2]), (3, .agg #[v1])] ?_ trivial))
     ·refine wl_call0 (wn rfl) rfl F rfl (textpatch_Compose_ok (fr := (fl [[bx b3 #[nilS] 38], [bx b2 #[.i6 y1.Code, .i6 y1.Index] 24], [bx b1 #[.i6 0, .i6 0] 24]] fr)) y2 v1 h1 y3 v2 h2 S hy4) rfl tc42 rfl rfl ?_; clear F a S
      rintro _ a w ⟨g2, v3, l2, S, h3, rfl⟩ F; replace S : St g2 [[bx b3 #[nilS] 38], [bx b2 #[.i6 y1.Code, .i6 y1.Index] 24], [bx b1 #[.i6 0, .i6 0] 24]] fr w := S
      refine dv_nx trivial ?_
      refine dv_et ok2 10 rfl (ev_move rfl) F rfl fun a F=>?_
      refine dv_et ok2 11 rfl (ev_extract rfl rfl) F rfl fun a F=>?_
      refine dv_et ok2 12 rfl (ev_extract rfl rfl) F rfl fun a F=>?_
      refine dv_op ok2 14 rfl [] ?_
      refine wl_alloc (wn rfl) rfl tz24 (cs := [.i6 0, .i6 0]) rfl F S rfl rfl ?_; clear F a S; rintro b4 a w F S
      refine dv_nx trivial ?_
      refine dv_join (HJ _ _ ?_)
      replace S : St g2 [[bx b4 #[.i6 0, .i6 0] 24], [bx b3 #[nilS] 38], [bx b1 #[.i6 0, .i6 0] 24]] fr w := St.tail [[bx b4 #[.i6 0, .i6 0] 24], [bx b3 #[nilS] 38], [bx b1 #[.i6 0, .i6 0] 24]] _ (((S.frontC 3 rfl).frontC 2 rfl).frontC 2 rfl)
      exact ⟨v3, b4, b3, g2, F.sub ⟨rfl, rfl, rfl, rfl, rfl, rfl, rfl, trivial⟩, l2, S, h3, hm⟩
     ·refine wl_alloc (wn rfl) rfl tz24 (cs := [.i6 0, .i6 0]) rfl F S rfl rfl ?_; clear F a S; rintro b4 a w F S
      refine dv_nx ⟨yl_ev rfl rfl (ev_loadA tu38 rfl (cs := [v2]) ts38 rfl (ptr_mono (cks := [[bx b4 #[.i6 0, .i6 0] 24], [bx b3 #[nilS] 38], [bx b2 #[.i6 y1.Code, .i6 y1.Index] 24], [bx b1 #[.i6 0, .i6 0] 24]]) (fr := fr) hp2 (Le.refl _))) F S, yl_ev rfl rfl (ev_loadA tu38 rfl (cs := [v1]) ts38 rfl (ptr_mono (cks := [[bx b4 #[.i6 0, .i6 0] 24], [bx b3 #[nilS] 38], [bx b2 #[.i6 y1.Code, .i6 y1.Index] 24], [bx b1 #[.i6 0, .i6 0] 24]]) (fr := fr) hp1 (Le.refl _))) F S, trivial⟩ ?_
      refine dv_op ok2 9 rfl [] ?_
      refine wl_call0 (wn rfl) rfl F rfl (textpatch_Compose_ok (fr := (fl [[bx b4 #[.i6 0, .i6 0] 24], [bx b3 #[nilS] 38], [bx b2 #[.i6 y1.Code, .i6 y1.Index] 24], [bx b1 #[.i6 0, .i6 0] 24]] fr)) y2 v1 h1 y3 v2 h2 S hy4) rfl tc42 rfl rfl ?_; clear F a S
      rintro _ a w ⟨g2, v3, l2, S, h3, rfl⟩ F; replace S : St g2 [[bx b4 #[.i6 0, .i6 0] 24], [bx b3 #[nilS] 38], [bx b2 #[.i6 y1.Code, .i6 y1.Index] 24], [bx b1 #[.i6 0, .i6 0] 24]] fr w := S
      refine dv_nx trivial ?_
      refine dv_et ok2 10 rfl (ev_move rfl) F rfl fun a F=>?_
      refine dv_et ok2 11 rfl (ev_extract rfl rfl) F rfl fun a F=>?_
      refine dv_et ok2 12 rfl (ev_extract rfl rfl) F rfl fun a F=>?_
      refine dv_join (HJ _ _ ?_)
      replace S : St g2 [[bx b4 #[.i6 0, .i6 0] 24], [bx b3 #[nilS] 38], [bx b1 #[.i6 0, .i6 0] 24]] fr w := St.tail [[bx b4 #[.i6 0, .i6 0] 24], [bx b3 #[nilS] 38], [bx b1 #[.i6 0, .i6 0] 24]] _ (((S.frontC 3 rfl).frontC 2 rfl).frontC 2 rfl)
      exact ⟨v3, b4, b3, g2, F.sub ⟨rfl, rfl, rfl, rfl, rfl, rfl, rfl, trivial⟩, l2, S, h3, hm⟩
    ·refine wl_alloc (wn rfl) rfl tz24 (cs := [.i6 0, .i6 0]) rfl F S rfl rfl ?_; clear F a S; rintro b4 a w F S
     refine dv_nx ⟨yl_ev rfl rfl (ev_loadA tu38 rfl (cs := [v2]) ts38 rfl (ptr_mono (cks := [[bx b4 #[.i6 0, .i6 0] 24], [bx b2 #[.i6 y1.Code, .i6 y1.Index] 24], [bx b1 #[.i6 0, .i6 0] 24]]) (fr := fr) hp2 (Le.refl _))) F S, yl_ev rfl rfl (ev_loadA tu38 rfl (cs := [v1]) ts38 rfl (ptr_mono (cks := [[bx b4 #[.i6 0, .i6 0] 24], [bx b2 #[.i6 y1.Code, .i6 y1.Index] 24], [bx b1 #[.i6 0, .i6 0] 24]]) (fr := fr) hp1 (Le.refl _))) F S, trivial⟩ ?_
     refine dv_fork ok2 9 [13] (fk 9 rfl [] ?_ (fk 13 rfl [(8, .agg #[v2]), (3, .agg #[v1])] ?_ trivial))
     ·refine wl_call0 (wn rfl) rfl F rfl (textpatch_Compose_ok (fr := (fl [[bx b4 #[.i6 0, .i6 0] 24], [bx b2 #[.i6 y1.Code, .i6 y1.Index] 24], [bx b1 #[.i6 0, .i6 0] 24]] fr)) y2 v1 h1 y3 v2 h2 S hy4) rfl tc42 rfl rfl ?_; clear F a S
      rintro _ a w ⟨g2, v3, l2, S, h3, rfl⟩ F; replace S : St g2 [[bx b4 #[.i6 0, .i6 0] 24], [bx b2 #[.i6 y1.Code, .i6 y1.Index] 24], [bx b1 #[.i6 0, .i6 0] 24]] fr w := S
      refine dv_nx trivial ?_
      refine dv_et ok2 10 rfl (ev_move rfl) F rfl fun a F=>?_
      refine dv_et ok2 11 rfl (ev_extract rfl rfl) F rfl fun a F=>?_
      refine dv_et ok2 12 rfl (ev_extract rfl rfl) F rfl fun a F=>?_
      refine dv_op ok2 13 rfl [] ?_
      refine wl_alloc (wn rfl) rfl tz38 (cs := [nilS]) rfl F S rfl rfl ?_; clear F a S; rintro b3 a w F S
      refine dv_nx trivial ?_
      refine dv_join (HJ _ _ ?_)
      replace S : St g2 [[bx b4 #[.i6 0, .i6 0] 24], [bx b3 #[nilS] 38], [bx b1 #[.i6 0, .i6 0] 24]] fr w := St.tail [[bx b4 #[.i6 0, .i6 0] 24], [bx b3 #[nilS] 38], [bx b1 #[.i6 0, .i6 0] 24]] _ (((S.frontC 3 rfl).frontC 1 rfl).frontC 3 rfl)
      exact ⟨v3, b4, b3, g2, F.sub ⟨rfl, rfl, rfl, rfl, rfl, rfl, rfl, trivial⟩, l2, S, h3, hm⟩
     ·refine wl_alloc (wn rfl) rfl tz38 (cs := [nilS]) rfl F S rfl rfl ?_; clear F a S; rintro b3 a w F S
      refine dv_nx ⟨yl_ev rfl rfl (ev_loadA tu38 rfl (cs := [v2]) ts38 rfl (ptr_mono (cks := [[bx b3 #[nilS] 38], [bx b4 #[.i6 0, .i6 0] 24], [bx b2 #[.i6 y1.Code, .i6 y1.Index] 24], [bx b1 #[.i6 0, .i6 0] 24]]) (fr := fr) hp2 (Le.refl _))) F S, yl_ev rfl rfl (ev_loadA tu38 rfl (cs := [v1]) ts38 rfl (ptr_mono (cks := [[bx b3 #[nilS] 38], [bx b4 #[.i6 0, .i6 0] 24], [bx b2 #[.i6 y1.Code, .i6 y1.Index] 24], [bx b1 #[.i6 0, .i6 0] 24]]) (fr := fr) hp1 (Le.refl _))) F S, trivial⟩ ?_
      refine dv_op ok2 9 rfl [] ?_
      refine wl_call0 (wn rfl) rfl F rfl (textpatch_Compose_ok (fr := (fl [[bx b3 #[nilS] 38], [bx b4 #[.i6 0, .i6 0] 24], [bx b2 #[.i6 y1.Code, .i6 y1.Index] 24], [bx b1 #[.i6 0, .i6 0] 24]] fr)) y2 v1 h1 y3 v2 h2 S hy4) rfl tc42 rfl rfl ?_; clear F a S
      rintro _ a w ⟨g2, v3, l2, S, h3, rfl⟩ F; replace S : St g2 [[bx b3 #[nilS] 38], [bx b4 #[.i6 0, .i6 0] 24], [bx b2 #[.i6 y1.Code, .i6 y1.Index] 24], [bx b1 #[.i6 0, .i6 0] 24]] fr w := S
      refine dv_nx trivial ?_
      refine dv_et ok2 10 rfl (ev_move rfl) F rfl fun a F=>?_
      refine dv_et ok2 11 rfl (ev_extract rfl rfl) F rfl fun a F=>?_
      refine dv_et ok2 12 rfl (ev_extract rfl rfl) F rfl fun a F=>?_
      refine dv_join (HJ _ _ ?_)
      replace S : St g2 [[bx b4 #[.i6 0, .i6 0] 24], [bx b3 #[nilS] 38], [bx b1 #[.i6 0, .i6 0] 24]] fr w := St.tail [[bx b4 #[.i6 0, .i6 0] 24], [bx b3 #[nilS] 38], [bx b1 #[.i6 0, .i6 0] 24]] _ (((S.frontC 3 rfl).frontC 1 rfl).frontC 3 rfl)
      exact ⟨v3, b4, b3, g2, F.sub ⟨rfl, rfl, rfl, rfl, rfl, rfl, rfl, trivial⟩, l2, S, h3, hm⟩
   ·clear F S hm; rintro a w ⟨v4, b5, b6, g3, F, l3, S, h4, hm⟩
    refine dv_op ok2 15 rfl [] ?_
    refine wl_storeC (wn rfl) rfl F S rfl rfl (vs := [v4]) rfl ts38 (one_cons h4.one one_nil) (k := 1) rfl (lb rfl) (c' := #[v4]) rfl rfl ?_; clear S; intro w S
    refine dv_nx trivial ?_
    refine dv_op ok2 16 rfl [] ?_
    refine wl_storeC (wn rfl) rfl F S rfl rfl (vs := [.i6 y4.2.Code, .i6 y4.2.Index]) rfl ts24 (one_cons rfl (one_cons rfl one_nil)) (k := 0) rfl (lb rfl) (c' := #[.i6 y4.2.Code, .i6 y4.2.Index]) rfl rfl ?_; clear S; intro w S
    refine dv_nx trivial ?_
    refine dv_fin ok2 ?_
    refine then_n ?_
    refine wp_seq ?_
    refine wp_seq ?_
    refine wp_region_lit ?_
    refine wE (ev_loadA tu24 rfl (cs := [.i6 y4.2.Code, .i6 y4.2.Index]) ts24 rfl (box_ptr (cells := [.i6 y4.2.Code, .i6 y4.2.Index]) 0 rfl 0 rfl (lb rfl))) F S rfl fun a F=>?_
    refine wE (ev_build (parts := []) (vs := []) rfl (fun w => tb24_  w)) F S rfl fun a F=>?_
    refine wE (ev_neS tu24 tqa24 tqb24 tqc24 (xs := [.i6 y4.2.Code, .i6 y4.2.Index]) (ys := [.i6 0, .i6 0]) rfl rfl ⟨_, _, rfl, by decide, ⟨_, _, rfl, rfl, leaf_int tu3⟩, ⟨_, _, rfl, by decide, ⟨_, _, rfl, rfl, leaf_int tu3⟩, rfl⟩⟩) F S rfl fun a F=>?_
    refine wpList_nil ?_
    refine then_n ?_
    obtain ⟨hc4, hm⟩ | ⟨hc4, hm⟩ := ite_or hm
    ·refine wp_condT F rfl hc4 ?_
     refine wp_seq ?_
     refine wp_dv [] mo S ?_; clear S; intro ok3 w S
     refine dv_et ok3 0 rfl (ev_fieldAddr' tu24 tf24_0 (z := 0) ts3 rfl ⟨_, rfl⟩ rfl) F rfl fun a F=>?_
     refine dv_ev ok3 1 rfl (ev_load1 tu3 rfl rfl (box_ptr (cells := [.i6 y4.2.Code]) 0 rfl 0 rfl (lb rfl))) F S rfl fun a F=>?_
     refine dv_et ok3 2 rfl (ev_build (parts := [(0, .tmp 43), (1, .const (.i6 (-3)))]) (vs := [(0, .i6 y4.2.Code), (1, .i6 (-3))]) rfl (fun w => tb24_0_1 y4.2.Code (-3) w)) F rfl fun a F=>?_
     refine dv_et ok3 3 rfl (ev_assign rfl) F rfl fun a F=>?_
     refine dv_op ok3 4 rfl [] ?_
     refine wl_storeC (wn rfl) rfl F S rfl rfl (vs := [.i6 y4.2.Code, .i6 (-3)]) rfl ts24 (one_cons rfl (one_cons rfl one_nil)) (k := 2) rfl (lb rfl) (c' := #[.i6 y4.2.Code, .i6 (-3)]) rfl rfl ?_; clear S; intro w S
     refine dv_nx trivial ?_
     refine dv_fin ok3 ?_
     refine then_n ?_
     refine wp_ret ?_
     refine then_r ?_
     obtain rfl := sinj hm
     replace S : St g3 [[], [bx b5 #[.i6 y4.2.Code, .i6 y4.2.Index] 24], [bx b6 #[v4] 38], [bx b1 #[.i6 y4.2.Code, .i6 (-3)] 24]] fr w := S
     refine post_r _ F rfl (ar_cons (resT rfl) (ar_cons (resA rfl tu24 rfl (box_ptr (cells := [.i6 y4.2.Code, .i6 (-3)]) 3 rfl 0 rfl (lb rfl) w S) ts24) ar_nil)) ?_
     replace S : St g3 [[]] fr w := St.tail [[]] _ (S.frontC 0 rfl)
     exact ⟨_, rfl, g3, (nilS), [], (l1.trans l3), S, (OwnS.nil _), rfl⟩
    ·refine wp_condF F rfl hc4 ?_
     refine wp_skip ?_
     refine then_n ?_
     refine wp_seq ?_
     refine wp_dv [] mo S ?_; clear S; intro ok4 w S
     refine dv_et ok4 0 rfl (ev_move rfl) F rfl fun a F=>?_
     refine dv_et ok4 1 rfl (ev_move rfl) F rfl fun a F=>?_
     obtain ⟨y5, hy5, hm⟩ := bind_some hm
     obtain ⟨v5, h5, he1⟩ := ev_cut (P := Try.prog) (n := 60) (e := [(46, .i6 i_), (45, vpatches1), (41, .bool (!(decide (y4.2.Code = 0) && decide (y4.2.Index = 0)))), (40, .agg #[.i6 0, .i6 0]), (39, .agg #[.i6 y4.2.Code, .i6 y4.2.Index]), (8, bp b5 0), (7, bp b6 0), (38, .agg #[.i6 y4.2.Code, .i6 y4.2.Index]), (37, .agg #[v4]), (5, bp b1 0), (0, vpatches1), (1, .i6 i_)]) (C := fun _ => True) (x := .tmp 45) (lo := Option.none) (hi := some (.tmp 46)) (hpatches1.mono (l1.trans l3)) hy5 tu22 ts38 rfl (bnd0 _) (bndV rfl)
     refine dv_et ok4 2 rfl he1 F rfl fun a F=>?_
     refine dv_ev ok4 4 rfl (ev_loadA tu38 rfl (cs := [v4]) ts38 rfl (box_ptr (cells := [v4]) 1 rfl 0 rfl (lb rfl))) F S rfl fun a F=>?_
     obtain ⟨y6, hy6, hm⟩ := bind_some hm
     refine dv_cut [0, 1, 2, 4, 3, 5] (fun a w => ∃ (x3 : List Patch) (v8 v9 : Value) (c3 c4 : Hl) (g5 : Gh), Fr 60 a [(50, v8), (48, v9), (5, bp b1 0), (0, vpatches1), (1, .i6 i_)] ∧ Le g3 g5 ∧ St g5 [c3, c4, [bx b1 #[.i6 0, .i6 0] 24]] fr w ∧ OwnS g5 x3 v8 c3 ∧ OwnS g5 y6 v9 c4 ∧ stack_Squash.j2 patches i_ y6 x3 = some r) ?_ ?_
     ·intro HJ
      refine dv_fork ok4 3 [5] (fk 3 rfl [(4, .agg #[v4])] ?_ (fk 5 rfl [] ?_ trivial))
      ·refine wl_call0 (wn rfl) rfl F rfl (stack_clone_ok (fr := (fl [[bx b5 #[.i6 y4.2.Code, .i6 y4.2.Index] 24], [bx b6 #[v4] 38], [bx b1 #[.i6 0, .i6 0] 24]] fr)) y5 v5 h5 S hy6) rfl tc43 rfl rfl ?_; clear F a S
       rintro _ a w ⟨g4, v6, c1, l4, S, h6, rfl⟩ F; replace S : St g4 [c1, [bx b5 #[.i6 y4.2.Code, .i6 y4.2.Index] 24], [bx b6 #[v4] 38], [bx b1 #[.i6 0, .i6 0] 24]] fr w := S
       refine dv_nx ⟨yl_ev rfl rfl (ev_loadA tu38 rfl (cs := [v4]) ts38 rfl (box_ptr (cells := [v4]) 2 rfl 0 rfl (lb rfl))) F S, trivial⟩ ?_
       refine dv_op ok4 5 rfl [] ?_
       refine wl_lit (l := ([y4.1] : List Patch)) (vs := [.agg #[v4]]) (parts := [(0, .tmp 49)]) (wn rfl) rfl rfl rfl tu22 te38 (sz_cons rfl sz_nil) rfl (Cat.cons (rep_Patch_mk (x := y4.1) (h4.mono l4)) (Cat.nil _)) (coa_cons rfl coa_nil) rfl F S rfl rfl ?_; clear F a S
       rintro v7 c2 a w h7 F S
       refine dv_nx trivial ?_
       refine dv_join (HJ _ _ ?_)
       replace S : St g4 [c2, c1, [bx b1 #[.i6 0, .i6 0] 24]] fr w := St.tail [c2, c1, [bx b1 #[.i6 0, .i6 0] 24]] _ (((S.frontC 4 rfl).frontC 2 rfl).frontC 2 rfl)
       exact ⟨([y4.1] : List Patch), v7, v6, c2, c1, g4, F.sub ⟨rfl, rfl, rfl, rfl, rfl, trivial⟩, l4, S, h7, h6, hm⟩
      ·refine wl_lit (l := ([y4.1] : List Patch)) (vs := [.agg #[v4]]) (parts := [(0, .tmp 49)]) (wn rfl) rfl rfl rfl tu22 te38 (sz_cons rfl sz_nil) rfl (Cat.cons (rep_Patch_mk (x := y4.1) h4) (Cat.nil _)) (coa_cons rfl coa_nil) rfl F S rfl rfl ?_; clear F a S
       rintro v7 c2 a w h7 F S
       refine dv_nx trivial ?_
       refine dv_op ok4 3 rfl [] ?_
       refine wl_call0 (wn rfl) rfl F rfl (stack_clone_ok (fr := (fl [c2, [bx b5 #[.i6 y4.2.Code, .i6 y4.2.Index] 24], [bx b6 #[v4] 38], [bx b1 #[.i6 0, .i6 0] 24]] fr)) y5 v5 h5 S hy6) rfl tc43 rfl rfl ?_; clear F a S
       rintro _ a w ⟨g4, v6, c1, l4, S, h6, rfl⟩ F; replace S : St g4 [c1, c2, [bx b5 #[.i6 y4.2.Code, .i6 y4.2.Index] 24], [bx b6 #[v4] 38], [bx b1 #[.i6 0, .i6 0] 24]] fr w := S
       refine dv_nx trivial ?_
       refine dv_join (HJ _ _ ?_)
       replace S : St g4 [c2, c1, [bx b1 #[.i6 0, .i6 0] 24]] fr w := St.tail [c2, c1, [bx b1 #[.i6 0, .i6 0] 24]] _ (((S.frontC 4 rfl).frontC 1 rfl).frontC 3 rfl)
       exact ⟨([y4.1] : List Patch), v7, v6, c2, c1, g4, F.sub ⟨rfl, rfl, rfl, rfl, rfl, trivial⟩, l4, S, (h7.mono l4), h6, hm⟩
     ·clear F S hm; rintro a w ⟨x3, v8, v9, c3, c4, g5, F, l5, S, h8, h9, hm⟩
      refine dv_op ok4 6 rfl [] ?_
      obtain ⟨cs3, hk1, hr3⟩ := OwnS.reads h8
      obtain ⟨y7, hy7, hm⟩ := bind_some hm
      refine wl_append (wn rfl) rfl tu22 tu22 te38 (by decide) (by decide) F S rfl rfl (k := 1) rfl h9 hk1 rfl (hr3 _ _ _ 0 rfl S) hy7 rfl rfl ?_; clear F a S
      rintro v10 c5 a w h10 S F; replace S : St g5 [c3, c5, [bx b1 #[.i6 0, .i6 0] 24]] fr w := S
      refine dv_nx trivial ?_
      refine dv_et ok4 7 rfl (ev_assign rfl) F rfl fun a F=>?_
      refine dv_fin ok4 ?_
      refine then_n ?_
      refine wp_seq ?_
      refine wp_region_lit ?_
      refine wE (ev_move rfl) F S rfl fun a F=>?_
      refine wE (ev_move rfl) F S rfl fun a F=>?_
      refine wE (ev_move rfl) F S rfl fun a F=>?_
      obtain ⟨z3, hz3, hm⟩ := bind_some hm
      refine wE (ev_int rfl rfl (bo_add hz3)) F S rfl fun a F=>?_
      obtain ⟨y8, hy8, hm⟩ := bind_some hm
      refine wl_cutS (wn rfl) rfl (hpatches1.mono ((l1.trans l3).trans l5)) hy8 tu22 ts38 rfl (bndV rfl) (bnd0 _) F rfl rfl ?_; clear F a; rintro v11 h11 a F
      obtain ⟨y9, hy9, hm⟩ := bind_some hm
      refine wl_call0 (wn rfl) rfl F rfl (stack_clone_ok (fr := (fl [c3, c5, [bx b1 #[.i6 0, .i6 0] 24]] fr)) y8 v11 h11 S hy9) rfl tc43 rfl rfl ?_; clear F a S
      rintro _ a w ⟨g6, v12, c6, l6, S, h12, rfl⟩ F; replace S : St g6 [c6, c3, c5, [bx b1 #[.i6 0, .i6 0] 24]] fr w := S
      obtain ⟨cs4, hk2, hr4⟩ := OwnS.reads h12
      obtain ⟨y10, hy10, hm⟩ := bind_some hm
      refine wl_append (wn rfl) rfl tu22 tu22 te38 (by decide) (by decide) F S rfl rfl (k := 2) rfl (h10.mono l6) hk2 rfl (hr4 _ _ _ 0 rfl S) hy10 rfl rfl ?_; clear F a S
      rintro v13 c7 a w h13 S F; replace S : St g6 [c6, c3, c7, [bx b1 #[.i6 0, .i6 0] 24]] fr w := S
      refine wE (ev_build (parts := []) (vs := []) rfl (fun w => tb24_  w)) F S rfl fun a F=>?_
      refine wE (ev_assign rfl) F S rfl fun a F=>?_
      refine wl_storeC (wn rfl) rfl F S rfl rfl (vs := [.i6 0, .i6 0]) rfl ts24 (one_cons rfl (one_cons rfl one_nil)) (k := 3) rfl (lb rfl) (c' := #[.i6 0, .i6 0]) rfl rfl ?_; clear S; intro w S
      refine wpList_nil ?_
      refine then_n ?_
      refine wp_ret ?_
      obtain rfl := sinj hm
      refine post_r _ F rfl (ar_cons (resT rfl) (ar_cons (resA rfl tu24 rfl (box_ptr (cells := [.i6 0, .i6 0]) 3 rfl 0 rfl (lb rfl) w S) ts24) ar_nil)) ?_
      replace S : St g6 [c7] fr w := St.tail [c7] _ (S.frontC 2 rfl)
      exact ⟨_, rfl, g6, v13, c7, (((l1.trans l3).trans l5).trans l6), S, h13, rfl⟩
end Go.Dc
