/- Walks: each function comes to what its model says. -/
import Derived.Test.YtladljignaanfaaDcTab
import Derived.Test.YtladljignaanfaaDcM
namespace Go.Dc
open Go Go.Proofs
set_option maxRecDepth 100000
set_option maxHeartbeats 4000000
set_option linter.unusedVariables false
theorem multivalue_inRange_ok {g : Gh} {fr : Hl} {w : World} {r : Bool} (n_ : Int) (S : St g [] fr w) (hm : multivalue_inRange n_ = some r) :
  Calls Try.prog 18 [.i6 n_].toArray w (fun en w' => ∃ v, en = .returned v ∧ ∃ (g' : Gh), Le g g' ∧ St g' [] fr w' ∧ .bool r = v) := by
 unfold multivalue_inRange at hm
 refine calls_enter (fn := Try.f18) Try.func18 rfl Try.ntmps18 (lb rfl) ?_
 intro a F
 replace F : Fr 9 a [(0, .i6 n_)] := F
 refine wp_seq ?_
 refine wp_region_lit ?_
 refine wE (ev_assign rfl) F S rfl fun a F=>?_
 refine wpList_nil ?_
 refine then_n ?_
 refine wp_seq ?_
 refine wp_region_lit ?_
 refine wE (ev_move rfl) F S rfl fun a F=>?_
 refine wE (ev_int rfl rfl (bo_geq _ _ _ _)) F S rfl fun a F=>?_
 refine wE (ev_move rfl) F S rfl fun a F=>?_
 obtain ⟨x1, hx1, hm⟩ := bind_some hm
 refine wl_cut 3 (fun a w' => w = w' ∧ Fr 9 a [(8, .bool x1), (2, .bool false)]) ?_ ?_
 ·clear hm; obtain ⟨hc1, hm⟩ | ⟨hc1, hm⟩ := ite_or hx1
  ·refine wl_ev (wg F rfl rfl rfl rfl hc1) (ev_move rfl) F S rfl rfl ?_; clear F a; intro a F
   refine wl_ev (wg F rfl rfl rfl rfl hc1) (ev_int rfl rfl (bo_leq _ _ _ _)) F S rfl rfl ?_; clear F a; intro a F
   refine wE (ev_pickT rfl hc1 rfl) F S rfl fun a F=>?_
   obtain rfl := sinj hm
   refine wpList_nil (then_n ?_); exact ⟨rfl, F.sub ⟨rfl, rfl, trivial⟩⟩
  ·refine wl_skip rfl rfl rfl rfl (ne_tf hc1) F rfl rfl ?_; clear F a; intro a F
   refine wl_skip rfl rfl rfl rfl (ne_tf hc1) F rfl rfl ?_; clear F a; intro a F
   refine wE (ev_pickF rfl hc1 rfl) F S rfl fun a F=>?_
   obtain rfl := sinj hm
   refine wpList_nil (then_n ?_); exact ⟨rfl, F.sub ⟨rfl, rfl, trivial⟩⟩
 clear F; rintro a w' ⟨rfl, F⟩
 refine wE (ev_assign rfl) F S rfl fun a F=>?_
 refine wpList_nil ?_
 refine then_n ?_
 refine wp_ret ?_
 obtain rfl := sinj hm
 refine post_r _ F rfl (ar_cons (resT rfl) ar_nil) ?_
 exact ⟨_, rfl, g, (Le.refl _), S, rfl⟩

theorem cmp_isNaN_ok {g : Gh} {fr : Hl} {w : World} {r : Bool} (x_ : Int) (S : St g [] fr w) (hm : cmp_isNaN x_ = some r) :
  Calls Try.prog 52 [.i6 x_].toArray w (fun en w' => ∃ v, en = .returned v ∧ ∃ (g' : Gh), Le g g' ∧ St g' [] fr w' ∧ .bool r = v) := by
 unfold cmp_isNaN at hm
 refine calls_enter (fn := Try.f52) Try.func52 rfl Try.ntmps52 (lb rfl) ?_
 intro a F
 replace F : Fr 6 a [(0, .i6 x_)] := F
 refine wp_seq ?_
 refine wp_region_lit ?_
 refine wE (ev_assign rfl) F S rfl fun a F=>?_
 refine wpList_nil ?_
 refine then_n ?_
 refine wp_seq ?_
 refine wp_region_lit ?_
 refine wE (ev_move rfl) F S rfl fun a F=>?_
 refine wE (ev_move rfl) F S rfl fun a F=>?_
 refine wE (ev_int rfl rfl (bo_neq _ _ _ _)) F S rfl fun a F=>?_
 refine wE (ev_assign rfl) F S rfl fun a F=>?_
 refine wpList_nil ?_
 refine then_n ?_
 refine wp_ret ?_
 obtain rfl := sinj hm
 refine post_r _ F rfl (ar_cons (resT rfl) ar_nil) ?_
 exact ⟨_, rfl, g, (Le.refl _), S, rfl⟩

theorem cmp_Compare_ok {g : Gh} {fr : Hl} {w : World} {r : Int} (x_ : Int) (y : Int) (S : St g [] fr w) (hm : cmp_Compare x_ y = some r) :
  Calls Try.prog 36 [.i6 x_, .i6 y].toArray w (fun en w' => ∃ v, en = .returned v ∧ ∃ (g' : Gh), Le g g' ∧ St g' [] fr w' ∧ .i6 r = v) := by
 unfold cmp_Compare at hm
 refine calls_enter (fn := Try.f36) Try.func36 rfl Try.ntmps36 (lb rfl) ?_
 intro a F
 replace F : Fr 20 a [(0, .i6 x_), (1, .i6 y)] := F
 refine wp_seq ?_
 refine wp_region_lit ?_
 refine wE (ev_assign rfl) F S rfl fun a F=>?_
 refine wpList_nil ?_
 refine then_n ?_
 refine wp_seq ?_
 refine wp_region_lit ?_
 refine wE (ev_move rfl) F S rfl fun a F=>?_
 obtain ⟨y1, hy1, hm⟩ := bind_some hm
 refine wl_call0 (wn rfl) rfl F rfl (cmp_isNaN_ok x_ S hy1) rfl tc52 rfl rfl ?_; clear F a S
 rintro _ a w ⟨g1, l1, S, rfl⟩ F; replace S : St g1 [] fr w := S
 refine wE (ev_assign rfl) F S rfl fun a F=>?_
 refine wpList_nil ?_
 refine then_n ?_
 refine wp_seq ?_
 refine wp_region_lit ?_
 refine wE (ev_move rfl) F S rfl fun a F=>?_
 obtain ⟨y2, hy2, hm⟩ := bind_some hm
 refine wl_call0 (wn rfl) rfl F rfl (cmp_isNaN_ok y S hy2) rfl tc52 rfl rfl ?_; clear F a S
 rintro _ a w ⟨g2, l2, S, rfl⟩ F; replace S : St g2 [] fr w := S
 refine wE (ev_assign rfl) F S rfl fun a F=>?_
 refine wpList_nil ?_
 refine then_n ?_
 refine wp_seq ?_
 refine wp_seq ?_
 refine wp_region_lit ?_
 refine wE (ev_move rfl) F S rfl fun a F=>?_
 refine wpList_nil ?_
 refine then_n ?_
 obtain ⟨hc1, hm⟩ | ⟨hc1, hm⟩ := ite_or hm
 ·refine wp_condT F rfl hc1 ?_
  refine wp_seq ?_
  refine wp_seq ?_
  refine wp_region_lit ?_
  refine wE (ev_move rfl) F S rfl fun a F=>?_
  refine wpList_nil ?_
  refine then_n ?_
  obtain ⟨hc2, hm⟩ | ⟨hc2, hm⟩ := ite_or hm
  ·refine wp_condT F rfl hc2 ?_
   refine wp_seq ?_
   refine wp_region_lit ?_
   refine wE (ev_assign rfl) F S rfl fun a F=>?_
   refine wpList_nil ?_
   refine then_n ?_
   refine wp_ret ?_
   refine then_r ?_
   refine then_r ?_
   obtain rfl := sinj hm
   refine post_r _ F rfl (ar_cons (resT rfl) ar_nil) ?_
   exact ⟨_, rfl, g2, (l1.trans l2), S, rfl⟩
  ·refine wp_condF F rfl hc2 ?_
   refine wp_skip ?_
   refine then_n ?_
   refine wp_seq ?_
   refine wp_region_lit ?_
   refine wE (ev_assign rfl) F S rfl fun a F=>?_
   refine wpList_nil ?_
   refine then_n ?_
   refine wp_ret ?_
   refine then_r ?_
   obtain rfl := sinj hm
   refine post_r _ F rfl (ar_cons (resT rfl) ar_nil) ?_
   exact ⟨_, rfl, g2, (l1.trans l2), S, rfl⟩
 ·refine wp_condF F rfl hc1 ?_
  refine wp_skip ?_
  refine then_n ?_
  refine wp_seq ?_
  refine wp_seq ?_
  refine wp_region_lit ?_
  refine wE (ev_move rfl) F S rfl fun a F=>?_
  refine wpList_nil ?_
  refine then_n ?_
  obtain ⟨hc3, hm⟩ | ⟨hc3, hm⟩ := ite_or hm
  ·refine wp_condT F rfl hc3 ?_
   refine wp_seq ?_
   refine wp_region_lit ?_
   refine wE (ev_assign rfl) F S rfl fun a F=>?_
   refine wpList_nil ?_
   refine then_n ?_
   refine wp_ret ?_
   refine then_r ?_
   obtain rfl := sinj hm
   refine post_r _ F rfl (ar_cons (resT rfl) ar_nil) ?_
   exact ⟨_, rfl, g2, (l1.trans l2), S, rfl⟩
  ·refine wp_condF F rfl hc3 ?_
   refine wp_skip ?_
   refine then_n ?_
   refine wp_seq ?_
   refine wp_seq ?_
   refine wp_region_lit ?_
   refine wE (ev_move rfl) F S rfl fun a F=>?_
   refine wE (ev_move rfl) F S rfl fun a F=>?_
   refine wE (ev_int rfl rfl (bo_lss _ _ _ _)) F S rfl fun a F=>?_
   refine wpList_nil ?_
   refine then_n ?_
   obtain ⟨hc4, hm⟩ | ⟨hc4, hm⟩ := ite_or hm
   ·refine wp_condT F rfl hc4 ?_
    refine wp_seq ?_
    refine wp_region_lit ?_
    refine wE (ev_assign rfl) F S rfl fun a F=>?_
    refine wpList_nil ?_
    refine then_n ?_
    refine wp_ret ?_
    refine then_r ?_
    obtain rfl := sinj hm
    refine post_r _ F rfl (ar_cons (resT rfl) ar_nil) ?_
    exact ⟨_, rfl, g2, (l1.trans l2), S, rfl⟩
   ·refine wp_condF F rfl hc4 ?_
    refine wp_skip ?_
    refine then_n ?_
    refine wp_seq ?_
    refine wp_seq ?_
    refine wp_region_lit ?_
    refine wE (ev_move rfl) F S rfl fun a F=>?_
    refine wE (ev_move rfl) F S rfl fun a F=>?_
    refine wE (ev_int rfl rfl (bo_gtr _ _ _ _)) F S rfl fun a F=>?_
    refine wpList_nil ?_
    refine then_n ?_
    obtain ⟨hc5, hm⟩ | ⟨hc5, hm⟩ := ite_or hm
    ·refine wp_condT F rfl hc5 ?_
     refine wp_seq ?_
     refine wp_region_lit ?_
     refine wE (ev_assign rfl) F S rfl fun a F=>?_
     refine wpList_nil ?_
     refine then_n ?_
     refine wp_ret ?_
     refine then_r ?_
     obtain rfl := sinj hm
     refine post_r _ F rfl (ar_cons (resT rfl) ar_nil) ?_
     exact ⟨_, rfl, g2, (l1.trans l2), S, rfl⟩
    ·refine wp_condF F rfl hc5 ?_
     refine wp_skip ?_
     refine then_n ?_
     refine wp_seq ?_
     refine wp_region_lit ?_
     refine wE (ev_assign rfl) F S rfl fun a F=>?_
     refine wpList_nil ?_
     refine then_n ?_
     refine wp_ret ?_
     obtain rfl := sinj hm
     refine post_r _ F rfl (ar_cons (resT rfl) ar_nil) ?_
     exact ⟨_, rfl, g2, (l1.trans l2), S, rfl⟩

theorem slices_Compare_ok {g : Gh} {fr : Hl} {w : World} {r : Int} (s1_ : (List Int)) (vs1_1 : Value) (hs1_1 : RepSl g s1_ vs1_1) (s2_ : (List Int)) (vs2_1 : Value) (hs2_1 : RepSl g s2_ vs2_1) (S : St g [] fr w) (hm : slices_Compare s1_ s2_ = some r) :
  Calls Try.prog 24 [vs1_1, vs2_1].toArray w (fun en w' => ∃ v, en = .returned v ∧ ∃ (g' : Gh), Le g g' ∧ St g' [] fr w' ∧ .i6 r = v) := by
 unfold slices_Compare at hm
 refine calls_enter (fn := Try.f24) Try.func24 rfl Try.ntmps24 (lb rfl) ?_
 intro a F
 replace F : Fr 36 a [(0, vs1_1), (1, vs2_1)] := F
 refine wp_seq ?_
 refine wp_region_lit ?_
 refine wE (ev_assign rfl) F S rfl fun a F=>?_
 refine wpList_nil ?_
 refine then_n ?_
 refine wp_cut (fun a w => ∃ (g1 : Gh), Fr 36 a [(0, vs1_1), (1, vs2_1)] ∧ Le g g1 ∧ St g1 [] fr w ∧ slices_Compare.j1 s1_ s2_ = some r) ?_ ?_
 ·refine wp_seq ?_
  refine wp_region_lit ?_
  refine wE (ev_move rfl) F S rfl fun a F=>?_
  refine wE (ev_lenSh hs1_1 rfl tu33) F S rfl fun a F=>?_
  refine wE (ev_move rfl) F S rfl fun a F=>?_
  refine wpList_nil ?_
  refine then_n ?_
  refine wp_block ?_
  obtain ⟨r1, hr1, hm⟩ := bind_some hm
  have hmo1 := hm; clear hm
  refine wp_iter (σ := Int) (ρ := Int ⊕ Unit) (m := fun s => slices_Compare.l1 s1_ s2_ s) (I := fun x1 a w => ∃ (g2 : Gh), Fr 36 a [(11, .i6 x1), (10, .i6 (s1_.length : Int)), (9, vs1_1), (0, vs1_1), (1, vs2_1)] ∧ Le g g2 ∧ St g2 [] fr w) hr1 ?_ ?_
  ·exact ⟨g, F.sub ⟨rfl, rfl, rfl, rfl, rfl, trivial⟩, (Le.refl _), S⟩
  ·clear F S; rintro x1 a w x2 ⟨g2, F, l2, S⟩ hx1 hfin1
   have hm : slices_Compare.l1 s1_ s2_ x1 = some x2 := hx1; clear hx1
   unfold slices_Compare.l1 at hm
   refine wp_seq ?_
   refine wp_region_lit ?_
   refine wE (ev_int rfl rfl (bo_lss _ _ _ _)) F S rfl fun a F=>?_
   refine wpList_nil ?_
   refine then_n ?_
   refine wp_seq ?_
   obtain ⟨hc2, hm⟩ | ⟨hc2, hm⟩ := ite_or hm
   ·refine wp_condT F rfl hc2 ?_
    refine wp_skip ?_
    refine then_n ?_
    refine wp_seq ?_
    refine wp_block ?_
    refine wp_seq ?_
    refine wp_region_lit ?_
    refine wE (ev_move rfl) F S rfl fun a F=>?_
    obtain ⟨y1, hy1, hm⟩ := bind_some hm
    obtain ⟨cs1, hr2, hp1⟩ := elemS (hs1_1.mono l2) hy1
    obtain rfl := rep_int hr2
    refine wE (ev_idxS (hs1_1.mono l2) hy1 tu33 ts3 rfl rfl) F S rfl fun a F=>?_
    refine wE (ev_load1 tu3 rfl rfl (ptr_mono (cks := []) (fr := fr) hp1 (Le.refl _))) F S rfl fun a F=>?_
    refine wE (ev_assign rfl) F S rfl fun a F=>?_
    refine wE (ev_assign rfl) F S rfl fun a F=>?_
    refine wpList_nil ?_
    refine then_n ?_
    refine wp_seq ?_
    refine wp_seq ?_
    refine wp_region_lit ?_
    refine wE (ev_move rfl) F S rfl fun a F=>?_
    refine wE (ev_move rfl) F S rfl fun a F=>?_
    refine wE (ev_lenSh hs2_1 rfl tu33) F S rfl fun a F=>?_
    refine wE (ev_int rfl rfl (bo_geq _ _ _ _)) F S rfl fun a F=>?_
    refine wpList_nil ?_
    refine then_n ?_
    obtain ⟨hc3, hm⟩ | ⟨hc3, hm⟩ := ite_or hm
    ·refine wp_condT F rfl hc3 ?_
     refine wp_seq ?_
     refine wp_region_lit ?_
     refine wE (ev_assign rfl) F S rfl fun a F=>?_
     refine wpList_nil ?_
     refine then_n ?_
     refine wp_ret ?_
     refine then_r ?_
     refine inb_r ?_
     refine then_r ?_
     refine then_r ?_
     refine inb_r ?_
     refine then_r ?_
     obtain rfl := sinj hm
     obtain rfl := hfin1 _ rfl
     clear hm
     have hm : (some 1 : Option Int) = some _ := hmo1
     obtain rfl := sinj hm
     refine post_r _ F rfl (ar_cons (resT rfl) ar_nil) ?_
     exact ⟨_, rfl, g2, l2, S, rfl⟩
    ·refine wp_condF F rfl hc3 ?_
     refine wp_skip ?_
     refine then_n ?_
     refine wp_seq ?_
     refine wp_region_lit ?_
     refine wE (ev_move rfl) F S rfl fun a F=>?_
     refine wE (ev_move rfl) F S rfl fun a F=>?_
     obtain ⟨y2, hy2, hm⟩ := bind_some hm
     obtain ⟨cs2, hr3, hp2⟩ := elemS (hs2_1.mono l2) hy2
     obtain rfl := rep_int hr3
     refine wE (ev_idxS (hs2_1.mono l2) hy2 tu33 ts3 rfl rfl) F S rfl fun a F=>?_
     refine wE (ev_load1 tu3 rfl rfl (ptr_mono (cks := []) (fr := fr) hp2 (Le.refl _))) F S rfl fun a F=>?_
     refine wE (ev_assign rfl) F S rfl fun a F=>?_
     refine wpList_nil ?_
     refine then_n ?_
     refine wp_seq ?_
     refine wp_region_lit ?_
     refine wE (ev_move rfl) F S rfl fun a F=>?_
     refine wE (ev_move rfl) F S rfl fun a F=>?_
     obtain ⟨y3, hy3, hm⟩ := bind_some hm
     refine wl_call0 (wn rfl) rfl F rfl (cmp_Compare_ok y1 y2 S hy3) rfl tc36 rfl rfl ?_; clear F a S
     rintro _ a w ⟨g3, l3, S, rfl⟩ F; replace S : St g3 [] fr w := S
     refine wE (ev_assign rfl) F S rfl fun a F=>?_
     refine wpList_nil ?_
     refine then_n ?_
     refine wp_seq ?_
     refine wp_region_lit ?_
     refine wE (ev_move rfl) F S rfl fun a F=>?_
     refine wE (ev_int rfl rfl (bo_neq _ _ _ _)) F S rfl fun a F=>?_
     refine wpList_nil ?_
     refine then_n ?_
     obtain ⟨hc4, hm⟩ | ⟨hc4, hm⟩ := ite_or hm
     ·refine wp_condT F rfl hc4 ?_
      refine wp_seq ?_
      refine wp_region_lit ?_
      refine wE (ev_move rfl) F S rfl fun a F=>?_
      refine wE (ev_assign rfl) F S rfl fun a F=>?_
      refine wpList_nil ?_
      refine then_n ?_
      refine wp_ret ?_
      refine inb_r ?_
      refine then_r ?_
      refine then_r ?_
      refine inb_r ?_
      refine then_r ?_
      obtain rfl := sinj hm
      obtain rfl := hfin1 _ rfl
      clear hm
      have hm : (some y3 : Option Int) = some _ := hmo1
      obtain rfl := sinj hm
      refine post_r _ F rfl (ar_cons (resT rfl) ar_nil) ?_
      exact ⟨_, rfl, g3, (l2.trans l3), S, rfl⟩
     ·refine wp_condF F rfl hc4 ?_
      refine wp_skip ?_
      refine inb_n ?_
      refine then_n ?_
      refine wp_region_lit ?_
      obtain ⟨z1, hz1, hm⟩ := bind_some hm
      refine wE (ev_int rfl rfl (bo_add hz1)) F S rfl fun a F=>?_
      refine wE (ev_move rfl) F S rfl fun a F=>?_
      refine wpList_nil ?_
      refine then_n ?_
      obtain rfl := sinj hm
      refine ⟨_, rfl, ?_⟩
      exact ⟨g3, F.sub ⟨rfl, rfl, rfl, rfl, rfl, trivial⟩, (l2.trans l3), S⟩
   ·refine wp_condF F rfl hc2 ?_
    refine wp_exit ?_
    refine then_e ?_
    refine then_e ?_
    refine inb_x ?_
    refine then_n ?_
    obtain rfl := sinj hm
    obtain rfl := hfin1 _ rfl
    clear hm
    have hm : (slices_Compare.j1 s1_ s2_ : Option Int) = some _ := hmo1
    exact ⟨g2, F.sub ⟨rfl, rfl, trivial⟩, l2, S, hm⟩
 ·clear F S hm; rintro a w ⟨g1, F, l1, S, hm⟩
  refine wp_seq ?_
  refine wp_seq ?_
  refine wp_region_lit ?_
  refine wE (ev_move rfl) F S rfl fun a F=>?_
  refine wE (ev_lenSh hs1_1 rfl tu33) F S rfl fun a F=>?_
  refine wE (ev_move rfl) F S rfl fun a F=>?_
  refine wE (ev_lenSh hs2_1 rfl tu33) F S rfl fun a F=>?_
  refine wE (ev_int rfl rfl (bo_lss _ _ _ _)) F S rfl fun a F=>?_
  refine wpList_nil ?_
  refine then_n ?_
  obtain ⟨hc1, hm⟩ | ⟨hc1, hm⟩ := ite_or hm
  ·refine wp_condT F rfl hc1 ?_
   refine wp_seq ?_
   refine wp_region_lit ?_
   refine wE (ev_assign rfl) F S rfl fun a F=>?_
   refine wpList_nil ?_
   refine then_n ?_
   refine wp_ret ?_
   refine then_r ?_
   obtain rfl := sinj hm
   refine post_r _ F rfl (ar_cons (resT rfl) ar_nil) ?_
   exact ⟨_, rfl, g1, l1, S, rfl⟩
  ·refine wp_condF F rfl hc1 ?_
   refine wp_skip ?_
   refine then_n ?_
   refine wp_seq ?_
   refine wp_region_lit ?_
   refine wE (ev_assign rfl) F S rfl fun a F=>?_
   refine wpList_nil ?_
   refine then_n ?_
   refine wp_ret ?_
   obtain rfl := sinj hm
   refine post_r _ F rfl (ar_cons (resT rfl) ar_nil) ?_
   exact ⟨_, rfl, g1, l1, S, rfl⟩

theorem multivalue_check_s1_ok {g : Gh} {fr : Hl} {w : World} {r : Bool} (n_ : Int) (S : St g [] fr w) (hm : multivalue_check_s1 n_ = some r) :
  Calls Try.prog 38 [.i6 n_].toArray w (fun en w' => ∃ v, en = .returned v ∧ ∃ (g' : Gh), Le g g' ∧ St g' [] fr w' ∧ .bool r = v) := by
 unfold multivalue_check_s1 at hm
 refine calls_enter (fn := Try.f38) Try.func38 rfl Try.ntmps38 (lb rfl) ?_
 intro a F
 replace F : Fr 6 a [(0, .i6 n_)] := F
 refine wp_seq ?_
 refine wp_region_lit ?_
 refine wE (ev_assign rfl) F S rfl fun a F=>?_
 refine wpList_nil ?_
 refine then_n ?_
 refine wp_seq ?_
 refine wp_region_lit ?_
 refine wE (ev_move rfl) F S rfl fun a F=>?_
 obtain ⟨y1, hy1, hm⟩ := bind_some hm
 refine wl_call0 (wn rfl) rfl F rfl (multivalue_inRange_ok n_ S hy1) rfl tc18 rfl rfl ?_; clear F a S
 rintro _ a w ⟨g1, l1, S, rfl⟩ F; replace S : St g1 [] fr w := S
 refine wE (ev_not rfl) F S rfl fun a F=>?_
 refine wE (ev_assign rfl) F S rfl fun a F=>?_
 refine wpList_nil ?_
 refine then_n ?_
 refine wp_ret ?_
 obtain rfl := sinj hm
 refine post_r _ F rfl (ar_cons (resT rfl) ar_nil) ?_
 exact ⟨_, rfl, g1, l1, S, rfl⟩

theorem slices_Max_ok {g : Gh} {fr : Hl} {w : World} {r : Int} (x_ : (List Int)) (vx_1 : Value) (hx_1 : RepSl g x_ vx_1) (S : St g [] fr w) (hm : slices_Max x_ = some r) :
  Calls Try.prog 39 [vx_1].toArray w (fun en w' => ∃ v, en = .returned v ∧ ∃ (g' : Gh), Le g g' ∧ St g' [] fr w' ∧ .i6 r = v) := by
 unfold slices_Max at hm
 refine calls_enter (fn := Try.f39) Try.func39 rfl Try.ntmps39 (lb rfl) ?_
 intro a F
 replace F : Fr 25 a [(0, vx_1)] := F
 refine wp_seq ?_
 refine wp_region_lit ?_
 refine wE (ev_assign rfl) F S rfl fun a F=>?_
 refine wpList_nil ?_
 refine then_n ?_
 refine wp_cut (fun a w => ∃ (g1 : Gh), Fr 25 a [(0, vx_1)] ∧ Le g g1 ∧ St g1 [] fr w ∧ slices_Max.j1 x_ = some r) ?_ ?_
 ·refine wp_seq ?_
  refine wp_region_lit ?_
  refine wE (ev_move rfl) F S rfl fun a F=>?_
  refine wE (ev_lenSh hx_1 rfl tu33) F S rfl fun a F=>?_
  refine wE (ev_int rfl rfl (bo_lss _ _ _ _)) F S rfl fun a F=>?_
  refine wpList_nil ?_
  refine then_n ?_
  obtain ⟨hc2, hm⟩ | ⟨hc2, hm⟩ := ite_or hm
  ·refine wp_condT F rfl hc2 ?_
   cases hm
  ·refine wp_condF F rfl hc2 ?_
   refine wp_skip ?_
   refine then_n ?_
   exact ⟨g, F.sub ⟨rfl, trivial⟩, (Le.refl _), S, hm⟩
 ·clear F S hm; rintro a w ⟨g1, F, l1, S, hm⟩
  refine wp_seq ?_
  refine wp_region_lit ?_
  refine wE (ev_move rfl) F S rfl fun a F=>?_
  obtain ⟨y1, hy1, hm⟩ := bind_some hm
  obtain ⟨cs1, hr1, hp1⟩ := elemS (hx_1.mono l1) hy1
  obtain rfl := rep_int hr1
  refine wE (ev_idxS (hx_1.mono l1) hy1 tu33 ts3 rfl rfl) F S rfl fun a F=>?_
  refine wE (ev_load1 tu3 rfl rfl (ptr_mono (cks := []) (fr := fr) hp1 (Le.refl _))) F S rfl fun a F=>?_
  refine wE (ev_assign rfl) F S rfl fun a F=>?_
  refine wpList_nil ?_
  refine then_n ?_
  refine wp_cut (fun a w => ∃ (x1 : Int) (g2 : Gh), Fr 25 a [(3, .i6 x1)] ∧ Le g1 g2 ∧ St g2 [] fr w ∧ slices_Max.j2 x1 = some r) ?_ ?_
  ·refine wp_seq ?_
   refine wp_region_lit ?_
   refine wE (ev_assign rfl) F S rfl fun a F=>?_
   refine wpList_nil ?_
   refine then_n ?_
   refine wp_block ?_
   obtain ⟨r1, hr2, hm⟩ := bind_some hm
   have hmo1 := hm; clear hm
   refine wp_iter (σ := Int × Int) (ρ := Int) (m := fun s => slices_Max.l1 x_ s.1 s.2) (I := fun s a w => match s with | (x2, x3) => ∃ (g3 : Gh), Fr 25 a [(4, .i6 x2), (3, .i6 x3), (0, vx_1)] ∧ Le g1 g3 ∧ St g3 [] fr w) hr2 ?_ ?_
   ·dsimp only
    exact ⟨g1, F.sub ⟨rfl, rfl, rfl, trivial⟩, (Le.refl _), S⟩
   ·clear F S; rintro ⟨x2, x3⟩ a w x4 ⟨g3, F, l3, S⟩ hx1 hfin1
    have hm : slices_Max.l1 x_ x2 x3 = some x4 := hx1; clear hx1
    unfold slices_Max.l1 at hm
    refine wp_seq ?_
    refine wp_seq ?_
    refine wp_region_lit ?_
    refine wE (ev_move rfl) F S rfl fun a F=>?_
    refine wE (ev_move rfl) F S rfl fun a F=>?_
    refine wE (ev_lenSh hx_1 rfl tu33) F S rfl fun a F=>?_
    refine wE (ev_int rfl rfl (bo_lss _ _ _ _)) F S rfl fun a F=>?_
    refine wpList_nil ?_
    refine then_n ?_
    obtain ⟨hc1, hm⟩ | ⟨hc1, hm⟩ := ite_or hm
    ·refine wp_condT F rfl hc1 ?_
     refine wp_skip ?_
     refine then_n ?_
     refine wp_seq ?_
     refine wp_block ?_
     refine wp_region_lit ?_
     refine wE (ev_move rfl) F S rfl fun a F=>?_
     refine wE (ev_move rfl) F S rfl fun a F=>?_
     refine wE (ev_move rfl) F S rfl fun a F=>?_
     obtain ⟨y2, hy2, hm⟩ := bind_some hm
     obtain ⟨cs2, hr3, hp2⟩ := elemS (hx_1.mono (l1.trans l3)) hy2
     obtain rfl := rep_int hr3
     refine wE (ev_idxS (hx_1.mono (l1.trans l3)) hy2 tu33 ts3 rfl rfl) F S rfl fun a F=>?_
     refine wE (ev_load1 tu3 rfl rfl (ptr_mono (cks := []) (fr := fr) hp2 (Le.refl _))) F S rfl fun a F=>?_
     refine wE (ev_max rfl rfl) F S rfl fun a F=>?_
     refine wE (ev_assign rfl) F S rfl fun a F=>?_
     refine wpList_nil ?_
     refine inb_n ?_
     refine then_n ?_
     refine wp_region_lit ?_
     refine wE (ev_move rfl) F S rfl fun a F=>?_
     obtain ⟨z1, hz1, hm⟩ := bind_some hm
     refine wE (ev_int rfl rfl (bo_add hz1)) F S rfl fun a F=>?_
     refine wE (ev_assign rfl) F S rfl fun a F=>?_
     refine wpList_nil ?_
     refine then_n ?_
     obtain rfl := sinj hm
     refine ⟨_, rfl, ?_⟩
     dsimp only
     exact ⟨g3, F.sub ⟨rfl, rfl, rfl, trivial⟩, l3, S⟩
    ·refine wp_condF F rfl hc1 ?_
     refine wp_exit ?_
     refine then_e ?_
     refine then_e ?_
     refine inb_x ?_
     refine then_n ?_
     obtain rfl := sinj hm
     obtain rfl := hfin1 _ rfl
     clear hm
     have hm : (slices_Max.j2 x3 : Option Int) = some _ := hmo1
     exact ⟨x3, g3, F.sub ⟨rfl, trivial⟩, l3, S, hm⟩
  ·clear F S hm; rintro a w ⟨x1, g2, F, l2, S, hm⟩
   refine wp_seq ?_
   refine wp_region_lit ?_
   refine wE (ev_move rfl) F S rfl fun a F=>?_
   refine wE (ev_assign rfl) F S rfl fun a F=>?_
   refine wpList_nil ?_
   refine then_n ?_
   refine wp_ret ?_
   obtain rfl := sinj hm
   refine post_r _ F rfl (ar_cons (resT rfl) ar_nil) ?_
   exact ⟨_, rfl, g2, (l1.trans l2), S, rfl⟩

theorem multivalue_covers_ok {g : Gh} {fr : Hl} {w : World} {r : Bool} (a_ : (List Int)) (va_1 : Value) (ha_1 : RepSl g a_ va_1) (b_ : (List Int)) (vb_1 : Value) (hb_1 : RepSl g b_ vb_1) (S : St g [] fr w) (hm : multivalue_covers a_ b_ = some r) :
  Calls Try.prog 32 [va_1, vb_1].toArray w (fun en w' => ∃ v, en = .returned v ∧ ∃ (g' : Gh), Le g g' ∧ St g' [] fr w' ∧ .bool r = v) := by
 unfold multivalue_covers at hm
 refine calls_enter (fn := Try.f32) Try.func32 rfl Try.ntmps32 (lb rfl) ?_
 intro a F
 replace F : Fr 21 a [(0, va_1), (1, vb_1)] := F
 refine wp_seq ?_
 refine wp_region_lit ?_
 refine wE (ev_assign rfl) F S rfl fun a F=>?_
 refine wpList_nil ?_
 refine then_n ?_
 refine wp_cut (fun a w => ∃ (g1 : Gh), Fr 21 a [] ∧ Le g g1 ∧ St g1 [] fr w ∧ multivalue_covers.j1 = some r) ?_ ?_
 ·refine wp_seq ?_
  refine wp_region_lit ?_
  refine wE (ev_move rfl) F S rfl fun a F=>?_
  refine wE (ev_lenSh ha_1 rfl tu33) F S rfl fun a F=>?_
  refine wE (ev_move rfl) F S rfl fun a F=>?_
  refine wpList_nil ?_
  refine then_n ?_
  refine wp_block ?_
  obtain ⟨r1, hr1, hm⟩ := bind_some hm
  have hmo1 := hm; clear hm
  refine wp_iter (σ := Int) (ρ := Bool ⊕ Unit) (m := fun s => multivalue_covers.l1 a_ b_ s) (I := fun x1 a w => ∃ (g2 : Gh), Fr 21 a [(8, .i6 x1), (7, .i6 (a_.length : Int)), (0, va_1), (1, vb_1)] ∧ Le g g2 ∧ St g2 [] fr w) hr1 ?_ ?_
  ·exact ⟨g, F.sub ⟨rfl, rfl, rfl, rfl, trivial⟩, (Le.refl _), S⟩
  ·clear F S; rintro x1 a w x2 ⟨g2, F, l2, S⟩ hx1 hfin1
   have hm : multivalue_covers.l1 a_ b_ x1 = some x2 := hx1; clear hx1
   unfold multivalue_covers.l1 at hm
   refine wp_seq ?_
   refine wp_region_lit ?_
   refine wE (ev_int rfl rfl (bo_lss _ _ _ _)) F S rfl fun a F=>?_
   refine wpList_nil ?_
   refine then_n ?_
   refine wp_seq ?_
   obtain ⟨hc1, hm⟩ | ⟨hc1, hm⟩ := ite_or hm
   ·refine wp_condT F rfl hc1 ?_
    refine wp_skip ?_
    refine then_n ?_
    refine wp_seq ?_
    refine wp_block ?_
    refine wp_seq ?_
    refine wp_region_lit ?_
    refine wE (ev_move rfl) F S rfl fun a F=>?_
    refine wE (ev_assign rfl) F S rfl fun a F=>?_
    refine wpList_nil ?_
    refine then_n ?_
    refine wp_seq ?_
    refine wp_quiet mo (by kernel_rfl) S ?_
    refine wq_ev (wn rfl) (ev_move rfl) F rfl rfl ?_; clear F a; intro a F
    refine wq_ev (wn rfl) (ev_move rfl) F rfl rfl ?_; clear F a; intro a F
    obtain ⟨y1, hy1, hm⟩ := bind_some hm
    obtain ⟨cs1, hr2, hp1⟩ := elemS (ha_1.mono l2) hy1
    obtain rfl := rep_int hr2
    refine wq_ev (wn rfl) (ev_idxS (ha_1.mono l2) hy1 tu33 ts3 rfl rfl) F rfl rfl ?_; clear F a; intro a F
    refine wq_ev (wn rfl) (ev_load1 tu3 rfl rfl (ptr_mono (cks := []) (fr := fr) hp1 (Le.refl _))) F rfl rfl ?_; clear F a; intro a F
    refine wq_ev (wn rfl) (ev_move rfl) F rfl rfl ?_; clear F a; intro a F
    refine wq_ev (wn rfl) (ev_move rfl) F rfl rfl ?_; clear F a; intro a F
    obtain ⟨y2, hy2, hm⟩ := bind_some hm
    obtain ⟨cs2, hr3, hp2⟩ := elemS (hb_1.mono l2) hy2
    obtain rfl := rep_int hr3
    refine wq_ev (wn rfl) (ev_idxS (hb_1.mono l2) hy2 tu33 ts3 rfl rfl) F rfl rfl ?_; clear F a; intro a F
    refine wq_ev (wn rfl) (ev_load1 tu3 rfl rfl (ptr_mono (cks := []) (fr := fr) hp2 (Le.refl _))) F rfl rfl ?_; clear F a; intro a F
    refine wq_ev (wn rfl) (ev_int rfl rfl (bo_lss _ _ _ _)) F rfl rfl ?_; clear F a; intro a F
    refine wq_nil ?_; clear S; intro w S
    refine then_n ?_
    obtain ⟨hc2, hm⟩ | ⟨hc2, hm⟩ := ite_or hm
    ·refine wp_condT F rfl hc2 ?_
     refine wp_seq ?_
     refine wp_region_lit ?_
     refine wE (ev_assign rfl) F S rfl fun a F=>?_
     refine wpList_nil ?_
     refine then_n ?_
     refine wp_ret ?_
     refine inb_r ?_
     refine then_r ?_
     refine then_r ?_
     refine inb_r ?_
     refine then_r ?_
     obtain rfl := sinj hm
     obtain rfl := hfin1 _ rfl
     clear hm
     have hm : (some false : Option Bool) = some _ := hmo1
     obtain rfl := sinj hm
     refine post_r _ F rfl (ar_cons (resT rfl) ar_nil) ?_
     exact ⟨_, rfl, g2, l2, S, rfl⟩
    ·refine wp_condF F rfl hc2 ?_
     refine wp_skip ?_
     refine inb_n ?_
     refine then_n ?_
     refine wp_region_lit ?_
     obtain ⟨z1, hz1, hm⟩ := bind_some hm
     refine wE (ev_int rfl rfl (bo_add hz1)) F S rfl fun a F=>?_
     refine wE (ev_move rfl) F S rfl fun a F=>?_
     refine wpList_nil ?_
     refine then_n ?_
     obtain rfl := sinj hm
     refine ⟨_, rfl, ?_⟩
     exact ⟨g2, F.sub ⟨rfl, rfl, rfl, rfl, trivial⟩, l2, S⟩
   ·refine wp_condF F rfl hc1 ?_
    refine wp_exit ?_
    refine then_e ?_
    refine then_e ?_
    refine inb_x ?_
    refine then_n ?_
    obtain rfl := sinj hm
    obtain rfl := hfin1 _ rfl
    clear hm
    have hm : (multivalue_covers.j1 : Option Bool) = some _ := hmo1
    exact ⟨g2, F.sub trivial, l2, S, hm⟩
 ·clear F S hm; rintro a w ⟨g1, F, l1, S, hm⟩
  refine wp_seq ?_
  refine wp_region_lit ?_
  refine wE (ev_assign rfl) F S rfl fun a F=>?_
  refine wpList_nil ?_
  refine then_n ?_
  refine wp_ret ?_
  obtain rfl := sinj hm
  refine post_r _ F rfl (ar_cons (resT rfl) ar_nil) ?_
  exact ⟨_, rfl, g1, l1, S, rfl⟩

theorem multivalue_check_ok {g : Gh} {fr : Hl} {w : World} {r : Int} (v_ : VersionedValue) (vv_1 : Value) (hv_1 : RepSl g v_.Vector vv_1) (earlier : (List VersionedValue)) (vearlier1 : Value) (hearlier1 : RepSl g earlier vearlier1) (S : St g [] fr w) (hm : multivalue_check v_ earlier = some r) :
  Calls Try.prog 28 [.agg #[.i6 v_.Value, vv_1], vearlier1].toArray w (fun en w' => ∃ v, en = .returned v ∧ ∃ (g' : Gh), Le g g' ∧ St g' [] fr w' ∧ .i6 r = v) := by
 unfold multivalue_check at hm
 refine calls_enter (fn := Try.f28) Try.func28 rfl Try.ntmps28 (lb rfl) ?_
 intro a F
 replace F : Fr 42 a [(0, .agg #[.i6 v_.Value, vv_1]), (1, vearlier1)] := F
 refine wp_seq ?_
 refine wp_region_lit ?_
 refine wl_boxC (wn rfl) rfl rfl rfl F S rfl rfl ?_; clear F a S; rintro b1 a w F S
 refine wE (ev_assign rfl) F S rfl fun a F=>?_
 refine wpList_nil ?_
 refine then_n ?_
 refine wp_seq ?_
 refine wp_seq ?_
 refine wp_region_lit ?_
 refine wE (ev_fieldAddr' tu35 tf35_0 (z := 0) ts3 rfl ⟨_, rfl⟩ rfl) F S rfl fun a F=>?_
 refine wE (ev_load1 tu3 rfl rfl (box_ptr (cells := [.i6 v_.Value]) 0 rfl 0 rfl (lb rfl))) F S rfl fun a F=>?_
 obtain ⟨y1, hy1, hm⟩ := bind_some hm
 refine wl_call0 (wn rfl) rfl F rfl (multivalue_inRange_ok (fr := (fl [[bx b1 #[.i6 v_.Value, vv_1] 35]] fr)) v_.Value S hy1) rfl tc18 rfl rfl ?_; clear F a S
 rintro _ a w ⟨g1, l1, S, rfl⟩ F; replace S : St g1 [[bx b1 #[.i6 v_.Value, vv_1] 35]] fr w := S
 refine wE (ev_not rfl) F S rfl fun a F=>?_
 refine wpList_nil ?_
 refine then_n ?_
 obtain ⟨hc1, hm⟩ | ⟨hc1, hm⟩ := ite_or hm
 ·refine wp_condT F rfl hc1 ?_
  refine wp_seq ?_
  refine wp_region_lit ?_
  refine wE (ev_assign rfl) F S rfl fun a F=>?_
  refine wpList_nil ?_
  refine then_n ?_
  refine wp_ret ?_
  refine then_r ?_
  obtain rfl := sinj hm
  refine post_r _ F rfl (ar_cons (resT rfl) ar_nil) ?_
  replace S : St g1 [] fr w := St.tail [] _ S
  exact ⟨_, rfl, g1, l1, S, rfl⟩
 ·refine wp_condF F rfl hc1 ?_
  refine wp_skip ?_
  refine then_n ?_
  refine wp_seq ?_
  refine wp_seq ?_
  refine wp_region_lit ?_
  refine wE (ev_fieldAddr' tu35 tf35_1 (z := 0) ts33 rfl ⟨_, rfl⟩ rfl) F S rfl fun a F=>?_
  refine wE (ev_load1 tu33 rfl rfl (box_ptr (cells := [vv_1]) 0 rfl 1 rfl (lb rfl))) F S rfl fun a F=>?_
  refine wE (ev_lenSh hv_1 rfl tu33) F S rfl fun a F=>?_
  refine wE (ev_int rfl rfl (bo_neq _ _ _ _)) F S rfl fun a F=>?_
  refine wpList_nil ?_
  refine then_n ?_
  obtain ⟨hc2, hm⟩ | ⟨hc2, hm⟩ := ite_or hm
  ·refine wp_condT F rfl hc2 ?_
   refine wp_seq ?_
   refine wp_region_lit ?_
   refine wE (ev_assign rfl) F S rfl fun a F=>?_
   refine wpList_nil ?_
   refine then_n ?_
   refine wp_ret ?_
   refine then_r ?_
   obtain rfl := sinj hm
   refine post_r _ F rfl (ar_cons (resT rfl) ar_nil) ?_
   replace S : St g1 [] fr w := St.tail [] _ S
   exact ⟨_, rfl, g1, l1, S, rfl⟩
  ·refine wp_condF F rfl hc2 ?_
   refine wp_skip ?_
   refine then_n ?_
   refine wp_seq ?_
   refine wp_seq ?_
   refine wp_region_lit ?_
   refine wE (ev_fieldAddr' tu35 tf35_1 (z := 0) ts33 rfl ⟨_, rfl⟩ rfl) F S rfl fun a F=>?_
   refine wE (ev_load1 tu33 rfl rfl (box_ptr (cells := [vv_1]) 0 rfl 1 rfl (lb rfl))) F S rfl fun a F=>?_
   replace F := F.sub (e' := [(15, vv_1), (2, bp b1 0), (1, vearlier1)]) ⟨rfl, rfl, rfl, trivial⟩
   refine wl_callK (wn rfl) rfl (xs := [.tmp 15, .func 38]) (vs := [vv_1, .func (.func 38) #[] #[]]) (cap := []) (e' := [(2, bp b1 0), (1, vearlier1)]) ⟨rfl, rfl, trivial⟩ F rfl rfl tc37 rfl rfl (calls_enter (fn := Try.f37) Try.func37 rfl Try.ntmps37 (lb rfl) ?_); clear F a; intro a F
   replace F : Fr 9 a [(0, vv_1), (1, .func (.func 38) #[] #[])] := F
   refine wp_seq ?_
   refine wp_region_lit ?_
   refine wE (ev_assign rfl) F S rfl fun a F=>?_
   refine wpList_nil ?_
   refine then_n ?_
   refine wp_seq ?_
   refine wp_region_lit ?_
   refine wE (ev_move rfl) F S rfl fun a F=>?_
   refine wE (ev_move rfl) F S rfl fun a F=>?_
   refine wl_call (wn rfl) rfl (xs := [.tmp 5, .tmp 6]) (vs := [vv_1, .func (.func 38) #[] #[]]) (cap := []) (R := fun u1 w => ∃ (x1 : Int) (g2 : Gh), u1 = .i6 x1 ∧ Le g1 g2 ∧ St g2 [[bx b1 #[.i6 v_.Value, vv_1] 35]] fr w ∧ multivalue_check.j1 v_ earlier x1 = some r) F rfl rfl tc53 (calls_enter (fn := Try.f53) Try.func53 rfl Try.ntmps53 (lb rfl) ?_) rfl rfl ?_
   ·clear F a; intro a F
    replace F : Fr 19 a [(0, vv_1), (1, .func (.func 38) #[] #[])] := F
    refine wp_seq ?_
    refine wp_region_lit ?_
    refine wE (ev_assign rfl) F S rfl fun a F=>?_
    refine wpList_nil ?_
    refine then_n ?_
    refine wp_cut (fun a w => ∃ (g11 : Gh), Fr 19 a [] ∧ Le g1 g11 ∧ St g11 [[bx b1 #[.i6 v_.Value, vv_1] 35]] fr w ∧ multivalue_check.j4 v_ earlier = some r) ?_ ?_
    ·refine wp_seq ?_
     refine wp_region_lit ?_
     refine wE (ev_move rfl) F S rfl fun a F=>?_
     refine wE (ev_lenSh hv_1 rfl tu33) F S rfl fun a F=>?_
     refine wE (ev_move rfl) F S rfl fun a F=>?_
     refine wpList_nil ?_
     refine then_n ?_
     refine wp_block ?_
     obtain ⟨r2, hr4, hm⟩ := bind_some hm
     have hmo2 := hm; clear hm
     refine wp_iter (σ := Int) (ρ := Int ⊕ Unit) (m := fun s => multivalue_check.l2 v_ s) (I := fun x8 a w => ∃ (g12 : Gh), Fr 19 a [(8, .i6 x8), (7, .i6 (v_.Vector.length : Int)), (0, vv_1), (1, .func (.func 38) #[] #[])] ∧ Le g1 g12 ∧ St g12 [[bx b1 #[.i6 v_.Value, vv_1] 35]] fr w) hr4 ?_ ?_
     ·exact ⟨g1, F.sub ⟨rfl, rfl, rfl, rfl, trivial⟩, (Le.refl _), S⟩
     ·clear F S; rintro x8 a w x9 ⟨g12, F, l12, S⟩ hx5 hfin2
      have hm : multivalue_check.l2 v_ x8 = some x9 := hx5; clear hx5
      unfold multivalue_check.l2 at hm
      refine wp_seq ?_
      refine wp_region_lit ?_
      refine wE (ev_int rfl rfl (bo_lss _ _ _ _)) F S rfl fun a F=>?_
      refine wpList_nil ?_
      refine then_n ?_
      refine wp_seq ?_
      obtain ⟨hc11, hm⟩ | ⟨hc11, hm⟩ := ite_or hm
      ·refine wp_condT F rfl hc11 ?_
       refine wp_skip ?_
       refine then_n ?_
       refine wp_seq ?_
       refine wp_block ?_
       refine wp_seq ?_
       refine wp_region_lit ?_
       refine wE (ev_move rfl) F S rfl fun a F=>?_
       refine wE (ev_assign rfl) F S rfl fun a F=>?_
       refine wpList_nil ?_
       refine then_n ?_
       refine wp_seq ?_
       refine wp_region_lit ?_
       refine wE (ev_move rfl) F S rfl fun a F=>?_
       refine wE (ev_move rfl) F S rfl fun a F=>?_
       refine wE (ev_move rfl) F S rfl fun a F=>?_
       obtain ⟨y8, hy8, hm⟩ := bind_some hm
       obtain ⟨cs3, hr5, hp4⟩ := elemS (hv_1.mono (l1.trans l12)) hy8
       obtain rfl := rep_int hr5
       refine wE (ev_idxS (hv_1.mono (l1.trans l12)) hy8 tu33 ts3 rfl rfl) F S rfl fun a F=>?_
       refine wE (ev_load1 tu3 rfl rfl (ptr_mono (cks := [[bx b1 #[.i6 v_.Value, vv_1] 35]]) (fr := fr) hp4 (Le.refl _))) F S rfl fun a F=>?_
       obtain ⟨y9, hy9, hm⟩ := bind_some hm
       refine wl_call0 (wn rfl) rfl F rfl (multivalue_check_s1_ok (fr := (fl [[bx b1 #[.i6 v_.Value, vv_1] 35]] fr)) y8 S hy9) rfl tc38 rfl rfl ?_; clear F a S
       rintro _ a w ⟨g13, l13, S, rfl⟩ F; replace S : St g13 [[bx b1 #[.i6 v_.Value, vv_1] 35]] fr w := S
       refine wpList_nil ?_
       refine then_n ?_
       obtain ⟨hc12, hm⟩ | ⟨hc12, hm⟩ := ite_or hm
       ·refine wp_condT F rfl hc12 ?_
        refine wp_seq ?_
        refine wp_region_lit ?_
        refine wE (ev_move rfl) F S rfl fun a F=>?_
        refine wE (ev_assign rfl) F S rfl fun a F=>?_
        refine wpList_nil ?_
        refine then_n ?_
        refine wp_ret ?_
        refine inb_r ?_
        refine then_r ?_
        refine then_r ?_
        refine inb_r ?_
        refine then_r ?_
        obtain rfl := sinj hm
        obtain rfl := hfin2 _ rfl
        clear hm
        have hm : (multivalue_check.j1 v_ earlier x8 : Option Int) = some _ := hmo2
        refine post_r _ F rfl (ar_cons (resT rfl) ar_nil) ?_
        exact ⟨_, rfl, ⟨x8, g13, rfl, (l12.trans l13), S, hm⟩⟩
       ·refine wp_condF F rfl hc12 ?_
        refine wp_skip ?_
        refine inb_n ?_
        refine then_n ?_
        refine wp_region_lit ?_
        obtain ⟨z3, hz3, hm⟩ := bind_some hm
        refine wE (ev_int rfl rfl (bo_add hz3)) F S rfl fun a F=>?_
        refine wE (ev_move rfl) F S rfl fun a F=>?_
        refine wpList_nil ?_
        refine then_n ?_
        obtain rfl := sinj hm
        refine ⟨_, rfl, ?_⟩
        exact ⟨g13, F.sub ⟨rfl, rfl, rfl, rfl, trivial⟩, (l12.trans l13), S⟩
      ·refine wp_condF F rfl hc11 ?_
       refine wp_exit ?_
       refine then_e ?_
       refine then_e ?_
       refine inb_x ?_
       refine then_n ?_
       obtain rfl := sinj hm
       obtain rfl := hfin2 _ rfl
       clear hm
       have hm : (multivalue_check.j4 v_ earlier : Option Int) = some _ := hmo2
       exact ⟨g12, F.sub trivial, l12, S, hm⟩
    ·clear F S hm; rintro a w ⟨g11, F, l11, S, hm⟩
     refine wp_seq ?_
     refine wp_region_lit ?_
     refine wE (ev_assign rfl) F S rfl fun a F=>?_
     refine wpList_nil ?_
     refine then_n ?_
     refine wp_ret ?_
     refine post_r _ F rfl (ar_cons (resT rfl) ar_nil) ?_
     exact ⟨_, rfl, ⟨(-1), g11, rfl, l11, S, hm⟩⟩
   ·clear F S hm; rintro _ a w ⟨x1, g2, rfl, l2, S, hm⟩ F
    replace F := F.sub (e' := [(7, .i6 x1)]) ⟨rfl, trivial⟩
    refine wE (ev_int rfl rfl (bo_geq _ _ _ _)) F S rfl fun a F=>?_
    refine wE (ev_assign rfl) F S rfl fun a F=>?_
    refine wpList_nil ?_
    refine then_n ?_
    refine wp_ret ?_
    refine post_r _ F rfl (ar_cons (resT rfl) ar_nil) ?_
    refine ⟨_, rfl, ?_⟩; clear F a; intro a F
    replace F : Fr 42 a [(16, .bool (decide (x1 ≥ 0))), (2, bp b1 0), (1, vearlier1)] := F
    refine wpList_nil ?_
    refine then_n ?_
    obtain ⟨hc3, hm⟩ | ⟨hc3, hm⟩ := ite_or hm
    ·refine wp_condT F rfl hc3 ?_
     refine wp_seq ?_
     refine wp_region_lit ?_
     refine wE (ev_assign rfl) F S rfl fun a F=>?_
     refine wpList_nil ?_
     refine then_n ?_
     refine wp_ret ?_
     refine then_r ?_
     obtain rfl := sinj hm
     refine post_r _ F rfl (ar_cons (resT rfl) ar_nil) ?_
     replace S : St g2 [] fr w := St.tail [] _ S
     exact ⟨_, rfl, g2, (l1.trans l2), S, rfl⟩
    ·refine wp_condF F rfl hc3 ?_
     refine wp_skip ?_
     refine then_n ?_
     refine wp_seq ?_
     refine wp_region_lit ?_
     refine wE (ev_move rfl) F S rfl fun a F=>?_
     refine wE (ev_lenSh hearlier1 rfl tu22) F S rfl fun a F=>?_
     refine wE (ev_assign rfl) F S rfl fun a F=>?_
     refine wpList_nil ?_
     refine then_n ?_
     refine wp_seq ?_
     refine wp_seq ?_
     refine wp_quiet mo (by kernel_rfl) S ?_
     refine wq_ev (wn rfl) (ev_fieldAddr' tu35 tf35_1 (z := 0) ts33 rfl ⟨_, rfl⟩ rfl) F rfl rfl ?_; clear F a; intro a F
     refine wq_ev (wn rfl) (ev_load1 tu33 rfl rfl (box_ptr (cells := [vv_1]) 0 rfl 1 rfl (lb rfl))) F rfl rfl ?_; clear F a; intro a F
     obtain ⟨y2, hy2, hm⟩ := bind_some hm
     refine wq_call (wn rfl) rfl (xs := [.tmp 20]) (vs := [vv_1]) (cap := []) F rfl rfl tc39 (v := .i6 y2) (fun w S => (slices_Max_ok (g := g2) (fr := (fl [[bx b1 #[.i6 v_.Value, vv_1] 35]] fr)) (w := w) v_.Vector vv_1 (hv_1.mono (l1.trans l2)) S hy2).mono (by rintro en w' ⟨_, rfl, g2, l2, S2, rfl⟩; exact ⟨rfl, S2.weak l2⟩)) rfl rfl ?_; clear F a; intro a F
     refine wq_ev (wn rfl) (ev_int rfl rfl (bo_eql _ _ _ _)) F rfl rfl ?_; clear F a; intro a F
     refine wq_ev (wn rfl) (ev_move rfl) F rfl rfl ?_; clear F a; intro a F
     obtain ⟨x2, hx1, hm⟩ := bind_some hm
     refine wq_cut 15 (fun a => Fr 42 a [(38, .bool x2), (2, bp b1 0), (1, vearlier1)]) ?_ ?_
     ·clear hm; obtain ⟨hc4, hm⟩ | ⟨hc4, hm⟩ := ite_or hx1
      ·refine wq_skip rfl rfl rfl rfl (ne_ft hc4) F rfl rfl ?_; clear F a; intro a F
       refine wq_skip rfl rfl rfl rfl (ne_ft hc4) F rfl rfl ?_; clear F a; intro a F
       refine wq_skip rfl rfl rfl rfl (ne_ft hc4) F rfl rfl ?_; clear F a; intro a F
       refine wq_skipu rfl rfl rfl rfl F rfl rfl ?_; clear F a; intro a F
       refine wq_skipu rfl rfl rfl rfl F rfl rfl ?_; clear F a; intro a F
       refine wq_skipu rfl rfl rfl rfl F rfl rfl ?_; clear F a; intro a F
       refine wq_skipu rfl rfl rfl rfl F rfl rfl ?_; clear F a; intro a F
       refine wq_skipu rfl rfl rfl rfl F rfl rfl ?_; clear F a; intro a F
       refine wq_skipu rfl rfl rfl rfl F rfl rfl ?_; clear F a; intro a F
       refine wq_skipu rfl rfl rfl rfl F rfl rfl ?_; clear F a; intro a F
       refine wq_skipu rfl rfl rfl rfl F rfl rfl ?_; clear F a; intro a F
       refine wq_skipu rfl rfl rfl rfl F rfl rfl ?_; clear F a; intro a F
       refine wq_skipu rfl rfl rfl rfl F rfl rfl ?_; clear F a; intro a F
       refine wq_skip rfl rfl rfl rfl (ne_ft hc4) F rfl rfl ?_; clear F a; intro a F
       refine wq_ev (wn rfl) (ev_pickT rfl hc4 rfl) F rfl rfl ?_; clear F a; intro a F
       obtain rfl := sinj hm
       refine wq_nil ?_; exact F.sub ⟨rfl, rfl, rfl, trivial⟩
      ·refine wq_ev (wg F rfl rfl rfl rfl hc4) (ev_move rfl) F rfl rfl ?_; clear F a; intro a F
       refine wq_ev (wg F rfl rfl rfl rfl hc4) (ev_int rfl rfl (bo_gtr _ _ _ _)) F rfl rfl ?_; clear F a; intro a F
       refine wq_ev (wg F rfl rfl rfl rfl hc4) (ev_move rfl) F rfl rfl ?_; clear F a; intro a F
       obtain ⟨x3, hx2, hm⟩ := bind_some hm
       refine wq_cut 11 (fun a => Fr 42 a [(37, .bool x3), (23, .bool (decide (y2 = 0))), (2, bp b1 0), (1, vearlier1)]) ?_ ?_
       ·clear hm; obtain ⟨hc5, hm⟩ | ⟨hc5, hm⟩ := ite_or hx2
        ·refine wq_ev (wg F rfl rfl rfl rfl hc5) (ev_fieldAddr' tu35 tf35_1 (z := 0) ts33 rfl ⟨_, rfl⟩ rfl) F rfl rfl ?_; clear F a; intro a F
         refine wq_ev (wg F rfl rfl rfl rfl hc5) (ev_load1 tu33 rfl rfl (box_ptr (cells := [vv_1]) 0 rfl 1 rfl (lb rfl))) F rfl rfl ?_; clear F a; intro a F
         refine wq_ev (wg F rfl rfl rfl rfl hc5) (ev_move rfl) F rfl rfl ?_; clear F a; intro a F
         refine wq_ev (wg F rfl rfl rfl rfl hc5) (ev_move rfl) F rfl rfl ?_; clear F a; intro a F
         obtain ⟨z1, hz1, hm⟩ := bind_some hm
         refine wq_ev (wg F rfl rfl rfl rfl hc5) (ev_int rfl rfl (bo_sub hz1)) F rfl rfl ?_; clear F a; intro a F
         obtain ⟨y3, hy3, hm⟩ := bind_some hm
         obtain ⟨cs1, hr1, hp1⟩ := elemS (hearlier1.mono (l1.trans l2)) hy3
         obtain ⟨v1, rfl, h1⟩ := rep_VersionedValue hr1
         refine wq_ev (wg F rfl rfl rfl rfl hc5) (ev_idxS (hearlier1.mono (l1.trans l2)) hy3 tu22 ts35 rfl rfl) F rfl rfl ?_; clear F a; intro a F
         have hp2 := PtrC.field hp1 1 1 (lb rfl)
         have hp2 : PtrC g2 (addP (elemP vearlier1 z1 2) 1) [v1] := hp2
         refine wq_ev (wg F rfl rfl rfl rfl hc5) (ev_fieldAddr' tu35 tf35_1 (z := 0) ts33 rfl hp1.ptr rfl) F rfl rfl ?_; clear F a; intro a F
         refine wq_ev (wg F rfl rfl rfl rfl hc5) (ev_load1 tu33 rfl rfl (ptr_mono (cks := [[bx b1 #[.i6 v_.Value, vv_1] 35]]) (fr := fr) hp2 (Le.refl _))) F rfl rfl ?_; clear F a; intro a F
         obtain ⟨y4, hy4, hm⟩ := bind_some hm
         refine wq_call (wg F rfl rfl rfl rfl hc5) rfl (xs := [.tmp 28, .tmp 34]) (vs := [vv_1, v1]) (cap := []) F rfl rfl tc24 (v := .i6 y4) (fun w S => (slices_Compare_ok (g := g2) (fr := (fl [[bx b1 #[.i6 v_.Value, vv_1] 35]] fr)) (w := w) v_.Vector vv_1 (hv_1.mono (l1.trans l2)) y3.Vector v1 h1 S hy4).mono (by rintro en w' ⟨_, rfl, g2, l2, S2, rfl⟩; exact ⟨rfl, S2.weak l2⟩)) rfl rfl ?_; clear F a; intro a F
         refine wq_ev (wg F rfl rfl rfl rfl hc5) (ev_int rfl rfl (bo_leq _ _ _ _)) F rfl rfl ?_; clear F a; intro a F
         refine wq_ev (wg F rfl rfl rfl rfl hc4) (ev_pickT rfl hc5 rfl) F rfl rfl ?_; clear F a; intro a F
         obtain rfl := sinj hm
         refine wq_nil ?_; exact F.sub ⟨rfl, rfl, rfl, rfl, trivial⟩
        ·refine wq_skip rfl rfl rfl rfl (ne_tf hc5) F rfl rfl ?_; clear F a; intro a F
         refine wq_skip rfl rfl rfl rfl (ne_tf hc5) F rfl rfl ?_; clear F a; intro a F
         refine wq_skip rfl rfl rfl rfl (ne_tf hc5) F rfl rfl ?_; clear F a; intro a F
         refine wq_skip rfl rfl rfl rfl (ne_tf hc5) F rfl rfl ?_; clear F a; intro a F
         refine wq_skip rfl rfl rfl rfl (ne_tf hc5) F rfl rfl ?_; clear F a; intro a F
         refine wq_skip rfl rfl rfl rfl (ne_tf hc5) F rfl rfl ?_; clear F a; intro a F
         refine wq_skip rfl rfl rfl rfl (ne_tf hc5) F rfl rfl ?_; clear F a; intro a F
         refine wq_skip rfl rfl rfl rfl (ne_tf hc5) F rfl rfl ?_; clear F a; intro a F
         refine wq_skip rfl rfl rfl rfl (ne_tf hc5) F rfl rfl ?_; clear F a; intro a F
         refine wq_skip rfl rfl rfl rfl (ne_tf hc5) F rfl rfl ?_; clear F a; intro a F
         refine wq_ev (wg F rfl rfl rfl rfl hc4) (ev_pickF rfl hc5 rfl) F rfl rfl ?_; clear F a; intro a F
         obtain rfl := sinj hm
         refine wq_nil ?_; exact F.sub ⟨rfl, rfl, rfl, rfl, trivial⟩
       clear F; intro a F
       refine wq_ev (wn rfl) (ev_pickF rfl hc4 rfl) F rfl rfl ?_; clear F a; intro a F
       obtain rfl := sinj hm
       refine wq_nil ?_; exact F.sub ⟨rfl, rfl, rfl, trivial⟩
     clear F; intro a F
     refine wq_nil ?_; clear S; intro w S
     refine then_n ?_
     obtain ⟨hc6, hm⟩ | ⟨hc6, hm⟩ := ite_or hm
     ·refine wp_condT F rfl hc6 ?_
      refine wp_seq ?_
      refine wp_region_lit ?_
      refine wE (ev_assign rfl) F S rfl fun a F=>?_
      refine wpList_nil ?_
      refine then_n ?_
      refine wp_ret ?_
      refine then_r ?_
      obtain rfl := sinj hm
      refine post_r _ F rfl (ar_cons (resT rfl) ar_nil) ?_
      replace S : St g2 [] fr w := St.tail [] _ S
      exact ⟨_, rfl, g2, (l1.trans l2), S, rfl⟩
     ·refine wp_condF F rfl hc6 ?_
      refine wp_skip ?_
      refine then_n ?_
      refine wp_seq ?_
      refine wp_seq ?_
      refine wp_region_lit ?_
      refine wE (ev_move rfl) F S rfl fun a F=>?_
      refine wE (ev_makeFunc (xs := [.tmp 2]) (vs := [bp b1 0]) rfl) F S rfl fun a F=>?_
      replace F := F.sub (e' := [(40, .func (.func 40) #[] #[bp b1 0]), (39, vearlier1)]) ⟨rfl, rfl, trivial⟩
      refine wl_callK (wn rfl) rfl (xs := [.tmp 39, .tmp 40]) (vs := [vearlier1, .func (.func 40) #[] #[bp b1 0]]) (cap := []) (e' := []) trivial F rfl rfl tc30 rfl rfl (calls_enter (fn := Try.f30) Try.func30 rfl Try.ntmps30 (lb rfl) ?_); clear F a; intro a F
      replace F : Fr 9 a [(0, vearlier1), (1, .func (.func 40) #[] #[bp b1 0])] := F
      refine wp_seq ?_
      refine wp_region_lit ?_
      refine wE (ev_assign rfl) F S rfl fun a F=>?_
      refine wpList_nil ?_
      refine then_n ?_
      refine wp_seq ?_
      refine wp_region_lit ?_
      refine wE (ev_move rfl) F S rfl fun a F=>?_
      refine wE (ev_move rfl) F S rfl fun a F=>?_
      refine wl_call (wn rfl) rfl (xs := [.tmp 5, .tmp 6]) (vs := [vearlier1, .func (.func 40) #[] #[bp b1 0]]) (cap := []) (R := fun u2 w => ∃ (x4 : Int) (g5 : Gh), u2 = .i6 x4 ∧ Le g2 g5 ∧ St g5 [] fr w ∧ multivalue_check.j2 x4 = some r) F rfl rfl tc41 (calls_enter (fn := Try.f41) Try.func41 rfl Try.ntmps41 (lb rfl) ?_) rfl rfl ?_
      ·clear F a; intro a F
       replace F : Fr 19 a [(0, vearlier1), (1, .func (.func 40) #[] #[bp b1 0])] := F
       refine wp_seq ?_
       refine wp_region_lit ?_
       refine wE (ev_assign rfl) F S rfl fun a F=>?_
       refine wpList_nil ?_
       refine then_n ?_
       refine wp_cut (fun a w => ∃ (g6 : Gh), Fr 19 a [] ∧ Le g2 g6 ∧ St g6 [] fr w ∧ multivalue_check.j3 = some r) ?_ ?_
       ·refine wp_seq ?_
        refine wp_region_lit ?_
        refine wE (ev_move rfl) F S rfl fun a F=>?_
        refine wE (ev_lenSh hearlier1 rfl tu22) F S rfl fun a F=>?_
        refine wE (ev_move rfl) F S rfl fun a F=>?_
        refine wpList_nil ?_
        refine then_n ?_
        refine wp_block ?_
        obtain ⟨r1, hr2, hm⟩ := bind_some hm
        have hmo1 := hm; clear hm
        refine wp_iter (σ := Int) (ρ := Int ⊕ Unit) (m := fun s => multivalue_check.l1 v_ earlier s) (I := fun x5 a w => ∃ (g7 : Gh), Fr 19 a [(8, .i6 x5), (7, .i6 (earlier.length : Int)), (0, vearlier1), (1, .func (.func 40) #[] #[bp b1 0])] ∧ Le g2 g7 ∧ St g7 [[bx b1 #[.i6 v_.Value, vv_1] 35]] fr w) hr2 ?_ ?_
        ·exact ⟨g2, F.sub ⟨rfl, rfl, rfl, rfl, trivial⟩, (Le.refl _), S⟩
        ·clear F S; rintro x5 a w x6 ⟨g7, F, l7, S⟩ hx3 hfin1
         have hm : multivalue_check.l1 v_ earlier x5 = some x6 := hx3; clear hx3
         unfold multivalue_check.l1 at hm
         refine wp_seq ?_
         refine wp_region_lit ?_
         refine wE (ev_int rfl rfl (bo_lss _ _ _ _)) F S rfl fun a F=>?_
         refine wpList_nil ?_
         refine then_n ?_
         refine wp_seq ?_
         obtain ⟨hc8, hm⟩ | ⟨hc8, hm⟩ := ite_or hm
         ·refine wp_condT F rfl hc8 ?_
          refine wp_skip ?_
          refine then_n ?_
          refine wp_seq ?_
          refine wp_block ?_
          refine wp_seq ?_
          refine wp_region_lit ?_
          refine wE (ev_move rfl) F S rfl fun a F=>?_
          refine wE (ev_assign rfl) F S rfl fun a F=>?_
          refine wpList_nil ?_
          refine then_n ?_
          refine wp_seq ?_
          refine wp_region_lit ?_
          refine wE (ev_move rfl) F S rfl fun a F=>?_
          refine wE (ev_move rfl) F S rfl fun a F=>?_
          refine wE (ev_move rfl) F S rfl fun a F=>?_
          obtain ⟨y5, hy5, hm⟩ := bind_some hm
          obtain ⟨cs2, hr3, hp3⟩ := elemS (hearlier1.mono ((l1.trans l2).trans l7)) hy5
          obtain ⟨v2, rfl, h2⟩ := rep_VersionedValue hr3
          refine wE (ev_idxS (hearlier1.mono ((l1.trans l2).trans l7)) hy5 tu22 ts35 rfl rfl) F S rfl fun a F=>?_
          refine wE (ev_loadA tu35 rfl (cs := [.i6 y5.Value, v2]) ts35 rfl (ptr_mono (cks := [[bx b1 #[.i6 v_.Value, vv_1] 35]]) (fr := fr) hp3 (Le.refl _))) F S rfl fun a F=>?_
          replace F := F.sub (e' := [(15, .agg #[.i6 y5.Value, v2]), (11, .func (.func 40) #[] #[bp b1 0]), (5, .i6 x5), (8, .i6 x5), (7, .i6 (earlier.length : Int)), (0, vearlier1), (1, .func (.func 40) #[] #[bp b1 0])]) ⟨rfl, rfl, rfl, rfl, rfl, rfl, rfl, trivial⟩
          refine wl_callK (wn rfl) rfl (xs := [.tmp 15]) (vs := [.agg #[.i6 y5.Value, v2]]) (cap := [bp b1 0]) (e' := [(5, .i6 x5), (8, .i6 x5), (7, .i6 (earlier.length : Int)), (0, vearlier1), (1, .func (.func 40) #[] #[bp b1 0])]) ⟨rfl, rfl, rfl, rfl, rfl, trivial⟩ F rfl rfl tc40 rfl rfl (calls_enter (fn := Try.f40) Try.func40 rfl Try.ntmps40 (lb rfl) ?_); clear F a; intro a F
          replace F : Fr 16 a [(0, .agg #[.i6 y5.Value, v2]), (1, bp b1 0)] := F
          refine wp_seq ?_
          refine wp_region_lit ?_
          refine wl_boxC (wn rfl) rfl rfl rfl F S rfl rfl ?_; clear F a S; rintro b2 a w F S
          refine wE (ev_assign rfl) F S rfl fun a F=>?_
          refine wpList_nil ?_
          refine then_n ?_
          refine wp_seq ?_
          refine wp_region_lit ?_
          refine wE (ev_fieldAddr' tu35 tf35_1 (z := 0) ts33 rfl ⟨_, rfl⟩ rfl) F S rfl fun a F=>?_
          refine wE (ev_load1 tu33 rfl rfl (box_ptr (cells := [v2]) 0 rfl 1 rfl (lb rfl))) F S rfl fun a F=>?_
          refine wE (ev_fieldAddr' tu35 tf35_1 (z := 0) ts33 rfl ⟨_, rfl⟩ rfl) F S rfl fun a F=>?_
          refine wE (ev_load1 tu33 rfl rfl (box_ptr (cells := [vv_1]) 1 rfl 1 rfl (lb rfl))) F S rfl fun a F=>?_
          obtain ⟨y6, hy6, hm⟩ := bind_some hm
          refine wl_call0 (wn rfl) rfl F rfl (multivalue_covers_ok (fr := (fl [[bx b2 #[.i6 y5.Value, v2] 35], [bx b1 #[.i6 v_.Value, vv_1] 35]] fr)) y5.Vector v2 h2 v_.Vector vv_1 (hv_1.mono ((l1.trans l2).trans l7)) S hy6) rfl tc32 rfl rfl ?_; clear F a S
          rintro _ a w ⟨g8, l8, S, rfl⟩ F; replace S : St g8 [[bx b2 #[.i6 y5.Value, v2] 35], [bx b1 #[.i6 v_.Value, vv_1] 35]] fr w := S
          refine wE (ev_move rfl) F S rfl fun a F=>?_
          obtain ⟨x7, hx4, hm⟩ := bind_some hm
          refine wl_cut 6 (fun a w => ∃ g9, Fr 16 a [(15, .bool x7), (3, .bool false)] ∧ Le g8 g9 ∧ St g9 [[bx b2 #[.i6 y5.Value, v2] 35], [bx b1 #[.i6 v_.Value, vv_1] 35]] fr w) ?_ ?_
          ·clear hm; obtain ⟨hc9, hm⟩ | ⟨hc9, hm⟩ := ite_or hx4
           ·refine wl_skip rfl rfl rfl rfl (ne_ft hc9) F rfl rfl ?_; clear F a; intro a F
            refine wl_skip rfl rfl rfl rfl (ne_ft hc9) F rfl rfl ?_; clear F a; intro a F
            refine wl_skip rfl rfl rfl rfl (ne_ft hc9) F rfl rfl ?_; clear F a; intro a F
            refine wl_skip rfl rfl rfl rfl (ne_ft hc9) F rfl rfl ?_; clear F a; intro a F
            refine wl_skip rfl rfl rfl rfl (ne_ft hc9) F rfl rfl ?_; clear F a; intro a F
            refine wE (ev_pickT rfl hc9 rfl) F S rfl fun a F=>?_
            obtain rfl := sinj hm
            refine wpList_nil (then_n ?_); exact ⟨g8, F.sub ⟨rfl, rfl, trivial⟩, (Le.refl _), S⟩
           ·refine wl_ev (wg F rfl rfl rfl rfl hc9) (ev_fieldAddr' tu35 tf35_1 (z := 0) ts33 rfl ⟨_, rfl⟩ rfl) F S rfl rfl ?_; clear F a; intro a F
            refine wl_ev (wg F rfl rfl rfl rfl hc9) (ev_load1 tu33 rfl rfl (box_ptr (cells := [vv_1]) 1 rfl 1 rfl (lb rfl))) F S rfl rfl ?_; clear F a; intro a F
            refine wl_ev (wg F rfl rfl rfl rfl hc9) (ev_fieldAddr' tu35 tf35_1 (z := 0) ts33 rfl ⟨_, rfl⟩ rfl) F S rfl rfl ?_; clear F a; intro a F
            refine wl_ev (wg F rfl rfl rfl rfl hc9) (ev_load1 tu33 rfl rfl (box_ptr (cells := [v2]) 0 rfl 1 rfl (lb rfl))) F S rfl rfl ?_; clear F a; intro a F
            obtain ⟨y7, hy7, hm⟩ := bind_some hm
            refine wl_call0 (wg F rfl rfl rfl rfl hc9) rfl F rfl (multivalue_covers_ok (fr := (fl [[bx b2 #[.i6 y5.Value, v2] 35], [bx b1 #[.i6 v_.Value, vv_1] 35]] fr)) v_.Vector vv_1 (hv_1.mono (((l1.trans l2).trans l7).trans l8)) y5.Vector v2 (h2.mono l8) S hy7) rfl tc32 rfl rfl ?_; clear F a S
            rintro _ a w ⟨g10, l10, S, rfl⟩ F; replace S : St g10 [[bx b2 #[.i6 y5.Value, v2] 35], [bx b1 #[.i6 v_.Value, vv_1] 35]] fr w := S
            refine wE (ev_pickF rfl hc9 rfl) F S rfl fun a F=>?_
            obtain rfl := sinj hm
            refine wpList_nil (then_n ?_); exact ⟨g10, F.sub ⟨rfl, rfl, trivial⟩, l10, S⟩
          clear F S; rintro a w ⟨g9, F, l9, S⟩
          refine wE (ev_assign rfl) F S rfl fun a F=>?_
          refine wpList_nil ?_
          refine then_n ?_
          refine wp_ret ?_
          refine post_r _ F rfl (ar_cons (resT rfl) ar_nil) ?_
          refine ⟨_, rfl, ?_⟩; clear F a; intro a F
          replace F : Fr 19 a [(16, .bool x7), (5, .i6 x5), (8, .i6 x5), (7, .i6 (earlier.length : Int)), (0, vearlier1), (1, .func (.func 40) #[] #[bp b1 0])] := F
          refine wpList_nil ?_
          refine then_n ?_
          obtain ⟨hc10, hm⟩ | ⟨hc10, hm⟩ := ite_or hm
          ·refine wp_condT F rfl hc10 ?_
           refine wp_seq ?_
           refine wp_region_lit ?_
           refine wE (ev_move rfl) F S rfl fun a F=>?_
           refine wE (ev_assign rfl) F S rfl fun a F=>?_
           refine wpList_nil ?_
           refine then_n ?_
           refine wp_ret ?_
           refine inb_r ?_
           refine then_r ?_
           refine then_r ?_
           refine inb_r ?_
           refine then_r ?_
           obtain rfl := sinj hm
           obtain rfl := hfin1 _ rfl
           clear hm
           have hm : (multivalue_check.j2 x5 : Option Int) = some _ := hmo1
           refine post_r _ F rfl (ar_cons (resT rfl) ar_nil) ?_
           replace S : St g9 [] fr w := St.tail [] _ S
           exact ⟨_, rfl, ⟨x5, g9, rfl, ((l7.trans l8).trans l9), S, hm⟩⟩
          ·refine wp_condF F rfl hc10 ?_
           refine wp_skip ?_
           refine inb_n ?_
           refine then_n ?_
           refine wp_region_lit ?_
           obtain ⟨z2, hz2, hm⟩ := bind_some hm
           refine wE (ev_int rfl rfl (bo_add hz2)) F S rfl fun a F=>?_
           refine wE (ev_move rfl) F S rfl fun a F=>?_
           refine wpList_nil ?_
           refine then_n ?_
           obtain rfl := sinj hm
           refine ⟨_, rfl, ?_⟩
           replace S : St g9 [[bx b1 #[.i6 v_.Value, vv_1] 35]] fr w := St.tail [[bx b1 #[.i6 v_.Value, vv_1] 35]] _ (S.frontC 1 rfl)
           exact ⟨g9, F.sub ⟨rfl, rfl, rfl, rfl, trivial⟩, ((l7.trans l8).trans l9), S⟩
         ·refine wp_condF F rfl hc8 ?_
          refine wp_exit ?_
          refine then_e ?_
          refine then_e ?_
          refine inb_x ?_
          refine then_n ?_
          obtain rfl := sinj hm
          obtain rfl := hfin1 _ rfl
          clear hm
          have hm : (multivalue_check.j3 : Option Int) = some _ := hmo1
          replace S : St g7 [] fr w := St.tail [] _ S
          exact ⟨g7, F.sub trivial, l7, S, hm⟩
       ·clear F S hm; rintro a w ⟨g6, F, l6, S, hm⟩
        refine wp_seq ?_
        refine wp_region_lit ?_
        refine wE (ev_assign rfl) F S rfl fun a F=>?_
        refine wpList_nil ?_
        refine then_n ?_
        refine wp_ret ?_
        refine post_r _ F rfl (ar_cons (resT rfl) ar_nil) ?_
        exact ⟨_, rfl, ⟨(-1), g6, rfl, l6, S, hm⟩⟩
      ·clear F S hm; rintro _ a w ⟨x4, g5, rfl, l5, S, hm⟩ F
       replace F := F.sub (e' := [(7, .i6 x4)]) ⟨rfl, trivial⟩
       refine wE (ev_int rfl rfl (bo_geq _ _ _ _)) F S rfl fun a F=>?_
       refine wE (ev_assign rfl) F S rfl fun a F=>?_
       refine wpList_nil ?_
       refine then_n ?_
       refine wp_ret ?_
       refine post_r _ F rfl (ar_cons (resT rfl) ar_nil) ?_
       refine ⟨_, rfl, ?_⟩; clear F a; intro a F
       replace F : Fr 42 a [(41, .bool (decide (x4 ≥ 0)))] := F
       refine wpList_nil ?_
       refine then_n ?_
       obtain ⟨hc7, hm⟩ | ⟨hc7, hm⟩ := ite_or hm
       ·refine wp_condT F rfl hc7 ?_
        refine wp_seq ?_
        refine wp_region_lit ?_
        refine wE (ev_assign rfl) F S rfl fun a F=>?_
        refine wpList_nil ?_
        refine then_n ?_
        refine wp_ret ?_
        refine then_r ?_
        obtain rfl := sinj hm
        refine post_r _ F rfl (ar_cons (resT rfl) ar_nil) ?_
        exact ⟨_, rfl, g5, ((l1.trans l2).trans l5), S, rfl⟩
       ·refine wp_condF F rfl hc7 ?_
        refine wp_skip ?_
        refine then_n ?_
        refine wp_seq ?_
        refine wp_region_lit ?_
        refine wE (ev_assign rfl) F S rfl fun a F=>?_
        refine wpList_nil ?_
        refine then_n ?_
        refine wp_ret ?_
        obtain rfl := sinj hm
        refine post_r _ F rfl (ar_cons (resT rfl) ar_nil) ?_
        exact ⟨_, rfl, g5, ((l1.trans l2).trans l5), S, rfl⟩

theorem multivalue_Validate_ok {g : Gh} {fr : Hl} {w : World} {r : Fault} (values : (List VersionedValue)) (vvalues1 : Value) (hvalues1 : RepSl g values vvalues1) (S : St g [] fr w) (hm : multivalue_Validate values = some r) :
  Calls Try.prog 13 [vvalues1].toArray w (fun en w' => ∃ v, en = .returned v ∧ ∃ (g' : Gh), Le g g' ∧ St g' [] fr w' ∧ .agg #[.i6 r.Code, .i6 r.Index] = v) := by
 unfold multivalue_Validate at hm
 refine calls_enter (fn := Try.f13) Try.func13 rfl Try.ntmps13 (lb rfl) ?_
 intro a F
 replace F : Fr 29 a [(0, vvalues1)] := F
 refine wp_seq ?_
 refine wp_region_lit ?_
 refine wl_alloc (wn rfl) rfl tz24 (cs := [.i6 0, .i6 0]) rfl F S rfl rfl ?_; clear F a S; rintro b1 a w F S
 refine wpList_nil ?_
 refine then_n ?_
 refine wp_seq ?_
 refine wp_seq ?_
 refine wp_region_lit ?_
 refine wE (ev_move rfl) F S rfl fun a F=>?_
 refine wE (ev_lenSh hvalues1 rfl tu22) F S rfl fun a F=>?_
 refine wE (ev_int rfl rfl (bo_gtr _ _ _ _)) F S rfl fun a F=>?_
 refine wpList_nil ?_
 refine then_n ?_
 obtain ⟨hc1, hm⟩ | ⟨hc1, hm⟩ := ite_or hm
 ·refine wp_condT F rfl hc1 ?_
  refine wp_seq ?_
  refine wp_region_lit ?_
  refine wE (ev_build (parts := [(0, .const (.i6 2)), (1, .const (.i6 (-1)))]) (vs := [(0, .i6 2), (1, .i6 (-1))]) rfl (fun w => tb24_0_1 2 (-1) w)) F S rfl fun a F=>?_
  refine wl_storeC (wn rfl) rfl F S rfl rfl (vs := [.i6 2, .i6 (-1)]) rfl ts24 (one_cons rfl (one_cons rfl one_nil)) (k := 0) rfl (lb rfl) (c' := #[.i6 2, .i6 (-1)]) rfl rfl ?_; clear S; intro w S
  refine wpList_nil ?_
  refine then_n ?_
  refine wp_ret ?_
  refine then_r ?_
  obtain rfl := sinj hm
  refine post_r _ F rfl (ar_cons (resA rfl tu24 rfl (box_ptr (cells := [.i6 2, .i6 (-1)]) 0 rfl 0 rfl (lb rfl) w S) ts24) ar_nil) ?_
  replace S : St g [] fr w := St.tail [] _ S
  exact ⟨_, rfl, g, (Le.refl _), S, rfl⟩
 ·refine wp_condF F rfl hc1 ?_
  refine wp_skip ?_
  refine then_n ?_
  refine wp_cut (fun a w => ∃ (g1 : Gh), Fr 29 a [(2, bp b1 0)] ∧ Le g g1 ∧ St g1 [[bx b1 #[.i6 0, .i6 0] 24]] fr w ∧ multivalue_Validate.j1 = some r) ?_ ?_
  ·refine wp_seq ?_
   refine wp_region_lit ?_
   refine wE (ev_move rfl) F S rfl fun a F=>?_
   refine wE (ev_lenSh hvalues1 rfl tu22) F S rfl fun a F=>?_
   refine wE (ev_move rfl) F S rfl fun a F=>?_
   refine wpList_nil ?_
   refine then_n ?_
   refine wp_block ?_
   obtain ⟨r1, hr1, hm⟩ := bind_some hm
   have hmo1 := hm; clear hm
   refine wp_iter (σ := Int) (ρ := Fault ⊕ Unit) (m := fun s => multivalue_Validate.l1 values s) (I := fun x1 a w => ∃ (g2 : Gh), Fr 29 a [(12, .i6 x1), (11, .i6 (values.length : Int)), (10, vvalues1), (2, bp b1 0), (0, vvalues1)] ∧ Le g g2 ∧ St g2 [[bx b1 #[.i6 0, .i6 0] 24]] fr w) hr1 ?_ ?_
   ·exact ⟨g, F.sub ⟨rfl, rfl, rfl, rfl, rfl, trivial⟩, (Le.refl _), S⟩
   ·clear F S; rintro x1 a w x2 ⟨g2, F, l2, S⟩ hx1 hfin1
    have hm : multivalue_Validate.l1 values x1 = some x2 := hx1; clear hx1
    unfold multivalue_Validate.l1 at hm
    refine wp_seq ?_
    refine wp_region_lit ?_
    refine wE (ev_int rfl rfl (bo_lss _ _ _ _)) F S rfl fun a F=>?_
    refine wpList_nil ?_
    refine then_n ?_
    refine wp_seq ?_
    obtain ⟨hc2, hm⟩ | ⟨hc2, hm⟩ := ite_or hm
    ·refine wp_condT F rfl hc2 ?_
     refine wp_skip ?_
     refine then_n ?_
     refine wp_seq ?_
     refine wp_block ?_
     refine wp_seq ?_
     refine wp_region_lit ?_
     refine wE (ev_move rfl) F S rfl fun a F=>?_
     obtain ⟨y1, hy1, hm⟩ := bind_some hm
     obtain ⟨cs1, hr2, hp1⟩ := elemS (hvalues1.mono l2) hy1
     obtain ⟨v1, rfl, h1⟩ := rep_VersionedValue hr2
     refine wE (ev_idxS (hvalues1.mono l2) hy1 tu22 ts35 rfl rfl) F S rfl fun a F=>?_
     refine wE (ev_loadA tu35 rfl (cs := [.i6 y1.Value, v1]) ts35 rfl (ptr_mono (cks := [[bx b1 #[.i6 0, .i6 0] 24]]) (fr := fr) hp1 (Le.refl _))) F S rfl fun a F=>?_
     refine wl_alloc (wn rfl) rfl tz35 (cs := [.i6 0, nilS]) rfl F S rfl rfl ?_; clear F a S; rintro b2 a w F S
     refine wE (ev_assign rfl) F S rfl fun a F=>?_
     refine wl_storeC (wn rfl) rfl F S rfl rfl (vs := [.i6 y1.Value, v1]) rfl ts35 (one_cons rfl (one_cons h1.one one_nil)) (k := 0) rfl (lb rfl) (c' := #[.i6 y1.Value, v1]) rfl rfl ?_; clear S; intro w S
     refine wpList_nil ?_
     refine then_n ?_
     refine wp_seq ?_
     refine wp_quiet mo (by kernel_rfl) S ?_
     refine wq_ev (wn rfl) (ev_loadA tu35 rfl (cs := [.i6 y1.Value, v1]) ts35 rfl (box_ptr (cells := [.i6 y1.Value, v1]) 0 rfl 0 rfl (lb rfl))) F rfl rfl ?_; clear F a; intro a F
     refine wq_ev (wn rfl) (ev_move rfl) F rfl rfl ?_; clear F a; intro a F
     refine wq_ev (wn rfl) (ev_move rfl) F rfl rfl ?_; clear F a; intro a F
     obtain ⟨y2, hy2, hm⟩ := bind_some hm
     refine wq_cutS (wn rfl) rfl (hvalues1.mono l2) hy2 tu22 ts35 rfl (bnd0 _) (bndV rfl) F rfl rfl ?_; clear F a; rintro v2 h2 a F
     obtain ⟨y3, hy3, hm⟩ := bind_some hm
     refine wq_call (wn rfl) rfl (xs := [.tmp 17, .tmp 20]) (vs := [.agg #[.i6 y1.Value, v1], v2]) (cap := []) F rfl rfl tc28 (v := .i6 y3) (fun w S => (multivalue_check_ok (g := g2) (fr := (fl [[bx b2 #[.i6 y1.Value, v1] 35], [bx b1 #[.i6 0, .i6 0] 24]] fr)) (w := w) y1 v1 h1 y2 v2 h2 S hy3).mono (by rintro en w' ⟨_, rfl, g2, l2, S2, rfl⟩; exact ⟨rfl, S2.weak l2⟩)) rfl rfl ?_; clear F a; intro a F
     refine wq_ev (wn rfl) (ev_assign rfl) F rfl rfl ?_; clear F a; intro a F
     refine wq_nil ?_; clear S; intro w S
     refine then_n ?_
     refine wp_seq ?_
     refine wp_region_lit ?_
     refine wE (ev_move rfl) F S rfl fun a F=>?_
     refine wE (ev_int rfl rfl (bo_neq _ _ _ _)) F S rfl fun a F=>?_
     refine wpList_nil ?_
     refine then_n ?_
     obtain ⟨hc3, hm⟩ | ⟨hc3, hm⟩ := ite_or hm
     ·refine wp_condT F rfl hc3 ?_
      refine wp_seq ?_
      refine wp_region_lit ?_
      refine wE (ev_move rfl) F S rfl fun a F=>?_
      refine wE (ev_move rfl) F S rfl fun a F=>?_
      refine wE (ev_build (parts := [(0, .tmp 24), (1, .tmp 25)]) (vs := [(0, .i6 y3), (1, .i6 x1)]) rfl (fun w => tb24_0_1 y3 x1 w)) F S rfl fun a F=>?_
      refine wl_storeC (wn rfl) rfl F S rfl rfl (vs := [.i6 y3, .i6 x1]) rfl ts24 (one_cons rfl (one_cons rfl one_nil)) (k := 1) rfl (lb rfl) (c' := #[.i6 y3, .i6 x1]) rfl rfl ?_; clear S; intro w S
      refine wpList_nil ?_
      refine then_n ?_
      refine wp_ret ?_
      refine inb_r ?_
      refine then_r ?_
      refine then_r ?_
      refine inb_r ?_
      refine then_r ?_
      obtain rfl := sinj hm
      obtain rfl := hfin1 _ rfl
      clear hm
      have hm : (some ({ Code := y3, Index := x1 } : Fault) : Option Fault) = some _ := hmo1
      obtain rfl := sinj hm
      refine post_r _ F rfl (ar_cons (resA rfl tu24 rfl (box_ptr (cells := [.i6 y3, .i6 x1]) 1 rfl 0 rfl (lb rfl) w S) ts24) ar_nil) ?_
      replace S : St g2 [] fr w := St.tail [] _ S
      exact ⟨_, rfl, g2, l2, S, rfl⟩
     ·refine wp_condF F rfl hc3 ?_
      refine wp_skip ?_
      refine inb_n ?_
      refine then_n ?_
      refine wp_region_lit ?_
      obtain ⟨z1, hz1, hm⟩ := bind_some hm
      refine wE (ev_int rfl rfl (bo_add hz1)) F S rfl fun a F=>?_
      refine wE (ev_move rfl) F S rfl fun a F=>?_
      refine wpList_nil ?_
      refine then_n ?_
      obtain rfl := sinj hm
      refine ⟨_, rfl, ?_⟩
      replace S : St g2 [[bx b1 #[.i6 0, .i6 0] 24]] fr w := St.tail [[bx b1 #[.i6 0, .i6 0] 24]] _ (S.frontC 1 rfl)
      exact ⟨g2, F.sub ⟨rfl, rfl, rfl, rfl, rfl, trivial⟩, l2, S⟩
    ·refine wp_condF F rfl hc2 ?_
     refine wp_exit ?_
     refine then_e ?_
     refine then_e ?_
     refine inb_x ?_
     refine then_n ?_
     obtain rfl := sinj hm
     obtain rfl := hfin1 _ rfl
     clear hm
     have hm : (multivalue_Validate.j1 : Option Fault) = some _ := hmo1
     exact ⟨g2, F.sub ⟨rfl, trivial⟩, l2, S, hm⟩
  ·clear F S hm; rintro a w ⟨g1, F, l1, S, hm⟩
   refine wp_seq ?_
   refine wp_region_lit ?_
   refine wE (ev_build (parts := []) (vs := []) rfl (fun w => tb24_  w)) F S rfl fun a F=>?_
   refine wl_storeC (wn rfl) rfl F S rfl rfl (vs := [.i6 0, .i6 0]) rfl ts24 (one_cons rfl (one_cons rfl one_nil)) (k := 0) rfl (lb rfl) (c' := #[.i6 0, .i6 0]) rfl rfl ?_; clear S; intro w S
   refine wpList_nil ?_
   refine then_n ?_
   refine wp_ret ?_
   obtain rfl := sinj hm
   refine post_r _ F rfl (ar_cons (resA rfl tu24 rfl (box_ptr (cells := [.i6 0, .i6 0]) 0 rfl 0 rfl (lb rfl) w S) ts24) ar_nil) ?_
   replace S : St g1 [] fr w := St.tail [] _ S
   exact ⟨_, rfl, g1, l1, S, rfl⟩

theorem multivalue_Write_ok {g : Gh} {fr : Hl} {w : World} {r : (List VersionedValue) × Fault} (values : (List VersionedValue)) (vvalues1 : Value) (hvalues1 : RepSl g values vvalues1) (replica : Int) (value : Int) (S : St g [] fr w) (hm : multivalue_Write values replica value = some r) :
  Calls Try.prog 9 [vvalues1, .i6 replica, .i6 value].toArray w (fun en w' => ∃ v, en = .returned v ∧ ∃ (g' : Gh) (v1 : Value) (c1 : Hl), Le g g' ∧ St g' [c1] fr w' ∧ OwnS g' r.1 v1 c1 ∧ .tuple #[v1, .agg #[.i6 r.2.Code, .i6 r.2.Index]] = v) := by
 unfold multivalue_Write at hm
 refine calls_enter (fn := Try.f9) Try.func9 rfl Try.ntmps9 (lb rfl) ?_
 intro a F
 replace F : Fr 74 a [(0, vvalues1), (1, .i6 replica), (2, .i6 value)] := F
 refine wp_seq ?_
 refine wp_region_lit ?_
 refine wE (ev_assign rfl) F S rfl fun a F=>?_
 refine wl_alloc (wn rfl) rfl tz24 (cs := [.i6 0, .i6 0]) rfl F S rfl rfl ?_; clear F a S; rintro b1 a w F S
 refine wpList_nil ?_
 refine then_n ?_
 refine wp_seq ?_
 refine wp_seq ?_
 refine wp_region_lit ?_
 refine wE (ev_move rfl) F S rfl fun a F=>?_
 obtain ⟨y1, hy1, hm⟩ := bind_some hm
 refine wl_call0 (wn rfl) rfl F rfl (multivalue_Validate_ok (fr := (fl [[bx b1 #[.i6 0, .i6 0] 24]] fr)) values vvalues1 hvalues1 S hy1) rfl tc13 rfl rfl ?_; clear F a S
 rintro _ a w ⟨g1, l1, S, rfl⟩ F; replace S : St g1 [[bx b1 #[.i6 0, .i6 0] 24]] fr w := S
 refine wl_alloc (wn rfl) rfl tz24 (cs := [.i6 0, .i6 0]) rfl F S rfl rfl ?_; clear F a S; rintro b2 a w F S
 refine wl_storeC (wn rfl) rfl F S rfl rfl (vs := [.i6 y1.Code, .i6 y1.Index]) rfl ts24 (one_cons rfl (one_cons rfl one_nil)) (k := 0) rfl (lb rfl) (c' := #[.i6 y1.Code, .i6 y1.Index]) rfl rfl ?_; clear S; intro w S
 refine wpList_nil ?_
 refine then_n ?_
 refine wp_seq ?_
 refine wp_region_lit ?_
 refine wE (ev_loadA tu24 rfl (cs := [.i6 y1.Code, .i6 y1.Index]) ts24 rfl (box_ptr (cells := [.i6 y1.Code, .i6 y1.Index]) 0 rfl 0 rfl (lb rfl))) F S rfl fun a F=>?_
 refine wE (ev_build (parts := []) (vs := []) rfl (fun w => tb24_  w)) F S rfl fun a F=>?_
 refine wE (ev_neS tu24 tqa24 tqb24 tqc24 (xs := [.i6 y1.Code, .i6 y1.Index]) (ys := [.i6 0, .i6 0]) rfl rfl ⟨_, _, rfl, by decide, ⟨_, _, rfl, rfl, leaf_int tu3⟩, ⟨_, _, rfl, by decide, ⟨_, _, rfl, rfl, leaf_int tu3⟩, rfl⟩⟩) F S rfl fun a F=>?_
 refine wpList_nil ?_
 refine then_n ?_
 obtain ⟨hc1, hm⟩ | ⟨hc1, hm⟩ := ite_or hm
 ·refine wp_condT F rfl hc1 ?_
  refine wp_seq ?_
  refine wp_dv [] mo S ?_; clear S; intro ok1 w S
  refine dv_ev ok1 0 rfl (ev_loadA tu24 rfl (cs := [.i6 y1.Code, .i6 y1.Index]) ts24 rfl (box_ptr (cells := [.i6 y1.Code, .i6 y1.Index]) 0 rfl 0 rfl (lb rfl))) F S rfl fun a F=>?_
  refine dv_et ok1 1 rfl (ev_assign rfl) F rfl fun a F=>?_
  refine dv_op ok1 2 rfl [] ?_
  refine wl_storeC (wn rfl) rfl F S rfl rfl (vs := [.i6 y1.Code, .i6 y1.Index]) rfl ts24 (one_cons rfl (one_cons rfl one_nil)) (k := 1) rfl (lb rfl) (c' := #[.i6 y1.Code, .i6 y1.Index]) rfl rfl ?_; clear S; intro w S
  refine dv_nx trivial ?_
  refine dv_fin ok1 ?_
  refine then_n ?_
  refine wp_ret ?_
  refine then_r ?_
  obtain rfl := sinj hm
  replace S : St g1 [[], [bx b2 #[.i6 y1.Code, .i6 y1.Index] 24], [bx b1 #[.i6 y1.Code, .i6 y1.Index] 24]] fr w := S
  refine post_r _ F rfl (ar_cons (resT rfl) (ar_cons (resA rfl tu24 rfl (box_ptr (cells := [.i6 y1.Code, .i6 y1.Index]) 2 rfl 0 rfl (lb rfl) w S) ts24) ar_nil)) ?_
  replace S : St g1 [[]] fr w := St.tail [[]] _ (S.frontC 0 rfl)
  exact ⟨_, rfl, g1, (nilS), [], l1, S, (OwnS.nil _), rfl⟩
 ·refine wp_condF F rfl hc1 ?_
  refine wp_skip ?_
  refine then_n ?_
  refine wp_seq ?_
  refine wp_seq ?_
  refine wp_region_lit ?_
  refine wE (ev_move rfl) F S rfl fun a F=>?_
  refine wE (ev_int rfl rfl (bo_lss _ _ _ _)) F S rfl fun a F=>?_
  refine wE (ev_move rfl) F S rfl fun a F=>?_
  obtain ⟨x1, hx1, hm⟩ := bind_some hm
  refine wl_cut 3 (fun a w' => w = w' ∧ Fr 74 a [(25, .bool x1), (7, bp b1 0), (0, vvalues1), (1, .i6 replica), (2, .i6 value)]) ?_ ?_
  ·clear hm; obtain ⟨hc2, hm⟩ | ⟨hc2, hm⟩ := ite_or hx1
   ·refine wl_skip rfl rfl rfl rfl (ne_ft hc2) F rfl rfl ?_; clear F a; intro a F
    refine wl_skip rfl rfl rfl rfl (ne_ft hc2) F rfl rfl ?_; clear F a; intro a F
    refine wE (ev_pickT rfl hc2 rfl) F S rfl fun a F=>?_
    obtain rfl := sinj hm
    refine wpList_nil (then_n ?_); exact ⟨rfl, F.sub ⟨rfl, rfl, rfl, rfl, rfl, trivial⟩⟩
   ·refine wl_ev (wg F rfl rfl rfl rfl hc2) (ev_move rfl) F S rfl rfl ?_; clear F a; intro a F
    refine wl_ev (wg F rfl rfl rfl rfl hc2) (ev_int rfl rfl (bo_geq _ _ _ _)) F S rfl rfl ?_; clear F a; intro a F
    refine wE (ev_pickF rfl hc2 rfl) F S rfl fun a F=>?_
    obtain rfl := sinj hm
    refine wpList_nil (then_n ?_); exact ⟨rfl, F.sub ⟨rfl, rfl, rfl, rfl, rfl, trivial⟩⟩
  clear F; rintro a w' ⟨rfl, F⟩
  refine wpList_nil ?_
  refine then_n ?_
  obtain ⟨hc3, hm⟩ | ⟨hc3, hm⟩ := ite_or hm
  ·refine wp_condT F rfl hc3 ?_
   refine wp_seq ?_
   refine wp_region_lit ?_
   refine wE (ev_build (parts := [(0, .const (.i6 3)), (1, .const (.i6 (-2)))]) (vs := [(0, .i6 3), (1, .i6 (-2))]) rfl (fun w => tb24_0_1 3 (-2) w)) F S rfl fun a F=>?_
   refine wE (ev_assign rfl) F S rfl fun a F=>?_
   refine wl_storeC (wn rfl) rfl F S rfl rfl (vs := [.i6 3, .i6 (-2)]) rfl ts24 (one_cons rfl (one_cons rfl one_nil)) (k := 1) rfl (lb rfl) (c' := #[.i6 3, .i6 (-2)]) rfl rfl ?_; clear S; intro w S
   refine wpList_nil ?_
   refine then_n ?_
   refine wp_ret ?_
   refine then_r ?_
   obtain rfl := sinj hm
   replace S : St g1 [[], [bx b2 #[.i6 y1.Code, .i6 y1.Index] 24], [bx b1 #[.i6 3, .i6 (-2)] 24]] fr w := S
   refine post_r _ F rfl (ar_cons (resT rfl) (ar_cons (resA rfl tu24 rfl (box_ptr (cells := [.i6 3, .i6 (-2)]) 2 rfl 0 rfl (lb rfl) w S) ts24) ar_nil)) ?_
   replace S : St g1 [[]] fr w := St.tail [[]] _ (S.frontC 0 rfl)
   exact ⟨_, rfl, g1, (nilS), [], l1, S, (OwnS.nil _), rfl⟩
  ·refine wp_condF F rfl hc3 ?_
   refine wp_skip ?_
   refine then_n ?_
   refine wp_seq ?_
   refine wp_seq ?_
   refine wp_region_lit ?_
   refine wE (ev_move rfl) F S rfl fun a F=>?_
   obtain ⟨y2, hy2, hm⟩ := bind_some hm
   refine wl_call0 (wn rfl) rfl F rfl (multivalue_inRange_ok (fr := (fl [[bx b2 #[.i6 y1.Code, .i6 y1.Index] 24], [bx b1 #[.i6 0, .i6 0] 24]] fr)) value S hy2) rfl tc18 rfl rfl ?_; clear F a S
   rintro _ a w ⟨g2, l2, S, rfl⟩ F; replace S : St g2 [[bx b2 #[.i6 y1.Code, .i6 y1.Index] 24], [bx b1 #[.i6 0, .i6 0] 24]] fr w := S
   refine wE (ev_not rfl) F S rfl fun a F=>?_
   refine wpList_nil ?_
   refine then_n ?_
   obtain ⟨hc4, hm⟩ | ⟨hc4, hm⟩ := ite_or hm
   ·refine wp_condT F rfl hc4 ?_
    refine wp_seq ?_
    refine wp_region_lit ?_
    refine wE (ev_build (parts := [(0, .const (.i6 3)), (1, .const (.i6 (-3)))]) (vs := [(0, .i6 3), (1, .i6 (-3))]) rfl (fun w => tb24_0_1 3 (-3) w)) F S rfl fun a F=>?_
    refine wE (ev_assign rfl) F S rfl fun a F=>?_
    refine wl_storeC (wn rfl) rfl F S rfl rfl (vs := [.i6 3, .i6 (-3)]) rfl ts24 (one_cons rfl (one_cons rfl one_nil)) (k := 1) rfl (lb rfl) (c' := #[.i6 3, .i6 (-3)]) rfl rfl ?_; clear S; intro w S
    refine wpList_nil ?_
    refine then_n ?_
    refine wp_ret ?_
    refine then_r ?_
    obtain rfl := sinj hm
    replace S : St g2 [[], [bx b2 #[.i6 y1.Code, .i6 y1.Index] 24], [bx b1 #[.i6 3, .i6 (-3)] 24]] fr w := S
    refine post_r _ F rfl (ar_cons (resT rfl) (ar_cons (resA rfl tu24 rfl (box_ptr (cells := [.i6 3, .i6 (-3)]) 2 rfl 0 rfl (lb rfl) w S) ts24) ar_nil)) ?_
    replace S : St g2 [[]] fr w := St.tail [[]] _ (S.frontC 0 rfl)
    exact ⟨_, rfl, g2, (nilS), [], (l1.trans l2), S, (OwnS.nil _), rfl⟩
   ·refine wp_condF F rfl hc4 ?_
    refine wp_skip ?_
    refine then_n ?_
    refine wp_seq ?_
    refine wp_region_lit ?_
    obtain ⟨y3, hy3, hm⟩ := bind_some hm
    refine wl_make (wn rfl) rfl tu33 te3 (fun g => (show Rep.rep g (0 : Int) _ from rfl)) rfl hy3 (by decide) F S rfl rfl ?_; clear F a S; rintro v1 c1 a w h1 F S
    refine wE (ev_assign rfl) F S rfl fun a F=>?_
    refine wpList_nil ?_
    refine then_n ?_
    refine wp_cut (fun a w => ∃ (x2 : List Int) (v2 : Value) (c2 : Hl) (g3 : Gh), Fr 74 a [(9, v2), (7, bp b1 0), (1, .i6 replica), (2, .i6 value)] ∧ Le g2 g3 ∧ St g3 [c2, [bx b1 #[.i6 0, .i6 0] 24]] fr w ∧ OwnS g3 x2 v2 c2 ∧ multivalue_Write.j1 replica value x2 = some r) ?_ ?_
    ·refine wp_seq ?_
     refine wp_region_lit ?_
     refine wE (ev_move rfl) F S rfl fun a F=>?_
     refine wE (ev_lenSh hvalues1 rfl tu22) F S rfl fun a F=>?_
     refine wE (ev_move rfl) F S rfl fun a F=>?_
     refine wpList_nil ?_
     refine then_n ?_
     refine wp_block ?_
     obtain ⟨r1, hr3, hm⟩ := bind_some hm
     have hmo1 := hm; clear hm
     refine wp_iter (σ := Int × (List Int)) (ρ := (List Int)) (m := fun s => multivalue_Write.l1 values s.1 s.2) (I := fun s a w => match s with | (x3, x4) => ∃ (v4 : Value) (c5 : Hl) (g5 : Gh), Fr 74 a [(34, .i6 x3), (33, .i6 (values.length : Int)), (32, vvalues1), (9, v4), (7, bp b1 0), (1, .i6 replica), (2, .i6 value)] ∧ Le g2 g5 ∧ St g5 [c5, [bx b1 #[.i6 0, .i6 0] 24]] fr w ∧ OwnS g5 x4 v4 c5) hr3 ?_ ?_
     ·dsimp only
      replace S : St g2 [c1, [bx b1 #[.i6 0, .i6 0] 24]] fr w := St.tail [c1, [bx b1 #[.i6 0, .i6 0] 24]] _ ((S.frontC 2 rfl).frontC 1 rfl)
      exact ⟨v1, c1, g2, F.sub ⟨rfl, rfl, rfl, rfl, rfl, rfl, rfl, trivial⟩, (Le.refl _), S, h1⟩
     ·clear F S; rintro ⟨x3, x4⟩ a w x5 ⟨v4, c5, g5, F, l5, S, h6⟩ hx2 hfin1
      have hm : multivalue_Write.l1 values x3 x4 = some x5 := hx2; clear hx2
      unfold multivalue_Write.l1 at hm
      refine wp_seq ?_
      refine wp_region_lit ?_
      refine wE (ev_int rfl rfl (bo_lss _ _ _ _)) F S rfl fun a F=>?_
      refine wpList_nil ?_
      refine then_n ?_
      refine wp_seq ?_
      obtain ⟨hc6, hm⟩ | ⟨hc6, hm⟩ := ite_or hm
      ·refine wp_condT F rfl hc6 ?_
       refine wp_skip ?_
       refine then_n ?_
       refine wp_cut (fun a w => ∃ (x6 : List Int) (v5 : Value) (c6 : Hl) (g6 : Gh), Fr 74 a [(34, .i6 x3), (33, .i6 (values.length : Int)), (32, vvalues1), (9, v5), (7, bp b1 0), (1, .i6 replica), (2, .i6 value)] ∧ Le g5 g6 ∧ St g6 [c6, [bx b1 #[.i6 0, .i6 0] 24]] fr w ∧ OwnS g6 x6 v5 c6 ∧ multivalue_Write.j2 x3 x6 = some x5) ?_ ?_
       ·refine wp_block ?_
        refine wp_seq ?_
        refine wp_region_lit ?_
        obtain ⟨y8, hy8, hm⟩ := bind_some hm
        obtain ⟨cs3, hr4, hp1⟩ := elemS (hvalues1.mono ((l1.trans l2).trans l5)) hy8
        obtain ⟨v6, rfl, h8⟩ := rep_VersionedValue hr4
        refine wE (ev_idxS (hvalues1.mono ((l1.trans l2).trans l5)) hy8 tu22 ts35 rfl rfl) F S rfl fun a F=>?_
        refine wE (ev_loadA tu35 rfl (cs := [.i6 y8.Value, v6]) ts35 rfl (ptr_mono (cks := [c5, [bx b1 #[.i6 0, .i6 0] 24]]) (fr := fr) hp1 (Le.refl _))) F S rfl fun a F=>?_
        refine wl_alloc (wn rfl) rfl tz35 (cs := [.i6 0, nilS]) rfl F S rfl rfl ?_; clear F a S; rintro b3 a w F S
        refine wl_storeC (wn rfl) rfl F S rfl rfl (vs := [.i6 y8.Value, v6]) rfl ts35 (one_cons rfl (one_cons h8.one one_nil)) (k := 0) rfl (lb rfl) (c' := #[.i6 y8.Value, v6]) rfl rfl ?_; clear S; intro w S
        refine wpList_nil ?_
        refine then_n ?_
        refine wp_seq ?_
        refine wp_region_lit ?_
        refine wE (ev_fieldAddr' tu35 tf35_1 (z := 0) ts33 rfl ⟨_, rfl⟩ rfl) F S rfl fun a F=>?_
        refine wE (ev_load1 tu33 rfl rfl (box_ptr (cells := [v6]) 0 rfl 1 rfl (lb rfl))) F S rfl fun a F=>?_
        refine wE (ev_lenSh h8 rfl tu33) F S rfl fun a F=>?_
        refine wE (ev_move rfl) F S rfl fun a F=>?_
        refine wpList_nil ?_
        refine then_n ?_
        refine wp_cut1 (fun a w => ∃ (x7 : List Int) (v7 : Value) (c7 : Hl) (g7 : Gh), Fr 74 a [(34, .i6 x3), (33, .i6 (values.length : Int)), (32, vvalues1), (9, v7), (7, bp b1 0), (1, .i6 replica), (2, .i6 value)] ∧ Le g5 g7 ∧ St g7 [c7, [bx b1 #[.i6 0, .i6 0] 24]] fr w ∧ OwnS g7 x7 v7 c7 ∧ multivalue_Write.j3 x3 x7 = some x5) ?_ ?_
        ·refine wp_block ?_
         obtain ⟨r2, hr5, hm⟩ := bind_some hm
         have hmo2 := hm; clear hm
         refine wp_iter (σ := Int × (List Int)) (ρ := (List Int)) (m := fun s => multivalue_Write.l2 y8 s.1 s.2) (I := fun s a w => match s with | (x8, x9) => ∃ (v8 : Value) (c8 : Hl) (g8 : Gh), Fr 74 a [(41, .i6 x8), (40, .i6 (y8.Vector.length : Int)), (39, v6), (34, .i6 x3), (33, .i6 (values.length : Int)), (32, vvalues1), (9, v8), (7, bp b1 0), (1, .i6 replica), (2, .i6 value)] ∧ Le g5 g8 ∧ St g8 [c8, [bx b1 #[.i6 0, .i6 0] 24]] fr w ∧ OwnS g8 x9 v8 c8) hr5 ?_ ?_
         ·dsimp only
          replace S : St g5 [c5, [bx b1 #[.i6 0, .i6 0] 24]] fr w := St.tail [c5, [bx b1 #[.i6 0, .i6 0] 24]] _ ((S.frontC 2 rfl).frontC 2 rfl)
          exact ⟨v4, c5, g5, F.sub ⟨rfl, rfl, rfl, rfl, rfl, rfl, rfl, rfl, rfl, rfl, trivial⟩, (Le.refl _), S, h6⟩
         ·clear F S; rintro ⟨x8, x9⟩ a w x10 ⟨v8, c8, g8, F, l8, S, h10⟩ hx3 hfin2
          have hm : multivalue_Write.l2 y8 x8 x9 = some x10 := hx3; clear hx3
          unfold multivalue_Write.l2 at hm
          refine wp_seq ?_
          refine wp_region_lit ?_
          refine wE (ev_int rfl rfl (bo_lss _ _ _ _)) F S rfl fun a F=>?_
          refine wpList_nil ?_
          refine then_n ?_
          refine wp_seq ?_
          obtain ⟨hc7, hm⟩ | ⟨hc7, hm⟩ := ite_or hm
          ·refine wp_condT F rfl hc7 ?_
           refine wp_skip ?_
           refine then_n ?_
           refine wp_seq ?_
           refine wp_block ?_
           refine wp_seq ?_
           refine wp_region_lit ?_
           refine wE (ev_move rfl) F S rfl fun a F=>?_
           obtain ⟨y9, hy9, hm⟩ := bind_some hm
           obtain ⟨cs4, hr6, hp2⟩ := elemS (h8.mono l8) hy9
           obtain rfl := rep_int hr6
           refine wE (ev_idxS (h8.mono l8) hy9 tu33 ts3 rfl rfl) F S rfl fun a F=>?_
           refine wE (ev_load1 tu3 rfl rfl (ptr_mono (cks := [c8, [bx b1 #[.i6 0, .i6 0] 24]]) (fr := fr) hp2 (Le.refl _))) F S rfl fun a F=>?_
           refine wE (ev_assign rfl) F S rfl fun a F=>?_
           refine wE (ev_assign rfl) F S rfl fun a F=>?_
           refine wpList_nil ?_
           refine then_n ?_
           refine wp_region_lit ?_
           refine wE (ev_move rfl) F S rfl fun a F=>?_
           refine wE (ev_move rfl) F S rfl fun a F=>?_
           refine wE (ev_move rfl) F S rfl fun a F=>?_
           refine wE (ev_move rfl) F S rfl fun a F=>?_
           obtain ⟨y10, hy10, hm⟩ := bind_some hm
           refine wE (ev_idxO h10 hy10 tu33 ts3 rfl rfl) F S rfl fun a F=>?_
           obtain ⟨cs5, hr7, hq3⟩ := elemO h10 hy10
           obtain rfl := rep_int hr7
           refine wE (ev_load1 tu3 rfl rfl (hq3 _ _ 0 rfl)) F S rfl fun a F=>?_
           refine wE (ev_move rfl) F S rfl fun a F=>?_
           refine wE (ev_max rfl rfl) F S rfl fun a F=>?_
           obtain ⟨y11, hy11, hm⟩ := bind_some hm
           refine wE (ev_idxO h10 hy11 tu33 ts3 rfl rfl) F S rfl fun a F=>?_
           obtain ⟨y12, hy12, hm⟩ := bind_some hm
           refine wl_storeW (z' := (max y10 y9)) (wn rfl) rfl F S h10 hy11 rfl rfl (us := [.i6 (max y10 y9)]) rfl ts3 (one_cons rfl one_nil) (k := 0) rfl rfl (show Rep.rep _ (max y10 y9) _ from rfl) rfl ?_; clear S
           rintro c9 w h11 S; replace S : St g8 [c9, [bx b1 #[.i6 0, .i6 0] 24]] fr w := S; replace h11 : OwnS g8 y12 v8 c9 := sinj hy12 ▸ h11
           refine wpList_nil ?_
           refine inb_n ?_
           refine then_n ?_
           refine wp_region_lit ?_
           obtain ⟨z3, hz3, hm⟩ := bind_some hm
           refine wE (ev_int rfl rfl (bo_add hz3)) F S rfl fun a F=>?_
           refine wE (ev_move rfl) F S rfl fun a F=>?_
           refine wpList_nil ?_
           refine then_n ?_
           obtain rfl := sinj hm
           refine ⟨_, rfl, ?_⟩
           dsimp only
           exact ⟨v8, c9, g8, F.sub ⟨rfl, rfl, rfl, rfl, rfl, rfl, rfl, rfl, rfl, rfl, trivial⟩, l8, S, h11⟩
          ·refine wp_condF F rfl hc7 ?_
           refine wp_exit ?_
           refine then_e ?_
           refine then_e ?_
           refine inb_x ?_
           refine then_n ?_
           obtain rfl := sinj hm
           obtain rfl := hfin2 _ rfl
           clear hm
           have hm : (multivalue_Write.j3 x3 x9 : Option (Step (Int × (List Int)) (List Int))) = some _ := hmo2
           exact ⟨x9, v8, c8, g8, F.sub ⟨rfl, rfl, rfl, rfl, rfl, rfl, rfl, trivial⟩, l8, S, h10, hm⟩
        ·clear F S hm; rintro a w ⟨x7, v7, c7, g7, F, l7, S, h9, hm⟩
         refine inb_n ?_
         refine then_n ?_
         exact ⟨x7, v7, c7, g7, F.sub ⟨rfl, rfl, rfl, rfl, rfl, rfl, rfl, trivial⟩, l7, S, h9, hm⟩
       ·clear F S hm; rintro a w ⟨x6, v5, c6, g6, F, l6, S, h7, hm⟩
        refine wp_region_lit ?_
        obtain ⟨z2, hz2, hm⟩ := bind_some hm
        refine wE (ev_int rfl rfl (bo_add hz2)) F S rfl fun a F=>?_
        refine wE (ev_move rfl) F S rfl fun a F=>?_
        refine wpList_nil ?_
        refine then_n ?_
        obtain rfl := sinj hm
        refine ⟨_, rfl, ?_⟩
        dsimp only
        exact ⟨v5, c6, g6, F.sub ⟨rfl, rfl, rfl, rfl, rfl, rfl, rfl, trivial⟩, (l5.trans l6), S, h7⟩
      ·refine wp_condF F rfl hc6 ?_
       refine wp_exit ?_
       refine then_e ?_
       refine then_e ?_
       refine inb_x ?_
       refine then_n ?_
       obtain rfl := sinj hm
       obtain rfl := hfin1 _ rfl
       clear hm
       have hm : (multivalue_Write.j1 replica value x4 : Option ((List VersionedValue) × Fault)) = some _ := hmo1
       exact ⟨x4, v4, c5, g5, F.sub ⟨rfl, rfl, rfl, rfl, trivial⟩, l5, S, h6, hm⟩
    ·clear F S hm; rintro a w ⟨x2, v2, c2, g3, F, l3, S, h2, hm⟩
     refine wp_seq ?_
     refine wp_seq ?_
     refine wp_region_lit ?_
     refine wE (ev_move rfl) F S rfl fun a F=>?_
     refine wE (ev_move rfl) F S rfl fun a F=>?_
     obtain ⟨y4, hy4, hm⟩ := bind_some hm
     refine wE (ev_idxO h2 hy4 tu33 ts3 rfl rfl) F S rfl fun a F=>?_
     obtain ⟨cs1, hr1, hq1⟩ := elemO h2 hy4
     obtain rfl := rep_int hr1
     refine wE (ev_load1 tu3 rfl rfl (hq1 _ _ 0 rfl)) F S rfl fun a F=>?_
     obtain ⟨z1, hz1, hm⟩ := bind_some hm
     refine wE (ev_int rfl rfl (bo_add hz1)) F S rfl fun a F=>?_
     obtain ⟨y5, hy5, hm⟩ := bind_some hm
     refine wE (ev_idxO h2 hy5 tu33 ts3 rfl rfl) F S rfl fun a F=>?_
     obtain ⟨y6, hy6, hm⟩ := bind_some hm
     refine wl_storeW (z' := z1) (wn rfl) rfl F S h2 hy5 rfl rfl (us := [.i6 z1]) rfl ts3 (one_cons rfl one_nil) (k := 0) rfl rfl (show Rep.rep _ z1 _ from rfl) rfl ?_; clear S
     rintro c3 w h3 S; replace S : St g3 [c3, [bx b1 #[.i6 0, .i6 0] 24]] fr w := S; replace h3 : OwnS g3 y6 v2 c3 := sinj hy6 ▸ h3
     refine wpList_nil ?_
     refine then_n ?_
     refine wp_seq ?_
     refine wp_region_lit ?_
     refine wE (ev_move rfl) F S rfl fun a F=>?_
     refine wE (ev_move rfl) F S rfl fun a F=>?_
     obtain ⟨y7, hy7, hm⟩ := bind_some hm
     refine wE (ev_idxO h3 hy7 tu33 ts3 rfl rfl) F S rfl fun a F=>?_
     obtain ⟨cs2, hr2, hq2⟩ := elemO h3 hy7
     obtain rfl := rep_int hr2
     refine wE (ev_load1 tu3 rfl rfl (hq2 _ _ 0 rfl)) F S rfl fun a F=>?_
     refine wE (ev_int rfl rfl (bo_gtr _ _ _ _)) F S rfl fun a F=>?_
     refine wpList_nil ?_
     refine then_n ?_
     obtain ⟨hc5, hm⟩ | ⟨hc5, hm⟩ := ite_or hm
     ·refine wp_condT F rfl hc5 ?_
      refine wp_seq ?_
      refine wp_region_lit ?_
      refine wE (ev_build (parts := [(0, .const (.i6 10)), (1, .const (.i6 (-1)))]) (vs := [(0, .i6 10), (1, .i6 (-1))]) rfl (fun w => tb24_0_1 10 (-1) w)) F S rfl fun a F=>?_
      refine wE (ev_assign rfl) F S rfl fun a F=>?_
      refine wl_storeC (wn rfl) rfl F S rfl rfl (vs := [.i6 10, .i6 (-1)]) rfl ts24 (one_cons rfl (one_cons rfl one_nil)) (k := 1) rfl (lb rfl) (c' := #[.i6 10, .i6 (-1)]) rfl rfl ?_; clear S; intro w S
      refine wpList_nil ?_
      refine then_n ?_
      refine wp_ret ?_
      refine then_r ?_
      obtain rfl := sinj hm
      replace S : St g3 [[], c3, [bx b1 #[.i6 10, .i6 (-1)] 24]] fr w := S
      refine post_r _ F rfl (ar_cons (resT rfl) (ar_cons (resA rfl tu24 rfl (box_ptr (cells := [.i6 10, .i6 (-1)]) 2 rfl 0 rfl (lb rfl) w S) ts24) ar_nil)) ?_
      replace S : St g3 [[]] fr w := St.tail [[]] _ (S.frontC 0 rfl)
      exact ⟨_, rfl, g3, (nilS), [], ((l1.trans l2).trans l3), S, (OwnS.nil _), rfl⟩
     ·refine wp_condF F rfl hc5 ?_
      refine wp_skip ?_
      refine then_n ?_
      refine wp_seq ?_
      refine wp_region_lit ?_
      refine wE (ev_move rfl) F S rfl fun a F=>?_
      refine wE (ev_move rfl) F S rfl fun a F=>?_
      refine wE (ev_build (parts := [(0, .tmp 69), (1, .tmp 70)]) (vs := [(0, .i6 value), (1, v2)]) rfl (fun w => tb35_0_1 value v2 (OwnS.isSl h3) w)) F S rfl fun a F=>?_
      obtain ⟨g4, l4, S, h4⟩ : ∃ gz, Le g3 gz ∧ St gz [[bx b1 #[.i6 0, .i6 0] 24]] fr w ∧ RepSl gz y6 v2 := ⟨_, Le.add _ _, S.freeze 0 rfl, OwnS.freeze (S.front 0 rfl) h3⟩
      refine wl_lit (l := ([({ Value := value, Vector := y6 } : VersionedValue)] : List VersionedValue)) (vs := [.agg #[.i6 value, v2]]) (parts := [(0, .tmp 71)]) (wn rfl) rfl rfl rfl tu22 te35 (sz_cons rfl sz_nil) rfl (Cat.cons (rep_VersionedValue_mk (x := ({ Value := value, Vector := y6 } : VersionedValue)) h4) (Cat.nil _)) (coa_cons rfl coa_nil) rfl F S rfl rfl ?_; clear F a S
      rintro v3 c4 a w h5 F S
      refine wE (ev_build (parts := []) (vs := []) rfl (fun w => tb24_  w)) F S rfl fun a F=>?_
      refine wE (ev_assign rfl) F S rfl fun a F=>?_
      refine wl_storeC (wn rfl) rfl F S rfl rfl (vs := [.i6 0, .i6 0]) rfl ts24 (one_cons rfl (one_cons rfl one_nil)) (k := 1) rfl (lb rfl) (c' := #[.i6 0, .i6 0]) rfl rfl ?_; clear S; intro w S
      refine wpList_nil ?_
      refine then_n ?_
      refine wp_ret ?_
      obtain rfl := sinj hm
      refine post_r _ F rfl (ar_cons (resT rfl) (ar_cons (resA rfl tu24 rfl (box_ptr (cells := [.i6 0, .i6 0]) 1 rfl 0 rfl (lb rfl) w S) ts24) ar_nil)) ?_
      replace S : St g4 [c4] fr w := St.tail [c4] _ (S.frontC 0 rfl)
      exact ⟨_, rfl, g4, v3, c4, (((l1.trans l2).trans l3).trans l4), S, h5, rfl⟩

theorem slices_Equal_ok {g : Gh} {fr : Hl} {w : World} {r : Bool} (s1_ : (List Int)) (vs1_1 : Value) (hs1_1 : RepSl g s1_ vs1_1) (s2_ : (List Int)) (vs2_1 : Value) (hs2_1 : RepSl g s2_ vs2_1) (S : St g [] fr w) (hm : slices_Equal s1_ s2_ = some r) :
  Calls Try.prog 20 [vs1_1, vs2_1].toArray w (fun en w' => ∃ v, en = .returned v ∧ ∃ (g' : Gh), Le g g' ∧ St g' [] fr w' ∧ .bool r = v) := by
 unfold slices_Equal at hm
 refine calls_enter (fn := Try.f20) Try.func20 rfl Try.ntmps20 (lb rfl) ?_
 intro a F
 replace F : Fr 26 a [(0, vs1_1), (1, vs2_1)] := F
 refine wp_seq ?_
 refine wp_region_lit ?_
 refine wE (ev_assign rfl) F S rfl fun a F=>?_
 refine wpList_nil ?_
 refine then_n ?_
 refine wp_seq ?_
 refine wp_seq ?_
 refine wp_region_lit ?_
 refine wE (ev_move rfl) F S rfl fun a F=>?_
 refine wE (ev_lenSh hs1_1 rfl tu33) F S rfl fun a F=>?_
 refine wE (ev_move rfl) F S rfl fun a F=>?_
 refine wE (ev_lenSh hs2_1 rfl tu33) F S rfl fun a F=>?_
 refine wE (ev_int rfl rfl (bo_neq _ _ _ _)) F S rfl fun a F=>?_
 refine wpList_nil ?_
 refine then_n ?_
 obtain ⟨hc1, hm⟩ | ⟨hc1, hm⟩ := ite_or hm
 ·refine wp_condT F rfl hc1 ?_
  refine wp_seq ?_
  refine wp_region_lit ?_
  refine wE (ev_assign rfl) F S rfl fun a F=>?_
  refine wpList_nil ?_
  refine then_n ?_
  refine wp_ret ?_
  refine then_r ?_
  obtain rfl := sinj hm
  refine post_r _ F rfl (ar_cons (resT rfl) ar_nil) ?_
  exact ⟨_, rfl, g, (Le.refl _), S, rfl⟩
 ·refine wp_condF F rfl hc1 ?_
  refine wp_skip ?_
  refine then_n ?_
  refine wp_cut (fun a w => ∃ (g1 : Gh), Fr 26 a [] ∧ Le g g1 ∧ St g1 [] fr w ∧ slices_Equal.j1 = some r) ?_ ?_
  ·refine wp_seq ?_
   refine wp_region_lit ?_
   refine wE (ev_move rfl) F S rfl fun a F=>?_
   refine wE (ev_lenSh hs1_1 rfl tu33) F S rfl fun a F=>?_
   refine wE (ev_move rfl) F S rfl fun a F=>?_
   refine wpList_nil ?_
   refine then_n ?_
   refine wp_block ?_
   obtain ⟨r1, hr1, hm⟩ := bind_some hm
   have hmo1 := hm; clear hm
   refine wp_iter (σ := Int) (ρ := Bool ⊕ Unit) (m := fun s => slices_Equal.l1 s1_ s2_ s) (I := fun x1 a w => ∃ (g2 : Gh), Fr 26 a [(13, .i6 x1), (12, .i6 (s1_.length : Int)), (0, vs1_1), (1, vs2_1)] ∧ Le g g2 ∧ St g2 [] fr w) hr1 ?_ ?_
   ·exact ⟨g, F.sub ⟨rfl, rfl, rfl, rfl, trivial⟩, (Le.refl _), S⟩
   ·clear F S; rintro x1 a w x2 ⟨g2, F, l2, S⟩ hx1 hfin1
    have hm : slices_Equal.l1 s1_ s2_ x1 = some x2 := hx1; clear hx1
    unfold slices_Equal.l1 at hm
    refine wp_seq ?_
    refine wp_region_lit ?_
    refine wE (ev_int rfl rfl (bo_lss _ _ _ _)) F S rfl fun a F=>?_
    refine wpList_nil ?_
    refine then_n ?_
    refine wp_seq ?_
    obtain ⟨hc2, hm⟩ | ⟨hc2, hm⟩ := ite_or hm
    ·refine wp_condT F rfl hc2 ?_
     refine wp_skip ?_
     refine then_n ?_
     refine wp_seq ?_
     refine wp_block ?_
     refine wp_seq ?_
     refine wp_region_lit ?_
     refine wE (ev_move rfl) F S rfl fun a F=>?_
     refine wE (ev_assign rfl) F S rfl fun a F=>?_
     refine wpList_nil ?_
     refine then_n ?_
     refine wp_seq ?_
     refine wp_quiet mo (by kernel_rfl) S ?_
     refine wq_ev (wn rfl) (ev_move rfl) F rfl rfl ?_; clear F a; intro a F
     refine wq_ev (wn rfl) (ev_move rfl) F rfl rfl ?_; clear F a; intro a F
     obtain ⟨y1, hy1, hm⟩ := bind_some hm
     obtain ⟨cs1, hr2, hp1⟩ := elemS (hs1_1.mono l2) hy1
     obtain rfl := rep_int hr2
     refine wq_ev (wn rfl) (ev_idxS (hs1_1.mono l2) hy1 tu33 ts3 rfl rfl) F rfl rfl ?_; clear F a; intro a F
     refine wq_ev (wn rfl) (ev_load1 tu3 rfl rfl (ptr_mono (cks := []) (fr := fr) hp1 (Le.refl _))) F rfl rfl ?_; clear F a; intro a F
     refine wq_ev (wn rfl) (ev_move rfl) F rfl rfl ?_; clear F a; intro a F
     refine wq_ev (wn rfl) (ev_move rfl) F rfl rfl ?_; clear F a; intro a F
     obtain ⟨y2, hy2, hm⟩ := bind_some hm
     obtain ⟨cs2, hr3, hp2⟩ := elemS (hs2_1.mono l2) hy2
     obtain rfl := rep_int hr3
     refine wq_ev (wn rfl) (ev_idxS (hs2_1.mono l2) hy2 tu33 ts3 rfl rfl) F rfl rfl ?_; clear F a; intro a F
     refine wq_ev (wn rfl) (ev_load1 tu3 rfl rfl (ptr_mono (cks := []) (fr := fr) hp2 (Le.refl _))) F rfl rfl ?_; clear F a; intro a F
     refine wq_ev (wn rfl) (ev_int rfl rfl (bo_neq _ _ _ _)) F rfl rfl ?_; clear F a; intro a F
     refine wq_nil ?_; clear S; intro w S
     refine then_n ?_
     obtain ⟨hc3, hm⟩ | ⟨hc3, hm⟩ := ite_or hm
     ·refine wp_condT F rfl hc3 ?_
      refine wp_seq ?_
      refine wp_region_lit ?_
      refine wE (ev_assign rfl) F S rfl fun a F=>?_
      refine wpList_nil ?_
      refine then_n ?_
      refine wp_ret ?_
      refine inb_r ?_
      refine then_r ?_
      refine then_r ?_
      refine inb_r ?_
      refine then_r ?_
      obtain rfl := sinj hm
      obtain rfl := hfin1 _ rfl
      clear hm
      have hm : (some false : Option Bool) = some _ := hmo1
      obtain rfl := sinj hm
      refine post_r _ F rfl (ar_cons (resT rfl) ar_nil) ?_
      exact ⟨_, rfl, g2, l2, S, rfl⟩
     ·refine wp_condF F rfl hc3 ?_
      refine wp_skip ?_
      refine inb_n ?_
      refine then_n ?_
      refine wp_region_lit ?_
      obtain ⟨z1, hz1, hm⟩ := bind_some hm
      refine wE (ev_int rfl rfl (bo_add hz1)) F S rfl fun a F=>?_
      refine wE (ev_move rfl) F S rfl fun a F=>?_
      refine wpList_nil ?_
      refine then_n ?_
      obtain rfl := sinj hm
      refine ⟨_, rfl, ?_⟩
      exact ⟨g2, F.sub ⟨rfl, rfl, rfl, rfl, trivial⟩, l2, S⟩
    ·refine wp_condF F rfl hc2 ?_
     refine wp_exit ?_
     refine then_e ?_
     refine then_e ?_
     refine inb_x ?_
     refine then_n ?_
     obtain rfl := sinj hm
     obtain rfl := hfin1 _ rfl
     clear hm
     have hm : (slices_Equal.j1 : Option Bool) = some _ := hmo1
     exact ⟨g2, F.sub trivial, l2, S, hm⟩
  ·clear F S hm; rintro a w ⟨g1, F, l1, S, hm⟩
   refine wp_seq ?_
   refine wp_region_lit ?_
   refine wE (ev_assign rfl) F S rfl fun a F=>?_
   refine wpList_nil ?_
   refine then_n ?_
   refine wp_ret ?_
   obtain rfl := sinj hm
   refine post_r _ F rfl (ar_cons (resT rfl) ar_nil) ?_
   exact ⟨_, rfl, g1, l1, S, rfl⟩

theorem slices_Clone_ok {g : Gh} {fr : Hl} {w : World} {r : (List Int)} (s_ : (List Int)) (vs_1 : Value) (hs_1 : RepSl g s_ vs_1) (S : St g [] fr w) (hm : slices_Clone s_ = some r) :
  Calls Try.prog 33 [vs_1].toArray w (fun en w' => ∃ v, en = .returned v ∧ ∃ (g' : Gh) (v1 : Value) (c1 : Hl), Le g g' ∧ St g' [c1] fr w' ∧ OwnS g' r v1 c1 ∧ v1 = v) := by
 unfold slices_Clone at hm
 refine calls_enter (fn := Try.f33) Try.func33 rfl Try.ntmps33 (lb rfl) ?_
 intro a F
 replace F : Fr 8 a [(0, vs_1)] := F
 refine wp_seq ?_
 refine wp_region_lit ?_
 refine wE (ev_assign rfl) F S rfl fun a F=>?_
 refine wpList_nil ?_
 refine then_n ?_
 refine wp_seq ?_
 refine wp_seq ?_
 refine wp_region_lit ?_
 refine wE (ev_move rfl) F S rfl fun a F=>?_
 obtain ⟨nb1, hnb1, he1⟩ := ev_nileqlS (P := Try.prog) (n := 8) (e := [(3, vs_1), (2, nilS), (0, vs_1)]) (C := fun w => St g [] fr w) (x := .tmp 3) (y := .const (nilS)) hs_1 tu33 rfl rfl
 refine wE he1 F S rfl fun a F=>?_
 refine wpList_nil ?_
 refine then_n ?_
 obtain ⟨hc1, hm⟩ | ⟨hc1, hm⟩ := nil_or hnb1 hm
 ·refine wp_condT F rfl hc1 ?_
  refine wp_seq ?_
  refine wp_region_lit ?_
  refine wE (ev_assign rfl) F S rfl fun a F=>?_
  refine wpList_nil ?_
  refine then_n ?_
  refine wp_ret ?_
  refine then_r ?_
  obtain rfl := sinj hm
  replace S : St g [[]] fr w := S
  refine post_r _ F rfl (ar_cons (resT rfl) ar_nil) ?_
  exact ⟨_, rfl, g, (nilS), [], (Le.refl _), S, (OwnS.nil _), rfl⟩
 ·refine wp_condF F rfl hc1 ?_
  refine wp_skip ?_
  refine then_n ?_
  refine wp_seq ?_
  refine wp_region_lit ?_
  refine wl_lit (l := ([] : List Int)) (vs := []) (parts := []) (wn rfl) rfl rfl rfl tu33 te3 sz_nil rfl (Cat.nil _) coa_nil rfl F S rfl rfl ?_; clear F a S
  rintro v1 c1 a w h1 F S
  refine wE (ev_move rfl) F S rfl fun a F=>?_
  obtain ⟨cs1, hk1, hr1⟩ := RepSl.reads hs_1
  obtain ⟨y1, hy1, hm⟩ := bind_some hm
  refine wl_append (wn rfl) rfl tu33 tu33 te3 (by decide) (by decide) F S rfl rfl (k := 0) rfl h1 hk1 rfl (hr1 _ _ S) hy1 rfl rfl ?_; clear F a S
  rintro v2 c2 a w h2 S F; replace S : St g [c2] fr w := S
  refine wE (ev_assign rfl) F S rfl fun a F=>?_
  refine wpList_nil ?_
  refine then_n ?_
  refine wp_ret ?_
  obtain rfl := sinj hm
  refine post_r _ F rfl (ar_cons (resT rfl) ar_nil) ?_
  exact ⟨_, rfl, g, v2, c2, (Le.refl _), S, h2, rfl⟩
end Go.Dc
