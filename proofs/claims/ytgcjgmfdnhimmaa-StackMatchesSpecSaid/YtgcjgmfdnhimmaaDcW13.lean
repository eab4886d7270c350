/- Walks: each function comes to what its model says. -/
import Derived.Test.YtgcjgmfdnhimmaaDcTab
import Derived.Test.YtgcjgmfdnhimmaaDcM
import Derived.Test.YtgcjgmfdnhimmaaDcW5
namespace Go.Dc
open Go Go.Proofs
set_option maxRecDepth 100000
set_option maxHeartbeats 4000000
set_option linter.unusedVariables false
theorem changeforgeref1_Equal_ok {g : Gh} {fr : Hl} {w : World} {r : Bool} (a_ : (List ByteArray)) (va_1 : Value) (ha_1 : RepSl g a_ va_1) (b_ : (List ByteArray)) (vb_1 : Value) (hb_1 : RepSl g b_ vb_1) (S : St g [] fr w) (hm : changeforgeref1_Equal a_ b_ = some r) :
  Calls Try.prog 67 [va_1, vb_1].toArray w (fun en w' => ∃ v, en = .returned v ∧ ∃ (g' : Gh), Le g g' ∧ St g' [] fr w' ∧ .bool r = v) := by
 unfold changeforgeref1_Equal at hm
 refine calls_enter (fn := Try.f67) Try.func67 rfl Try.ntmps67 (lb rfl) ?_
 intro a F
 replace F : Fr 26 a [(0, va_1), (1, vb_1)] := F
 refine wp_seq ?_
 refine wp_region_lit ?_
 refine wE (ev_assign rfl) F S rfl fun a F=>?_
 refine wpList_nil ?_
 refine then_n ?_
 refine wp_seq ?_
 refine wp_seq ?_
 refine wp_region_lit ?_
 refine wE (ev_move rfl) F S rfl fun a F=>?_
 refine wE (ev_lenSh ha_1 rfl tu31) F S rfl fun a F=>?_
 refine wE (ev_move rfl) F S rfl fun a F=>?_
 refine wE (ev_lenSh hb_1 rfl tu31) F S rfl fun a F=>?_
 refine wE (ev_int rfl rfl (bo_neq _ _ _ _)) F S rfl fun a F=>?_
 refine wpList_nil ?_
 refine then_n ?_
 obtain ⟨hc1, hm⟩ | ⟨hc1, hm⟩ := ite_or hm
 ·refine wp_condT F rfl hc1 ?_
  refine wp_seq ?_
  refine wp_region_lit ?_
  refine wE (ev_assign rfl) F S rfl fun a F=>?_
  refine wpList_nil ?_
  refine then_n ?_
  refine wp_ret ?_
  refine then_r ?_
  obtain rfl := sinj hm
  refine post_r _ F rfl (ar_cons (resT rfl) ar_nil) ?_
  exact ⟨_, rfl, g, (Le.refl _), S, rfl⟩
 ·refine wp_condF F rfl hc1 ?_
  refine wp_skip ?_
  refine then_n ?_
  refine wp_cut (fun a w => ∃ (g1 : Gh), Fr 26 a [] ∧ Le g g1 ∧ St g1 [] fr w ∧ changeforgeref1_Equal.j1 = some r) ?_ ?_
  ·refine wp_seq ?_
   refine wp_region_lit ?_
   refine wE (ev_assign rfl) F S rfl fun a F=>?_
   refine wpList_nil ?_
   refine then_n ?_
   refine wp_block ?_
   obtain ⟨r1, hr1, hm⟩ := bind_some hm
   have hmo1 := hm; clear hm
   refine wp_iter (σ := Int) (ρ := Bool ⊕ Unit) (m := fun s => changeforgeref1_Equal.l1 a_ b_ s) (I := fun x1 a w => ∃ (g2 : Gh), Fr 26 a [(5, .i6 x1), (0, va_1), (1, vb_1)] ∧ Le g g2 ∧ St g2 [] fr w) hr1 ?_ ?_
   ·exact ⟨g, F.sub ⟨rfl, rfl, rfl, trivial⟩, (Le.refl _), S⟩
   ·clear F S; rintro x1 a w x2 ⟨g2, F, l2, S⟩ hx1 hfin1
    have hm : changeforgeref1_Equal.l1 a_ b_ x1 = some x2 := hx1; clear hx1
    unfold changeforgeref1_Equal.l1 at hm
    refine wp_seq ?_
    refine wp_seq ?_
    refine wp_region_lit ?_
    refine wE (ev_move rfl) F S rfl fun a F=>?_
    refine wE (ev_move rfl) F S rfl fun a F=>?_
    refine wE (ev_lenSh ha_1 rfl tu31) F S rfl fun a F=>?_
    refine wE (ev_int rfl rfl (bo_lss _ _ _ _)) F S rfl fun a F=>?_
    refine wpList_nil ?_
    refine then_n ?_
    obtain ⟨hc2, hm⟩ | ⟨hc2, hm⟩ := ite_or hm
    ·refine wp_condT F rfl hc2 ?_
     refine wp_skip ?_
     refine then_n ?_
     refine wp_seq ?_
     refine wp_block ?_
     refine wp_seq ?_
     refine wp_quiet mo (by kernel_rfl) S ?_
     refine wq_ev (wn rfl) (ev_move rfl) F rfl rfl ?_; clear F a; intro a F
     refine wq_ev (wn rfl) (ev_move rfl) F rfl rfl ?_; clear F a; intro a F
     obtain ⟨y1, hy1, hm⟩ := bind_some hm
     obtain ⟨cs1, hr2, hp1⟩ := elemS (ha_1.mono l2) hy1
     obtain rfl := rep_str hr2
     refine wq_ev (wn rfl) (ev_idxS (ha_1.mono l2) hy1 tu31 ts9 rfl rfl) F rfl rfl ?_; clear F a; intro a F
     refine wq_ev (wn rfl) (ev_load1 tu9 rfl rfl (ptr_mono (cks := []) (fr := fr) hp1 (Le.refl _))) F rfl rfl ?_; clear F a; intro a F
     refine wq_ev (wn rfl) (ev_move rfl) F rfl rfl ?_; clear F a; intro a F
     refine wq_ev (wn rfl) (ev_move rfl) F rfl rfl ?_; clear F a; intro a F
     obtain ⟨y2, hy2, hm⟩ := bind_some hm
     obtain ⟨cs2, hr3, hp2⟩ := elemS (hb_1.mono l2) hy2
     obtain rfl := rep_str hr3
     refine wq_ev (wn rfl) (ev_idxS (hb_1.mono l2) hy2 tu31 ts9 rfl rfl) F rfl rfl ?_; clear F a; intro a F
     refine wq_ev (wn rfl) (ev_load1 tu9 rfl rfl (ptr_mono (cks := []) (fr := fr) hp2 (Le.refl _))) F rfl rfl ?_; clear F a; intro a F
     refine wq_ev (wn rfl) (ev_str rfl rfl (bs_neq _ _ _)) F rfl rfl ?_; clear F a; intro a F
     refine wq_nil ?_; clear S; intro w S
     refine then_n ?_
     obtain ⟨hc3, hm⟩ | ⟨hc3, hm⟩ := ite_or hm
     ·refine wp_condT F rfl hc3 ?_
      refine wp_seq ?_
      refine wp_region_lit ?_
      refine wE (ev_assign rfl) F S rfl fun a F=>?_
      refine wpList_nil ?_
      refine then_n ?_
      refine wp_ret ?_
      refine inb_r ?_
      refine then_r ?_
      refine then_r ?_
      refine inb_r ?_
      refine then_r ?_
      obtain rfl := sinj hm
      obtain rfl := hfin1 _ rfl
      clear hm
      have hm : (some false : Option Bool) = some _ := hmo1
      obtain rfl := sinj hm
      refine post_r _ F rfl (ar_cons (resT rfl) ar_nil) ?_
      exact ⟨_, rfl, g2, l2, S, rfl⟩
     ·refine wp_condF F rfl hc3 ?_
      refine wp_skip ?_
      refine inb_n ?_
      refine then_n ?_
      refine wp_region_lit ?_
      refine wE (ev_move rfl) F S rfl fun a F=>?_
      obtain ⟨z1, hz1, hm⟩ := bind_some hm
      refine wE (ev_int rfl rfl (bo_add hz1)) F S rfl fun a F=>?_
      refine wE (ev_assign rfl) F S rfl fun a F=>?_
      refine wpList_nil ?_
      refine then_n ?_
      obtain rfl := sinj hm
      refine ⟨_, rfl, ?_⟩
      exact ⟨g2, F.sub ⟨rfl, rfl, rfl, trivial⟩, l2, S⟩
    ·refine wp_condF F rfl hc2 ?_
     refine wp_exit ?_
     refine then_e ?_
     refine then_e ?_
     refine inb_x ?_
     refine then_n ?_
     obtain rfl := sinj hm
     obtain rfl := hfin1 _ rfl
     clear hm
     have hm : (changeforgeref1_Equal.j1 : Option Bool) = some _ := hmo1
     exact ⟨g2, F.sub trivial, l2, S, hm⟩
  ·clear F S hm; rintro a w ⟨g1, F, l1, S, hm⟩
   refine wp_seq ?_
   refine wp_region_lit ?_
   refine wE (ev_assign rfl) F S rfl fun a F=>?_
   refine wpList_nil ?_
   refine then_n ?_
   refine wp_ret ?_
   obtain rfl := sinj hm
   refine post_r _ F rfl (ar_cons (resT rfl) ar_nil) ?_
   exact ⟨_, rfl, g1, l1, S, rfl⟩

theorem changeforgeref1_has_ok {g : Gh} {fr : Hl} {w : World} {r : Bool} (text : (List ByteArray)) (vtext1 : Value) (htext1 : RepSl g text vtext1) (at_ : Int) (l_ : (List ByteArray)) (vl_1 : Value) (hl_1 : RepSl g l_ vl_1) (S : St g [] fr w) (hm : changeforgeref1_has text at_ l_ = some r) :
  Calls Try.prog 56 [vtext1, .i6 at_, vl_1].toArray w (fun en w' => ∃ v, en = .returned v ∧ ∃ (g' : Gh), Le g g' ∧ St g' [] fr w' ∧ .bool r = v) := by
 unfold changeforgeref1_has at hm
 refine calls_enter (fn := Try.f56) Try.func56 rfl Try.ntmps56 (lb rfl) ?_
 intro a F
 replace F : Fr 27 a [(0, vtext1), (1, .i6 at_), (2, vl_1)] := F
 refine wp_seq ?_
 refine wp_region_lit ?_
 refine wE (ev_assign rfl) F S rfl fun a F=>?_
 refine wpList_nil ?_
 refine then_n ?_
 refine wp_seq ?_
 refine wp_seq ?_
 refine wp_region_lit ?_
 refine wE (ev_move rfl) F S rfl fun a F=>?_
 refine wE (ev_int rfl rfl (bo_lss _ _ _ _)) F S rfl fun a F=>?_
 refine wE (ev_move rfl) F S rfl fun a F=>?_
 obtain ⟨x1, hx1, hm⟩ := bind_some hm
 refine wl_cut 8 (fun a w' => w = w' ∧ Fr 27 a [(17, .bool x1), (0, vtext1), (1, .i6 at_), (2, vl_1)]) ?_ ?_
 ·clear hm; obtain ⟨hc1, hm⟩ | ⟨hc1, hm⟩ := ite_or hx1
  ·refine wl_skip rfl rfl rfl rfl (ne_ft hc1) F rfl rfl ?_; clear F a; intro a F
   refine wl_skip rfl rfl rfl rfl (ne_ft hc1) F rfl rfl ?_; clear F a; intro a F
   refine wl_skip rfl rfl rfl rfl (ne_ft hc1) F rfl rfl ?_; clear F a; intro a F
   refine wl_skip rfl rfl rfl rfl (ne_ft hc1) F rfl rfl ?_; clear F a; intro a F
   refine wl_skip rfl rfl rfl rfl (ne_ft hc1) F rfl rfl ?_; clear F a; intro a F
   refine wl_skip rfl rfl rfl rfl (ne_ft hc1) F rfl rfl ?_; clear F a; intro a F
   refine wl_skip rfl rfl rfl rfl (ne_ft hc1) F rfl rfl ?_; clear F a; intro a F
   refine wE (ev_pickT rfl hc1 rfl) F S rfl fun a F=>?_
   obtain rfl := sinj hm
   refine wpList_nil (then_n ?_); exact ⟨rfl, F.sub ⟨rfl, rfl, rfl, rfl, trivial⟩⟩
  ·refine wl_ev (wg F rfl rfl rfl rfl hc1) (ev_move rfl) F S rfl rfl ?_; clear F a; intro a F
   refine wl_ev (wg F rfl rfl rfl rfl hc1) (ev_move rfl) F S rfl rfl ?_; clear F a; intro a F
   refine wl_ev (wg F rfl rfl rfl rfl hc1) (ev_lenSh hl_1 rfl tu31) F S rfl rfl ?_; clear F a; intro a F
   obtain ⟨z1, hz1, hm⟩ := bind_some hm
   refine wl_ev (wg F rfl rfl rfl rfl hc1) (ev_int rfl rfl (bo_add hz1)) F S rfl rfl ?_; clear F a; intro a F
   refine wl_ev (wg F rfl rfl rfl rfl hc1) (ev_move rfl) F S rfl rfl ?_; clear F a; intro a F
   refine wl_ev (wg F rfl rfl rfl rfl hc1) (ev_lenSh htext1 rfl tu31) F S rfl rfl ?_; clear F a; intro a F
   refine wl_ev (wg F rfl rfl rfl rfl hc1) (ev_int rfl rfl (bo_gtr _ _ _ _)) F S rfl rfl ?_; clear F a; intro a F
   refine wE (ev_pickF rfl hc1 rfl) F S rfl fun a F=>?_
   obtain rfl := sinj hm
   refine wpList_nil (then_n ?_); exact ⟨rfl, F.sub ⟨rfl, rfl, rfl, rfl, trivial⟩⟩
 clear F; rintro a w' ⟨rfl, F⟩
 refine wpList_nil ?_
 refine then_n ?_
 obtain ⟨hc2, hm⟩ | ⟨hc2, hm⟩ := ite_or hm
 ·refine wp_condT F rfl hc2 ?_
  refine wp_seq ?_
  refine wp_region_lit ?_
  refine wE (ev_assign rfl) F S rfl fun a F=>?_
  refine wpList_nil ?_
  refine then_n ?_
  refine wp_ret ?_
  refine then_r ?_
  obtain rfl := sinj hm
  refine post_r _ F rfl (ar_cons (resT rfl) ar_nil) ?_
  exact ⟨_, rfl, g, (Le.refl _), S, rfl⟩
 ·refine wp_condF F rfl hc2 ?_
  refine wp_skip ?_
  refine then_n ?_
  refine wp_seq ?_
  refine wp_region_lit ?_
  refine wE (ev_move rfl) F S rfl fun a F=>?_
  refine wE (ev_move rfl) F S rfl fun a F=>?_
  refine wE (ev_move rfl) F S rfl fun a F=>?_
  refine wE (ev_move rfl) F S rfl fun a F=>?_
  refine wE (ev_lenSh hl_1 rfl tu31) F S rfl fun a F=>?_
  obtain ⟨z2, hz2, hm⟩ := bind_some hm
  refine wE (ev_int rfl rfl (bo_add hz2)) F S rfl fun a F=>?_
  obtain ⟨y1, hy1, hm⟩ := bind_some hm
  refine wl_cutS (wn rfl) rfl htext1 hy1 tu31 ts9 rfl (bndV rfl) (bndV rfl) F rfl rfl ?_; clear F a; rintro v1 h1 a F
  refine wE (ev_move rfl) F S rfl fun a F=>?_
  obtain ⟨y2, hy2, hm⟩ := bind_some hm
  refine wl_call0 (wn rfl) rfl F rfl (changeforgeref1_Equal_ok y1 v1 h1 l_ vl_1 hl_1 S hy2) rfl tc67 rfl rfl ?_; clear F a S
  rintro _ a w ⟨g1, l1, S, rfl⟩ F; replace S : St g1 [] fr w := S
  refine wE (ev_assign rfl) F S rfl fun a F=>?_
  refine wpList_nil ?_
  refine then_n ?_
  refine wp_ret ?_
  obtain rfl := sinj hm
  refine post_r _ F rfl (ar_cons (resT rfl) ar_nil) ?_
  exact ⟨_, rfl, g1, l1, S, rfl⟩

theorem changeforgeref1_Apply_ok {g : Gh} {fr : Hl} {w : World} {r : (List ByteArray) × Fault} (p_ : Patch) (vp_1 : Value) (hp_1 : RepSl g p_.Hunks vp_1) (text : (List ByteArray)) (vtext1 : Value) (htext1 : RepSl g text vtext1) (S : St g [] fr w) (hm : changeforgeref1_Apply p_ text = some r) :
  Calls Try.prog 41 [.agg #[vp_1], vtext1].toArray w (fun en w' => ∃ v, en = .returned v ∧ ∃ (g' : Gh) (v1 : Value) (c1 : Hl), Le g g' ∧ St g' [c1] fr w' ∧ OwnS g' r.1 v1 c1 ∧ .tuple #[v1, .agg #[.i6 r.2.Code, .i6 r.2.Index]] = v) := by
 unfold changeforgeref1_Apply at hm
 refine calls_enter (fn := Try.f41) Try.func41 rfl Try.ntmps41 (lb rfl) ?_
 intro a F
 replace F : Fr 86 a [(0, .agg #[vp_1]), (1, vtext1)] := F
 refine wp_seq ?_
 refine wp_region_lit ?_
 refine wl_boxC (wn rfl) rfl rfl rfl F S rfl rfl ?_; clear F a S; rintro b1 a w F S
 refine wE (ev_assign rfl) F S rfl fun a F=>?_
 refine wl_alloc (wn rfl) rfl tz24 (cs := [.i6 0, .i6 0]) rfl F S rfl rfl ?_; clear F a S; rintro b2 a w F S
 refine wpList_nil ?_
 refine then_n ?_
 refine wp_seq ?_
 refine wp_seq ?_
 refine wp_region_lit ?_
 refine wE (ev_loadA tu38 rfl (cs := [vp_1]) ts38 rfl (box_ptr (cells := [vp_1]) 1 rfl 0 rfl (lb rfl))) F S rfl fun a F=>?_
 obtain ⟨y1, hy1, hm⟩ := bind_some hm
 refine wl_call0 (wn rfl) rfl F rfl (changeforgeref1_PatchFault_ok (fr := (fl [[bx b2 #[.i6 0, .i6 0] 24], [bx b1 #[vp_1] 38]] fr)) p_ vp_1 hp_1 S hy1) rfl tc46 rfl rfl ?_; clear F a S
 rintro _ a w ⟨g1, l1, S, rfl⟩ F; replace S : St g1 [[bx b2 #[.i6 0, .i6 0] 24], [bx b1 #[vp_1] 38]] fr w := S
 refine wl_alloc (wn rfl) rfl tz24 (cs := [.i6 0, .i6 0]) rfl F S rfl rfl ?_; clear F a S; rintro b3 a w F S
 refine wl_storeC (wn rfl) rfl F S rfl rfl (vs := [.i6 y1.Code, .i6 y1.Index]) rfl ts24 (one_cons rfl (one_cons rfl one_nil)) (k := 0) rfl (lb rfl) (c' := #[.i6 y1.Code, .i6 y1.Index]) rfl rfl ?_; clear S; intro w S
 refine wpList_nil ?_
 refine then_n ?_
 refine wp_seq ?_
 refine wp_region_lit ?_
 refine wE (ev_fieldAddr' tu24 tf24_0 (z := 0) ts3 rfl ⟨_, rfl⟩ rfl) F S rfl fun a F=>?_
 refine wE (ev_load1 tu3 rfl rfl (box_ptr (cells := [.i6 y1.Code]) 0 rfl 0 rfl (lb rfl))) F S rfl fun a F=>?_
 refine wE (ev_int rfl rfl (bo_neq _ _ _ _)) F S rfl fun a F=>?_
 refine wpList_nil ?_
 refine then_n ?_
 obtain ⟨hc1, hm⟩ | ⟨hc1, hm⟩ := ite_or hm
 ·refine wp_condT F rfl hc1 ?_
  refine wp_seq ?_
  refine wp_dv [] mo S ?_; clear S; intro ok1 w S
  refine dv_ev ok1 0 rfl (ev_loadA tu24 rfl (cs := [.i6 y1.Code, .i6 y1.Index]) ts24 rfl (box_ptr (cells := [.i6 y1.Code, .i6 y1.Index]) 0 rfl 0 rfl (lb rfl))) F S rfl fun a F=>?_
  refine dv_et ok1 1 rfl (ev_assign rfl) F rfl fun a F=>?_
  refine dv_op ok1 2 rfl [] ?_
  refine wl_storeC (wn rfl) rfl F S rfl rfl (vs := [.i6 y1.Code, .i6 y1.Index]) rfl ts24 (one_cons rfl (one_cons rfl one_nil)) (k := 1) rfl (lb rfl) (c' := #[.i6 y1.Code, .i6 y1.Index]) rfl rfl ?_; clear S; intro w S
  refine dv_nx trivial ?_
  refine dv_fin ok1 ?_
  refine then_n ?_
  refine wp_ret ?_
  refine then_r ?_
  obtain rfl := sinj hm
  replace S : St g1 [[], [bx b3 #[.i6 y1.Code, .i6 y1.Index] 24], [bx b2 #[.i6 y1.Code, .i6 y1.Index] 24], [bx b1 #[vp_1] 38]] fr w := S
  refine post_r _ F rfl (ar_cons (resT rfl) (ar_cons (resA rfl tu24 rfl (box_ptr (cells := [.i6 y1.Code, .i6 y1.Index]) 2 rfl 0 rfl (lb rfl) w S) ts24) ar_nil)) ?_
  replace S : St g1 [[]] fr w := St.tail [[]] _ (S.frontC 0 rfl)
  exact ⟨_, rfl, g1, (nilS), [], l1, S, (OwnS.nil _), rfl⟩
 ·refine wp_condF F rfl hc1 ?_
  refine wp_skip ?_
  refine then_n ?_
  refine wp_seq ?_
  refine wp_seq ?_
  refine wp_region_lit ?_
  refine wE (ev_move rfl) F S rfl fun a F=>?_
  obtain ⟨y2, hy2, hm⟩ := bind_some hm
  refine wl_call0 (wn rfl) rfl F rfl (changeforgeref1_LinesCode_ok (fr := (fl [[bx b3 #[.i6 y1.Code, .i6 y1.Index] 24], [bx b2 #[.i6 0, .i6 0] 24], [bx b1 #[vp_1] 38]] fr)) text vtext1 (htext1.mono l1) S hy2) rfl tc40 rfl rfl ?_; clear F a S
  rintro _ a w ⟨g2, l2, S, rfl⟩ F; replace S : St g2 [[bx b3 #[.i6 y1.Code, .i6 y1.Index] 24], [bx b2 #[.i6 0, .i6 0] 24], [bx b1 #[vp_1] 38]] fr w := S
  refine wE (ev_assign rfl) F S rfl fun a F=>?_
  refine wpList_nil ?_
  refine then_n ?_
  refine wp_seq ?_
  refine wp_region_lit ?_
  refine wE (ev_move rfl) F S rfl fun a F=>?_
  refine wE (ev_int rfl rfl (bo_neq _ _ _ _)) F S rfl fun a F=>?_
  refine wpList_nil ?_
  refine then_n ?_
  obtain ⟨hc2, hm⟩ | ⟨hc2, hm⟩ := ite_or hm
  ·refine wp_condT F rfl hc2 ?_
   refine wp_seq ?_
   refine wp_region_lit ?_
   refine wE (ev_move rfl) F S rfl fun a F=>?_
   obtain ⟨y3, hy3, hm⟩ := bind_some hm
   refine wl_call0 (wn rfl) rfl F rfl (changeforgeref1_At_ok (fr := (fl [[bx b3 #[.i6 y1.Code, .i6 y1.Index] 24], [bx b2 #[.i6 0, .i6 0] 24], [bx b1 #[vp_1] 38]] fr)) y2 (-2) S hy3) rfl tc26 rfl rfl ?_; clear F a S
   rintro _ a w ⟨g3, l3, S, rfl⟩ F; replace S : St g3 [[bx b3 #[.i6 y1.Code, .i6 y1.Index] 24], [bx b2 #[.i6 0, .i6 0] 24], [bx b1 #[vp_1] 38]] fr w := S
   refine wE (ev_assign rfl) F S rfl fun a F=>?_
   refine wl_storeC (wn rfl) rfl F S rfl rfl (vs := [.i6 y3.Code, .i6 y3.Index]) rfl ts24 (one_cons rfl (one_cons rfl one_nil)) (k := 1) rfl (lb rfl) (c' := #[.i6 y3.Code, .i6 y3.Index]) rfl rfl ?_; clear S; intro w S
   refine wpList_nil ?_
   refine then_n ?_
   refine wp_ret ?_
   refine then_r ?_
   obtain rfl := sinj hm
   replace S : St g3 [[], [bx b3 #[.i6 y1.Code, .i6 y1.Index] 24], [bx b2 #[.i6 y3.Code, .i6 y3.Index] 24], [bx b1 #[vp_1] 38]] fr w := S
   refine post_r _ F rfl (ar_cons (resT rfl) (ar_cons (resA rfl tu24 rfl (box_ptr (cells := [.i6 y3.Code, .i6 y3.Index]) 2 rfl 0 rfl (lb rfl) w S) ts24) ar_nil)) ?_
   replace S : St g3 [[]] fr w := St.tail [[]] _ (S.frontC 0 rfl)
   exact ⟨_, rfl, g3, (nilS), [], ((l1.trans l2).trans l3), S, (OwnS.nil _), rfl⟩
  ·refine wp_condF F rfl hc2 ?_
   refine wp_skip ?_
   refine then_n ?_
   refine wp_cut (fun a w => ∃ (g4 : Gh), Fr 86 a [(5, bp b2 0), (2, bp b1 0), (1, vtext1)] ∧ Le g2 g4 ∧ St g4 [[bx b2 #[.i6 0, .i6 0] 24], [bx b1 #[vp_1] 38]] fr w ∧ changeforgeref1_Apply.j1 p_ text = some r) ?_ ?_
   ·refine wp_seq ?_
    refine wp_region_lit ?_
    refine wE (ev_assign rfl) F S rfl fun a F=>?_
    refine wpList_nil ?_
    refine then_n ?_
    refine wp_block ?_
    obtain ⟨r2, hr7, hm⟩ := bind_some hm
    have hmo2 := hm; clear hm
    refine wp_iter (σ := Int) (ρ := ((List ByteArray) × Fault) ⊕ Unit) (m := fun s => changeforgeref1_Apply.l2 p_ text s) (I := fun x5 a w => ∃ (g9 : Gh), Fr 86 a [(8, .i6 x5), (5, bp b2 0), (2, bp b1 0), (1, vtext1)] ∧ Le g2 g9 ∧ St g9 [[bx b2 #[.i6 0, .i6 0] 24], [bx b1 #[vp_1] 38]] fr w) hr7 ?_ ?_
    ·replace S : St g2 [[bx b2 #[.i6 0, .i6 0] 24], [bx b1 #[vp_1] 38]] fr w := St.tail [[bx b2 #[.i6 0, .i6 0] 24], [bx b1 #[vp_1] 38]] _ ((S.frontC 2 rfl).frontC 2 rfl)
     exact ⟨g2, F.sub ⟨rfl, rfl, rfl, rfl, trivial⟩, (Le.refl _), S⟩
    ·clear F S; rintro x5 a w x6 ⟨g9, F, l9, S⟩ hx2 hfin2
     have hm : changeforgeref1_Apply.l2 p_ text x5 = some x6 := hx2; clear hx2
     unfold changeforgeref1_Apply.l2 at hm
     refine wp_seq ?_
     refine wp_seq ?_
     refine wp_region_lit ?_
     refine wE (ev_move rfl) F S rfl fun a F=>?_
     refine wE (ev_fieldAddr' tu38 tf38_0 (z := 0) ts36 rfl ⟨_, rfl⟩ rfl) F S rfl fun a F=>?_
     refine wE (ev_load1 tu36 rfl rfl (box_ptr (cells := [vp_1]) 1 rfl 0 rfl (lb rfl))) F S rfl fun a F=>?_
     refine wE (ev_lenSh hp_1 rfl tu36) F S rfl fun a F=>?_
     refine wE (ev_int rfl rfl (bo_lss _ _ _ _)) F S rfl fun a F=>?_
     refine wpList_nil ?_
     refine then_n ?_
     obtain ⟨hc5, hm⟩ | ⟨hc5, hm⟩ := ite_or hm
     ·refine wp_condT F rfl hc5 ?_
      refine wp_skip ?_
      refine then_n ?_
      refine wp_seq ?_
      refine wp_block ?_
      refine wp_seq ?_
      refine wp_quiet mo (by kernel_rfl) S ?_
      refine wq_ev (wn rfl) (ev_move rfl) F rfl rfl ?_; clear F a; intro a F
      refine wq_ev (wn rfl) (ev_fieldAddr' tu38 tf38_0 (z := 0) ts36 rfl ⟨_, rfl⟩ rfl) F rfl rfl ?_; clear F a; intro a F
      refine wq_ev (wn rfl) (ev_load1 tu36 rfl rfl (box_ptr (cells := [vp_1]) 1 rfl 0 rfl (lb rfl))) F rfl rfl ?_; clear F a; intro a F
      refine wq_ev (wn rfl) (ev_move rfl) F rfl rfl ?_; clear F a; intro a F
      obtain ⟨y13, hy13, hm⟩ := bind_some hm
      obtain ⟨cs6, hr8, hp2⟩ := elemS (hp_1.mono ((l1.trans l2).trans l9)) hy13
      obtain ⟨v13, v14, rfl, h13, h14⟩ := rep_Hunk hr8
      refine wq_ev (wn rfl) (ev_idxS (hp_1.mono ((l1.trans l2).trans l9)) hy13 tu36 ts60 rfl rfl) F rfl rfl ?_; clear F a; intro a F
      have hp3 := PtrC.field hp2 0 1 (lb rfl)
      have hp3 : PtrC g9 (addP (elemP vp_1 x5 3) 0) [.i6 y13.At] := hp3
      refine wq_ev (wn rfl) (ev_fieldAddr' tu60 tf60_0 (z := 0) ts3 rfl hp2.ptr rfl) F rfl rfl ?_; clear F a; intro a F
      refine wq_ev (wn rfl) (ev_load1 tu3 rfl rfl (ptr_mono (cks := [[bx b2 #[.i6 0, .i6 0] 24], [bx b1 #[vp_1] 38]]) (fr := fr) hp3 (Le.refl _))) F rfl rfl ?_; clear F a; intro a F
      refine wq_ev (wn rfl) (ev_fieldAddr' tu38 tf38_0 (z := 0) ts36 rfl ⟨_, rfl⟩ rfl) F rfl rfl ?_; clear F a; intro a F
      refine wq_ev (wn rfl) (ev_load1 tu36 rfl rfl (box_ptr (cells := [vp_1]) 1 rfl 0 rfl (lb rfl))) F rfl rfl ?_; clear F a; intro a F
      refine wq_ev (wn rfl) (ev_move rfl) F rfl rfl ?_; clear F a; intro a F
      obtain ⟨y14, hy14, hm⟩ := bind_some hm
      obtain ⟨cs7, hr9, hp4⟩ := elemS (hp_1.mono ((l1.trans l2).trans l9)) hy14
      obtain ⟨v15, v16, rfl, h15, h16⟩ := rep_Hunk hr9
      refine wq_ev (wn rfl) (ev_idxS (hp_1.mono ((l1.trans l2).trans l9)) hy14 tu36 ts60 rfl rfl) F rfl rfl ?_; clear F a; intro a F
      have hp5 := PtrC.field hp4 1 1 (lb rfl)
      have hp5 : PtrC g9 (addP (elemP vp_1 x5 3) 1) [v15] := hp5
      refine wq_ev (wn rfl) (ev_fieldAddr' tu60 tf60_1 (z := 0) ts31 rfl hp4.ptr rfl) F rfl rfl ?_; clear F a; intro a F
      refine wq_ev (wn rfl) (ev_load1 tu31 rfl rfl (ptr_mono (cks := [[bx b2 #[.i6 0, .i6 0] 24], [bx b1 #[vp_1] 38]]) (fr := fr) hp5 (Le.refl _))) F rfl rfl ?_; clear F a; intro a F
      obtain ⟨y15, hy15, hm⟩ := bind_some hm
      refine wq_call (wn rfl) rfl (xs := [.tmp 32, .tmp 38, .tmp 44]) (vs := [vtext1, .i6 y13.At, v15]) (cap := []) F rfl rfl tc56 (v := .bool y15) (fun w S => (changeforgeref1_has_ok (g := g9) (fr := (fl [[bx b2 #[.i6 0, .i6 0] 24], [bx b1 #[vp_1] 38]] fr)) (w := w) text vtext1 (htext1.mono ((l1.trans l2).trans l9)) y13.At y14.Old v15 h15 S hy15).mono (by rintro en w' ⟨_, rfl, g2, l2, S2, rfl⟩; exact ⟨rfl, S2.weak l2⟩)) rfl rfl ?_; clear F a; intro a F
      refine wq_ev (wn rfl) (ev_not rfl) F rfl rfl ?_; clear F a; intro a F
      refine wq_nil ?_; clear S; intro w S
      refine then_n ?_
      obtain ⟨hc6, hm⟩ | ⟨hc6, hm⟩ := ite_or hm
      ·refine wp_condT F rfl hc6 ?_
       refine wp_seq ?_
       refine wp_region_lit ?_
       refine wE (ev_move rfl) F S rfl fun a F=>?_
       obtain ⟨y16, hy16, hm⟩ := bind_some hm
       refine wl_call0 (wn rfl) rfl F rfl (changeforgeref1_At_ok (fr := (fl [[bx b2 #[.i6 0, .i6 0] 24], [bx b1 #[vp_1] 38]] fr)) 19 x5 S hy16) rfl tc26 rfl rfl ?_; clear F a S
       rintro _ a w ⟨g11, l11, S, rfl⟩ F; replace S : St g11 [[bx b2 #[.i6 0, .i6 0] 24], [bx b1 #[vp_1] 38]] fr w := S
       refine wE (ev_assign rfl) F S rfl fun a F=>?_
       refine wl_storeC (wn rfl) rfl F S rfl rfl (vs := [.i6 y16.Code, .i6 y16.Index]) rfl ts24 (one_cons rfl (one_cons rfl one_nil)) (k := 0) rfl (lb rfl) (c' := #[.i6 y16.Code, .i6 y16.Index]) rfl rfl ?_; clear S; intro w S
       refine wpList_nil ?_
       refine then_n ?_
       refine wp_ret ?_
       refine inb_r ?_
       refine then_r ?_
       refine then_r ?_
       refine inb_r ?_
       refine then_r ?_
       obtain rfl := sinj hm
       obtain rfl := hfin2 _ rfl
       clear hm
       have hm : (some ([], y16) : Option ((List ByteArray) × Fault)) = some _ := hmo2
       obtain rfl := sinj hm
       replace S : St g11 [[], [bx b2 #[.i6 y16.Code, .i6 y16.Index] 24], [bx b1 #[vp_1] 38]] fr w := S
       refine post_r _ F rfl (ar_cons (resT rfl) (ar_cons (resA rfl tu24 rfl (box_ptr (cells := [.i6 y16.Code, .i6 y16.Index]) 1 rfl 0 rfl (lb rfl) w S) ts24) ar_nil)) ?_
       replace S : St g11 [[]] fr w := St.tail [[]] _ (S.frontC 0 rfl)
       exact ⟨_, rfl, g11, (nilS), [], (((l1.trans l2).trans l9).trans l11), S, (OwnS.nil _), rfl⟩
      ·refine wp_condF F rfl hc6 ?_
       refine wp_skip ?_
       refine inb_n ?_
       refine then_n ?_
       refine wp_region_lit ?_
       refine wE (ev_move rfl) F S rfl fun a F=>?_
       obtain ⟨z3, hz3, hm⟩ := bind_some hm
       refine wE (ev_int rfl rfl (bo_add hz3)) F S rfl fun a F=>?_
       refine wE (ev_assign rfl) F S rfl fun a F=>?_
       refine wpList_nil ?_
       refine then_n ?_
       obtain rfl := sinj hm
       refine ⟨_, rfl, ?_⟩
       exact ⟨g9, F.sub ⟨rfl, rfl, rfl, rfl, trivial⟩, l9, S⟩
     ·refine wp_condF F rfl hc5 ?_
      refine wp_exit ?_
      refine then_e ?_
      refine then_e ?_
      refine inb_x ?_
      refine then_n ?_
      obtain rfl := sinj hm
      obtain rfl := hfin2 _ rfl
      clear hm
      have hm : (changeforgeref1_Apply.j1 p_ text : Option ((List ByteArray) × Fault)) = some _ := hmo2
      exact ⟨g9, F.sub ⟨rfl, rfl, rfl, trivial⟩, l9, S, hm⟩
   ·clear F S hm; rintro a w ⟨g4, F, l4, S, hm⟩
    refine wp_seq ?_
    refine wp_region_lit ?_
    refine wl_lit (l := ([] : List ByteArray)) (vs := []) (parts := []) (wn rfl) rfl rfl rfl tu31 te9 sz_nil rfl (Cat.nil _) coa_nil rfl F S rfl rfl ?_; clear F a S
    rintro v1 c1 a w h1 F S
    refine wE (ev_move rfl) F S rfl fun a F=>?_
    obtain ⟨cs1, hk1, hr1⟩ := RepSl.reads (htext1.mono ((l1.trans l2).trans l4))
    obtain ⟨y4, hy4, hm⟩ := bind_some hm
    refine wl_append (wn rfl) rfl tu31 tu31 te9 (by decide) (by decide) F S rfl rfl (k := 0) rfl h1 hk1 rfl (hr1 _ _ S) hy4 rfl rfl ?_; clear F a S
    rintro v2 c2 a w h2 S F; replace S : St g4 [c2, [bx b2 #[.i6 0, .i6 0] 24], [bx b1 #[vp_1] 38]] fr w := S
    refine wE (ev_assign rfl) F S rfl fun a F=>?_
    refine wpList_nil ?_
    refine then_n ?_
    refine wp_cut (fun a w => ∃ (x1 : List ByteArray) (v3 : Value) (c3 : Hl) (g5 : Gh), Fr 86 a [(9, v3), (5, bp b2 0)] ∧ Le g4 g5 ∧ St g5 [c3, [bx b2 #[.i6 0, .i6 0] 24]] fr w ∧ OwnS g5 x1 v3 c3 ∧ changeforgeref1_Apply.j2 x1 = some r) ?_ ?_
    ·refine wp_seq ?_
     refine wp_region_lit ?_
     refine wE (ev_fieldAddr' tu38 tf38_0 (z := 0) ts36 rfl ⟨_, rfl⟩ rfl) F S rfl fun a F=>?_
     refine wE (ev_load1 tu36 rfl rfl (box_ptr (cells := [vp_1]) 2 rfl 0 rfl (lb rfl))) F S rfl fun a F=>?_
     refine wE (ev_lenSh hp_1 rfl tu36) F S rfl fun a F=>?_
     obtain ⟨z1, hz1, hm⟩ := bind_some hm
     refine wE (ev_int rfl rfl (bo_sub hz1)) F S rfl fun a F=>?_
     refine wE (ev_assign rfl) F S rfl fun a F=>?_
     refine wpList_nil ?_
     refine then_n ?_
     refine wp_block ?_
     obtain ⟨r1, hr2, hm⟩ := bind_some hm
     have hmo1 := hm; clear hm
     refine wp_iter (σ := Int × (List ByteArray)) (ρ := (List ByteArray)) (m := fun s => changeforgeref1_Apply.l1 p_ s.1 s.2) (I := fun s a w => match s with | (x2, x3) => ∃ (v4 : Value) (c4 : Hl) (g7 : Gh), Fr 86 a [(10, .i6 x2), (9, v4), (5, bp b2 0), (2, bp b1 0)] ∧ Le g4 g7 ∧ St g7 [c4, [bx b2 #[.i6 0, .i6 0] 24], [bx b1 #[vp_1] 38]] fr w ∧ OwnS g7 x3 v4 c4) hr2 ?_ ?_
     ·dsimp only
      exact ⟨v2, c2, g4, F.sub ⟨rfl, rfl, rfl, rfl, trivial⟩, (Le.refl _), S, h2⟩
     ·clear F S; rintro ⟨x2, x3⟩ a w x4 ⟨v4, c4, g7, F, l7, S, h4⟩ hx1 hfin1
      have hm : changeforgeref1_Apply.l1 p_ x2 x3 = some x4 := hx1; clear hx1
      unfold changeforgeref1_Apply.l1 at hm
      refine wp_seq ?_
      refine wp_seq ?_
      refine wp_region_lit ?_
      refine wE (ev_move rfl) F S rfl fun a F=>?_
      refine wE (ev_int rfl rfl (bo_geq _ _ _ _)) F S rfl fun a F=>?_
      refine wpList_nil ?_
      refine then_n ?_
      obtain ⟨hc4, hm⟩ | ⟨hc4, hm⟩ := ite_or hm
      ·refine wp_condT F rfl hc4 ?_
       refine wp_skip ?_
       refine then_n ?_
       refine wp_seq ?_
       refine wp_block ?_
       refine wp_seq ?_
       refine wp_region_lit ?_
       refine wE (ev_fieldAddr' tu38 tf38_0 (z := 0) ts36 rfl ⟨_, rfl⟩ rfl) F S rfl fun a F=>?_
       refine wE (ev_load1 tu36 rfl rfl (box_ptr (cells := [vp_1]) 2 rfl 0 rfl (lb rfl))) F S rfl fun a F=>?_
       refine wE (ev_move rfl) F S rfl fun a F=>?_
       obtain ⟨y6, hy6, hm⟩ := bind_some hm
       obtain ⟨cs2, hr3, hp1⟩ := elemS (hp_1.mono (((l1.trans l2).trans l4).trans l7)) hy6
       obtain ⟨v5, v6, rfl, h5, h6⟩ := rep_Hunk hr3
       refine wE (ev_idxS (hp_1.mono (((l1.trans l2).trans l4).trans l7)) hy6 tu36 ts60 rfl rfl) F S rfl fun a F=>?_
       refine wE (ev_loadA tu60 rfl (cs := [.i6 y6.At, v5, v6]) ts60 rfl (ptr_mono (cks := [c4, [bx b2 #[.i6 0, .i6 0] 24], [bx b1 #[vp_1] 38]]) (fr := fr) hp1 (Le.refl _))) F S rfl fun a F=>?_
       refine wl_alloc (wn rfl) rfl tz60 (cs := [.i6 0, nilS, nilS]) rfl F S rfl rfl ?_; clear F a S; rintro b4 a w F S
       refine wl_storeC (wn rfl) rfl F S rfl rfl (vs := [.i6 y6.At, v5, v6]) rfl ts60 (one_cons rfl (one_cons h5.one (one_cons h6.one one_nil))) (k := 0) rfl (lb rfl) (c' := #[.i6 y6.At, v5, v6]) rfl rfl ?_; clear S; intro w S
       refine wpList_nil ?_
       refine then_n ?_
       refine wp_seq ?_
       refine wp_region_lit ?_
       refine wl_lit (l := ([] : List ByteArray)) (vs := []) (parts := []) (wn rfl) rfl rfl rfl tu31 te9 sz_nil rfl (Cat.nil _) coa_nil rfl F S rfl rfl ?_; clear F a S
       rintro v7 c5 a w h7 F S
       refine wE (ev_move rfl) F S rfl fun a F=>?_
       refine wE (ev_loadA tu60 rfl (cs := [.i6 y6.At, v5, v6]) ts60 rfl (box_ptr (cells := [.i6 y6.At, v5, v6]) 1 rfl 0 rfl (lb rfl))) F S rfl fun a F=>?_
       obtain ⟨y7, hy7, hm⟩ := bind_some hm
       refine wl_call0 (wn rfl) rfl F rfl (changeforgeref1_End_ok (fr := (fl [c5, [bx b4 #[.i6 y6.At, v5, v6] 60], c4, [bx b2 #[.i6 0, .i6 0] 24], [bx b1 #[vp_1] 38]] fr)) y6 v5 h5 v6 h6 S hy7) rfl tc57 rfl rfl ?_; clear F a S
       rintro _ a w ⟨g8, l8, S, rfl⟩ F; replace S : St g8 [c5, [bx b4 #[.i6 y6.At, v5, v6] 60], c4, [bx b2 #[.i6 0, .i6 0] 24], [bx b1 #[vp_1] 38]] fr w := S
       obtain ⟨y8, hy8, hm⟩ := bind_some hm
       obtain ⟨v8, h8, he1⟩ := ev_cutV (P := Try.prog) (n := 86) (e := [(68, .i6 y7), (67, .agg #[.i6 y6.At, v5, v6]), (66, v4), (65, v7), (11, bp b4 0), (64, .agg #[.i6 y6.At, v5, v6]), (63, (elemP vp_1 x2 3)), (62, .i6 x2), (61, vp_1), (60, bp b1 0), (57, .bool (decide (x2 ≥ 0))), (56, .i6 x2), (10, .i6 x2), (9, v4), (5, bp b2 0), (2, bp b1 0)]) (C := fun w => St g8 [c5, [bx b4 #[.i6 y6.At, v5, v6] 60], c4, [bx b2 #[.i6 0, .i6 0] 24], [bx b1 #[vp_1] 38]] fr w) (x := .tmp 66) (lo := some (.tmp 68)) (hi := Option.none) (h4.mono l8) hy8 tu31 ts9 rfl (bndV rfl) (bnd0 _)
       refine wE he1 F S rfl fun a F=>?_
       obtain ⟨_, cs3, hk2, hr4⟩ := h8
       obtain ⟨y9, hy9, hm⟩ := bind_some hm
       refine wl_append (wn rfl) rfl tu31 tu31 te9 (by decide) (by decide) F S rfl rfl (k := 0) rfl (h7.mono l8) hk2 rfl (hr4 _ _ _ 2 rfl S) hy9 rfl rfl ?_; clear F a S
       rintro v9 c6 a w h9 S F; replace S : St g8 [c6, [bx b4 #[.i6 y6.At, v5, v6] 60], c4, [bx b2 #[.i6 0, .i6 0] 24], [bx b1 #[vp_1] 38]] fr w := S
       refine wE (ev_assign rfl) F S rfl fun a F=>?_
       refine wpList_nil ?_
       refine then_n ?_
       refine wp_dv [9] mo S ?_; clear S; intro ok2 w S
       refine dv_et ok2 0 rfl (ev_move rfl) F rfl fun a F=>?_
       refine dv_et ok2 1 rfl (ev_fieldAddr' tu60 tf60_0 (z := 0) ts3 rfl ⟨_, rfl⟩ rfl) F rfl fun a F=>?_
       refine dv_ev ok2 2 rfl (ev_load1 tu3 rfl rfl (box_ptr (cells := [.i6 y6.At]) 1 rfl 0 rfl (lb rfl))) F S rfl fun a F=>?_
       obtain ⟨y10, hy10, hm⟩ := bind_some hm
       obtain ⟨v10, h10, he2⟩ := ev_cutOwn (P := Try.prog) (n := 86) (e := [(73, .i6 y6.At), (72, bp b4 0), (71, v4), (12, v9), (70, v9), (69, v8), (68, .i6 y7), (67, .agg #[.i6 y6.At, v5, v6]), (66, v4), (65, v7), (11, bp b4 0), (64, .agg #[.i6 y6.At, v5, v6]), (63, (elemP vp_1 x2 3)), (62, .i6 x2), (61, vp_1), (60, bp b1 0), (57, .bool (decide (x2 ≥ 0))), (56, .i6 x2), (10, .i6 x2), (9, v4), (5, bp b2 0), (2, bp b1 0)]) (C := fun _ => True) (x := .tmp 71) (lo := Option.none) (hi := some (.tmp 73)) (h4.mono l8) hy10 tu31 ts9 rfl (bnd0 _) (bndV rfl)
       refine dv_et ok2 3 rfl he2 F rfl fun a F=>?_
       refine dv_et ok2 4 rfl (ev_fieldAddr' tu60 tf60_2 (z := 0) ts31 rfl ⟨_, rfl⟩ rfl) F rfl fun a F=>?_
       refine dv_ev ok2 5 rfl (ev_load1 tu31 rfl rfl (box_ptr (cells := [v6]) 1 rfl 2 rfl (lb rfl))) F S rfl fun a F=>?_
       refine dv_et ok2 7 rfl (ev_move rfl) F rfl fun a F=>?_
       refine dv_op ok2 6 rfl [] ?_
       obtain ⟨cs4, hk3, hr5⟩ := RepSl.reads (h6.mono l8)
       obtain ⟨y11, hy11, hm⟩ := bind_some hm
       refine wl_append (wn rfl) rfl tu31 tu31 te9 (by decide) (by decide) F S rfl rfl (k := 2) rfl h10 hk3 rfl (hr5 _ _ S) hy11 rfl rfl ?_; clear F a S
       rintro v11 c7 a w h11 S F; replace S : St g8 [c6, [bx b4 #[.i6 y6.At, v5, v6] 60], c7, [bx b2 #[.i6 0, .i6 0] 24], [bx b1 #[vp_1] 38]] fr w := S
       refine dv_nx trivial ?_
       refine dv_op ok2 8 rfl [] ?_
       obtain ⟨cs5, hk4, hr6⟩ := OwnS.reads h9
       obtain ⟨y12, hy12, hm⟩ := bind_some hm
       refine wl_append (wn rfl) rfl tu31 tu31 te9 (by decide) (by decide) F S rfl rfl (k := 2) rfl h11 hk4 rfl (hr6 _ _ _ 0 rfl S) hy12 rfl rfl ?_; clear F a S
       rintro v12 c8 a w h12 S F; replace S : St g8 [c6, [bx b4 #[.i6 y6.At, v5, v6] 60], c8, [bx b2 #[.i6 0, .i6 0] 24], [bx b1 #[vp_1] 38]] fr w := S
       refine dv_nx trivial ?_
       refine dv_op ok2 9 rfl [] ?_
       refine wE (ev_assign rfl) F S rfl fun a F=>?_
       refine dv_nx trivial ?_
       refine dv_fin ok2 ?_
       refine inb_n ?_
       refine then_n ?_
       refine wp_region_lit ?_
       refine wE (ev_move rfl) F S rfl fun a F=>?_
       obtain ⟨z2, hz2, hm⟩ := bind_some hm
       refine wE (ev_int rfl rfl (bo_sub hz2)) F S rfl fun a F=>?_
       refine wE (ev_assign rfl) F S rfl fun a F=>?_
       refine wpList_nil ?_
       refine then_n ?_
       obtain rfl := sinj hm
       refine ⟨_, rfl, ?_⟩
       dsimp only
       replace S : St g8 [c8, [bx b2 #[.i6 0, .i6 0] 24], [bx b1 #[vp_1] 38]] fr w := St.tail [c8, [bx b2 #[.i6 0, .i6 0] 24], [bx b1 #[vp_1] 38]] _ (((S.frontC 4 rfl).frontC 4 rfl).frontC 4 rfl)
       exact ⟨v12, c8, g8, F.sub ⟨rfl, rfl, rfl, rfl, trivial⟩, (l7.trans l8), S, h12⟩
      ·refine wp_condF F rfl hc4 ?_
       refine wp_exit ?_
       refine then_e ?_
       refine then_e ?_
       refine inb_x ?_
       refine then_n ?_
       obtain rfl := sinj hm
       obtain rfl := hfin1 _ rfl
       clear hm
       have hm : (changeforgeref1_Apply.j2 x3 : Option ((List ByteArray) × Fault)) = some _ := hmo1
       replace S : St g7 [c4, [bx b2 #[.i6 0, .i6 0] 24]] fr w := St.tail [c4, [bx b2 #[.i6 0, .i6 0] 24]] _ ((S.frontC 1 rfl).frontC 1 rfl)
       exact ⟨x3, v4, c4, g7, F.sub ⟨rfl, rfl, trivial⟩, l7, S, h4, hm⟩
    ·clear F S hm; rintro a w ⟨x1, v3, c3, g5, F, l5, S, h3, hm⟩
     refine wp_seq ?_
     refine wp_seq ?_
     refine wp_region_lit ?_
     refine wE (ev_move rfl) F S rfl fun a F=>?_
     refine wE (ev_lenOw h3 rfl tu31) F S rfl fun a F=>?_
     refine wE (ev_int rfl rfl (bo_gtr _ _ _ _)) F S rfl fun a F=>?_
     refine wpList_nil ?_
     refine then_n ?_
     obtain ⟨hc3, hm⟩ | ⟨hc3, hm⟩ := ite_or hm
     ·refine wp_condT F rfl hc3 ?_
      refine wp_seq ?_
      refine wp_region_lit ?_
      obtain ⟨y5, hy5, hm⟩ := bind_some hm
      refine wl_call0 (wn rfl) rfl F rfl (changeforgeref1_At_ok (fr := (fl [c3, [bx b2 #[.i6 0, .i6 0] 24]] fr)) 10 (-1) S hy5) rfl tc26 rfl rfl ?_; clear F a S
      rintro _ a w ⟨g6, l6, S, rfl⟩ F; replace S : St g6 [c3, [bx b2 #[.i6 0, .i6 0] 24]] fr w := S
      refine wE (ev_assign rfl) F S rfl fun a F=>?_
      refine wl_storeC (wn rfl) rfl F S rfl rfl (vs := [.i6 y5.Code, .i6 y5.Index]) rfl ts24 (one_cons rfl (one_cons rfl one_nil)) (k := 1) rfl (lb rfl) (c' := #[.i6 y5.Code, .i6 y5.Index]) rfl rfl ?_; clear S; intro w S
      refine wpList_nil ?_
      refine then_n ?_
      refine wp_ret ?_
      refine then_r ?_
      obtain rfl := sinj hm
      replace S : St g6 [[], c3, [bx b2 #[.i6 y5.Code, .i6 y5.Index] 24]] fr w := S
      refine post_r _ F rfl (ar_cons (resT rfl) (ar_cons (resA rfl tu24 rfl (box_ptr (cells := [.i6 y5.Code, .i6 y5.Index]) 2 rfl 0 rfl (lb rfl) w S) ts24) ar_nil)) ?_
      replace S : St g6 [[]] fr w := St.tail [[]] _ (S.frontC 0 rfl)
      exact ⟨_, rfl, g6, (nilS), [], ((((l1.trans l2).trans l4).trans l5).trans l6), S, (OwnS.nil _), rfl⟩
     ·refine wp_condF F rfl hc3 ?_
      refine wp_skip ?_
      refine then_n ?_
      refine wp_seq ?_
      refine wp_region_lit ?_
      refine wE (ev_move rfl) F S rfl fun a F=>?_
      refine wE (ev_build (parts := []) (vs := []) rfl (fun w => tb24_  w)) F S rfl fun a F=>?_
      refine wE (ev_assign rfl) F S rfl fun a F=>?_
      refine wl_storeC (wn rfl) rfl F S rfl rfl (vs := [.i6 0, .i6 0]) rfl ts24 (one_cons rfl (one_cons rfl one_nil)) (k := 1) rfl (lb rfl) (c' := #[.i6 0, .i6 0]) rfl rfl ?_; clear S; intro w S
      refine wpList_nil ?_
      refine then_n ?_
      refine wp_ret ?_
      obtain rfl := sinj hm
      refine post_r _ F rfl (ar_cons (resT rfl) (ar_cons (resA rfl tu24 rfl (box_ptr (cells := [.i6 0, .i6 0]) 1 rfl 0 rfl (lb rfl) w S) ts24) ar_nil)) ?_
      replace S : St g5 [c3] fr w := St.tail [c3] _ (S.frontC 0 rfl)
      exact ⟨_, rfl, g5, v3, c3, (((l1.trans l2).trans l4).trans l5), S, h3, rfl⟩

theorem changeforgeref2_ApplyStack_ok {g : Gh} {fr : Hl} {w : World} {r : (List ByteArray) × Fault} (base : (List ByteArray)) (vbase1 : Value) (hbase1 : RepSl g base vbase1) (l_ : (List Patch)) (vl_1 : Value) (hl_1 : RepSl g l_ vl_1) (S : St g [] fr w) (hm : changeforgeref2_ApplyStack base l_ = some r) :
  Calls Try.prog 20 [vbase1, vl_1].toArray w (fun en w' => ∃ v, en = .returned v ∧ ∃ (g' : Gh) (v1 : Value), Le g g' ∧ St g' [] fr w' ∧ RepSl g' r.1 v1 ∧ .tuple #[v1, .agg #[.i6 r.2.Code, .i6 r.2.Index]] = v) := by
 unfold changeforgeref2_ApplyStack at hm
 refine calls_enter (fn := Try.f20) Try.func20 rfl Try.ntmps20 (lb rfl) ?_
 intro a F
 replace F : Fr 50 a [(0, vbase1), (1, vl_1)] := F
 refine wp_seq ?_
 refine wp_region_lit ?_
 refine wE (ev_assign rfl) F S rfl fun a F=>?_
 refine wl_alloc (wn rfl) rfl tz24 (cs := [.i6 0, .i6 0]) rfl F S rfl rfl ?_; clear F a S; rintro b1 a w F S
 refine wpList_nil ?_
 refine then_n ?_
 refine wp_seq ?_
 refine wp_seq ?_
 refine wp_region_lit ?_
 refine wE (ev_move rfl) F S rfl fun a F=>?_
 obtain ⟨y1, hy1, hm⟩ := bind_some hm
 refine wl_call0 (wn rfl) rfl F rfl (changeforgeref2_StackFault_ok (fr := (fl [[bx b1 #[.i6 0, .i6 0] 24]] fr)) l_ vl_1 hl_1 S hy1) rfl tc25 rfl rfl ?_; clear F a S
 rintro _ a w ⟨g1, l1, S, rfl⟩ F; replace S : St g1 [[bx b1 #[.i6 0, .i6 0] 24]] fr w := S
 refine wl_alloc (wn rfl) rfl tz24 (cs := [.i6 0, .i6 0]) rfl F S rfl rfl ?_; clear F a S; rintro b2 a w F S
 refine wl_storeC (wn rfl) rfl F S rfl rfl (vs := [.i6 y1.Code, .i6 y1.Index]) rfl ts24 (one_cons rfl (one_cons rfl one_nil)) (k := 0) rfl (lb rfl) (c' := #[.i6 y1.Code, .i6 y1.Index]) rfl rfl ?_; clear S; intro w S
 refine wpList_nil ?_
 refine then_n ?_
 refine wp_seq ?_
 refine wp_region_lit ?_
 refine wE (ev_fieldAddr' tu24 tf24_0 (z := 0) ts3 rfl ⟨_, rfl⟩ rfl) F S rfl fun a F=>?_
 refine wE (ev_load1 tu3 rfl rfl (box_ptr (cells := [.i6 y1.Code]) 0 rfl 0 rfl (lb rfl))) F S rfl fun a F=>?_
 refine wE (ev_int rfl rfl (bo_neq _ _ _ _)) F S rfl fun a F=>?_
 refine wpList_nil ?_
 refine then_n ?_
 obtain ⟨hc1, hm⟩ | ⟨hc1, hm⟩ := ite_or hm
 ·refine wp_condT F rfl hc1 ?_
  refine wp_seq ?_
  refine wp_dv [] mo S ?_; clear S; intro ok1 w S
  refine dv_ev ok1 0 rfl (ev_loadA tu24 rfl (cs := [.i6 y1.Code, .i6 y1.Index]) ts24 rfl (box_ptr (cells := [.i6 y1.Code, .i6 y1.Index]) 0 rfl 0 rfl (lb rfl))) F S rfl fun a F=>?_
  refine dv_et ok1 1 rfl (ev_assign rfl) F rfl fun a F=>?_
  refine dv_op ok1 2 rfl [] ?_
  refine wl_storeC (wn rfl) rfl F S rfl rfl (vs := [.i6 y1.Code, .i6 y1.Index]) rfl ts24 (one_cons rfl (one_cons rfl one_nil)) (k := 1) rfl (lb rfl) (c' := #[.i6 y1.Code, .i6 y1.Index]) rfl rfl ?_; clear S; intro w S
  refine dv_nx trivial ?_
  refine dv_fin ok1 ?_
  refine then_n ?_
  refine wp_ret ?_
  refine then_r ?_
  obtain rfl := sinj hm
  refine post_r _ F rfl (ar_cons (resT rfl) (ar_cons (resA rfl tu24 rfl (box_ptr (cells := [.i6 y1.Code, .i6 y1.Index]) 1 rfl 0 rfl (lb rfl) w S) ts24) ar_nil)) ?_
  replace S : St g1 [] fr w := St.tail [] _ S
  exact ⟨_, rfl, g1, (nilS), l1, S, (RepSl.nil _), rfl⟩
 ·refine wp_condF F rfl hc1 ?_
  refine wp_skip ?_
  refine then_n ?_
  refine wp_seq ?_
  refine wp_seq ?_
  refine wp_region_lit ?_
  refine wE (ev_move rfl) F S rfl fun a F=>?_
  obtain ⟨y2, hy2, hm⟩ := bind_some hm
  refine wl_call0 (wn rfl) rfl F rfl (changeforgeref1_LinesCode_ok (fr := (fl [[bx b2 #[.i6 y1.Code, .i6 y1.Index] 24], [bx b1 #[.i6 0, .i6 0] 24]] fr)) base vbase1 (hbase1.mono l1) S hy2) rfl tc40 rfl rfl ?_; clear F a S
  rintro _ a w ⟨g2, l2, S, rfl⟩ F; replace S : St g2 [[bx b2 #[.i6 y1.Code, .i6 y1.Index] 24], [bx b1 #[.i6 0, .i6 0] 24]] fr w := S
  refine wE (ev_assign rfl) F S rfl fun a F=>?_
  refine wpList_nil ?_
  refine then_n ?_
  refine wp_seq ?_
  refine wp_region_lit ?_
  refine wE (ev_move rfl) F S rfl fun a F=>?_
  refine wE (ev_int rfl rfl (bo_neq _ _ _ _)) F S rfl fun a F=>?_
  refine wpList_nil ?_
  refine then_n ?_
  obtain ⟨hc2, hm⟩ | ⟨hc2, hm⟩ := ite_or hm
  ·refine wp_condT F rfl hc2 ?_
   refine wp_seq ?_
   refine wp_region_lit ?_
   refine wE (ev_move rfl) F S rfl fun a F=>?_
   obtain ⟨y3, hy3, hm⟩ := bind_some hm
   refine wl_call0 (wn rfl) rfl F rfl (changeforgeref1_At_ok (fr := (fl [[bx b2 #[.i6 y1.Code, .i6 y1.Index] 24], [bx b1 #[.i6 0, .i6 0] 24]] fr)) y2 (-2) S hy3) rfl tc26 rfl rfl ?_; clear F a S
   rintro _ a w ⟨g3, l3, S, rfl⟩ F; replace S : St g3 [[bx b2 #[.i6 y1.Code, .i6 y1.Index] 24], [bx b1 #[.i6 0, .i6 0] 24]] fr w := S
   refine wE (ev_assign rfl) F S rfl fun a F=>?_
   refine wl_storeC (wn rfl) rfl F S rfl rfl (vs := [.i6 y3.Code, .i6 y3.Index]) rfl ts24 (one_cons rfl (one_cons rfl one_nil)) (k := 1) rfl (lb rfl) (c' := #[.i6 y3.Code, .i6 y3.Index]) rfl rfl ?_; clear S; intro w S
   refine wpList_nil ?_
   refine then_n ?_
   refine wp_ret ?_
   refine then_r ?_
   obtain rfl := sinj hm
   refine post_r _ F rfl (ar_cons (resT rfl) (ar_cons (resA rfl tu24 rfl (box_ptr (cells := [.i6 y3.Code, .i6 y3.Index]) 1 rfl 0 rfl (lb rfl) w S) ts24) ar_nil)) ?_
   replace S : St g3 [] fr w := St.tail [] _ S
   exact ⟨_, rfl, g3, (nilS), ((l1.trans l2).trans l3), S, (RepSl.nil _), rfl⟩
  ·refine wp_condF F rfl hc2 ?_
   refine wp_skip ?_
   refine then_n ?_
   refine wp_seq ?_
   refine wp_region_lit ?_
   refine wE (ev_move rfl) F S rfl fun a F=>?_
   refine wE (ev_assign rfl) F S rfl fun a F=>?_
   refine wpList_nil ?_
   refine then_n ?_
   refine wp_cut (fun a w => ∃ (x1 : List ByteArray) (v1 : Value) (g4 : Gh), Fr 50 a [(8, v1), (5, bp b1 0)] ∧ Le g2 g4 ∧ St g4 [[bx b1 #[.i6 0, .i6 0] 24]] fr w ∧ RepSl g4 x1 v1 ∧ changeforgeref2_ApplyStack.j1 x1 = some r) ?_ ?_
   ·refine wp_seq ?_
    refine wp_region_lit ?_
    refine wE (ev_assign rfl) F S rfl fun a F=>?_
    refine wpList_nil ?_
    refine then_n ?_
    refine wp_block ?_
    obtain ⟨r1, hr1, hm⟩ := bind_some hm
    have hmo1 := hm; clear hm
    refine wp_iter (σ := Int × (List ByteArray)) (ρ := ((List ByteArray) × Fault) ⊕ (List ByteArray)) (m := fun s => changeforgeref2_ApplyStack.l1 l_ s.1 s.2) (I := fun s a w => match s with | (x2, x3) => ∃ (v2 : Value) (g5 : Gh), Fr 50 a [(9, .i6 x2), (8, v2), (5, bp b1 0), (1, vl_1)] ∧ Le g2 g5 ∧ St g5 [[bx b1 #[.i6 0, .i6 0] 24]] fr w ∧ RepSl g5 x3 v2) hr1 ?_ ?_
    ·dsimp only
     replace S : St g2 [[bx b1 #[.i6 0, .i6 0] 24]] fr w := St.tail [[bx b1 #[.i6 0, .i6 0] 24]] _ (S.frontC 1 rfl)
     exact ⟨vbase1, g2, F.sub ⟨rfl, rfl, rfl, rfl, trivial⟩, (Le.refl _), S, (hbase1.mono (l1.trans l2))⟩
    ·clear F S; rintro ⟨x2, x3⟩ a w x4 ⟨v2, g5, F, l5, S, h2⟩ hx1 hfin1
     have hm : changeforgeref2_ApplyStack.l1 l_ x2 x3 = some x4 := hx1; clear hx1
     unfold changeforgeref2_ApplyStack.l1 at hm
     refine wp_seq ?_
     refine wp_seq ?_
     refine wp_region_lit ?_
     refine wE (ev_move rfl) F S rfl fun a F=>?_
     refine wE (ev_move rfl) F S rfl fun a F=>?_
     refine wE (ev_lenSh hl_1 rfl tu22) F S rfl fun a F=>?_
     refine wE (ev_int rfl rfl (bo_lss _ _ _ _)) F S rfl fun a F=>?_
     refine wpList_nil ?_
     refine then_n ?_
     obtain ⟨hc3, hm⟩ | ⟨hc3, hm⟩ := ite_or hm
     ·refine wp_condT F rfl hc3 ?_
      refine wp_skip ?_
      refine then_n ?_
      refine wp_seq ?_
      refine wp_block ?_
      refine wp_seq ?_
      refine wp_region_lit ?_
      refine wE (ev_move rfl) F S rfl fun a F=>?_
      refine wE (ev_move rfl) F S rfl fun a F=>?_
      obtain ⟨y4, hy4, hm⟩ := bind_some hm
      obtain ⟨cs1, hr2, hp1⟩ := elemS (hl_1.mono ((l1.trans l2).trans l5)) hy4
      obtain ⟨v3, rfl, h3⟩ := rep_Patch hr2
      refine wE (ev_idxS (hl_1.mono ((l1.trans l2).trans l5)) hy4 tu22 ts38 rfl rfl) F S rfl fun a F=>?_
      refine wE (ev_loadA tu38 rfl (cs := [v3]) ts38 rfl (ptr_mono (cks := [[bx b1 #[.i6 0, .i6 0] 24]]) (fr := fr) hp1 (Le.refl _))) F S rfl fun a F=>?_
      refine wE (ev_move rfl) F S rfl fun a F=>?_
      obtain ⟨y5, hy5, hm⟩ := bind_some hm
      refine wl_call0 (wn rfl) rfl F rfl (changeforgeref1_Apply_ok (fr := (fl [[bx b1 #[.i6 0, .i6 0] 24]] fr)) y4 v3 h3 x3 v2 h2 S hy5) rfl tc41 rfl rfl ?_; clear F a S
      rintro _ a w ⟨g6, v4, c1, l6, S, h4, rfl⟩ F; replace S : St g6 [c1, [bx b1 #[.i6 0, .i6 0] 24]] fr w := S
      refine wE (ev_move rfl) F S rfl fun a F=>?_
      refine wE (ev_extract rfl rfl) F S rfl fun a F=>?_
      refine wE (ev_extract rfl rfl) F S rfl fun a F=>?_
      refine wl_alloc (wn rfl) rfl tz24 (cs := [.i6 0, .i6 0]) rfl F S rfl rfl ?_; clear F a S; rintro b3 a w F S
      refine wE (ev_assign rfl) F S rfl fun a F=>?_
      refine wl_storeC (wn rfl) rfl F S rfl rfl (vs := [.i6 y5.2.Code, .i6 y5.2.Index]) rfl ts24 (one_cons rfl (one_cons rfl one_nil)) (k := 0) rfl (lb rfl) (c' := #[.i6 y5.2.Code, .i6 y5.2.Index]) rfl rfl ?_; clear S; intro w S
      refine wpList_nil ?_
      refine then_n ?_
      refine wp_seq ?_
      refine wp_seq ?_
      refine wp_region_lit ?_
      refine wE (ev_fieldAddr' tu24 tf24_0 (z := 0) ts3 rfl ⟨_, rfl⟩ rfl) F S rfl fun a F=>?_
      refine wE (ev_load1 tu3 rfl rfl (box_ptr (cells := [.i6 y5.2.Code]) 0 rfl 0 rfl (lb rfl))) F S rfl fun a F=>?_
      refine wE (ev_int rfl rfl (bo_neq _ _ _ _)) F S rfl fun a F=>?_
      refine wpList_nil ?_
      refine then_n ?_
      obtain ⟨hc4, hm⟩ | ⟨hc4, hm⟩ := ite_or hm
      ·refine wp_condT F rfl hc4 ?_
       refine wp_seq ?_
       refine wp_region_lit ?_
       refine wE (ev_fieldAddr' tu24 tf24_0 (z := 0) ts3 rfl ⟨_, rfl⟩ rfl) F S rfl fun a F=>?_
       refine wE (ev_load1 tu3 rfl rfl (box_ptr (cells := [.i6 y5.2.Code]) 0 rfl 0 rfl (lb rfl))) F S rfl fun a F=>?_
       refine wE (ev_move rfl) F S rfl fun a F=>?_
       obtain ⟨y6, hy6, hm⟩ := bind_some hm
       refine wl_call0 (wn rfl) rfl F rfl (changeforgeref1_At_ok (fr := (fl [[bx b3 #[.i6 y5.2.Code, .i6 y5.2.Index] 24], c1, [bx b1 #[.i6 0, .i6 0] 24]] fr)) y5.2.Code x2 S hy6) rfl tc26 rfl rfl ?_; clear F a S
       rintro _ a w ⟨g7, l7, S, rfl⟩ F; replace S : St g7 [[bx b3 #[.i6 y5.2.Code, .i6 y5.2.Index] 24], c1, [bx b1 #[.i6 0, .i6 0] 24]] fr w := S
       refine wE (ev_assign rfl) F S rfl fun a F=>?_
       refine wl_storeC (wn rfl) rfl F S rfl rfl (vs := [.i6 y6.Code, .i6 y6.Index]) rfl ts24 (one_cons rfl (one_cons rfl one_nil)) (k := 2) rfl (lb rfl) (c' := #[.i6 y6.Code, .i6 y6.Index]) rfl rfl ?_; clear S; intro w S
       refine wpList_nil ?_
       refine then_n ?_
       refine wp_ret ?_
       refine then_r ?_
       refine inb_r ?_
       refine then_r ?_
       refine then_r ?_
       refine inb_r ?_
       refine then_r ?_
       obtain rfl := sinj hm
       obtain rfl := hfin1 _ rfl
       clear hm
       have hm : (some ([], y6) : Option ((List ByteArray) × Fault)) = some _ := hmo1
       obtain rfl := sinj hm
       refine post_r _ F rfl (ar_cons (resT rfl) (ar_cons (resA rfl tu24 rfl (box_ptr (cells := [.i6 y6.Code, .i6 y6.Index]) 2 rfl 0 rfl (lb rfl) w S) ts24) ar_nil)) ?_
       replace S : St g7 [] fr w := St.tail [] _ S
       exact ⟨_, rfl, g7, (nilS), ((((l1.trans l2).trans l5).trans l6).trans l7), S, (RepSl.nil _), rfl⟩
      ·refine wp_condF F rfl hc4 ?_
       refine wp_skip ?_
       refine then_n ?_
       refine wp_region_lit ?_
       refine wE (ev_move rfl) F S rfl fun a F=>?_
       refine wE (ev_assign rfl) F S rfl fun a F=>?_
       refine wpList_nil ?_
       refine inb_n ?_
       refine then_n ?_
       refine wp_region_lit ?_
       refine wE (ev_move rfl) F S rfl fun a F=>?_
       obtain ⟨z1, hz1, hm⟩ := bind_some hm
       refine wE (ev_int rfl rfl (bo_add hz1)) F S rfl fun a F=>?_
       refine wE (ev_assign rfl) F S rfl fun a F=>?_
       refine wpList_nil ?_
       refine then_n ?_
       obtain rfl := sinj hm
       refine ⟨_, rfl, ?_⟩
       dsimp only
       obtain ⟨g8, l8, S, h5⟩ : ∃ gz, Le g6 gz ∧ St gz [[bx b3 #[.i6 y5.2.Code, .i6 y5.2.Index] 24], [bx b1 #[.i6 0, .i6 0] 24]] fr w ∧ RepSl gz y5.1 v4 := ⟨_, Le.add _ _, S.freeze 1 rfl, OwnS.freeze (S.front 1 rfl) h4⟩
       replace S : St g8 [[bx b1 #[.i6 0, .i6 0] 24]] fr w := St.tail [[bx b1 #[.i6 0, .i6 0] 24]] _ (S.frontC 1 rfl)
       exact ⟨v4, g8, F.sub ⟨rfl, rfl, rfl, rfl, trivial⟩, ((l5.trans l6).trans l8), S, h5⟩
     ·refine wp_condF F rfl hc3 ?_
      refine wp_exit ?_
      refine then_e ?_
      refine then_e ?_
      refine inb_x ?_
      refine then_n ?_
      obtain rfl := sinj hm
      obtain rfl := hfin1 _ rfl
      clear hm
      have hm : (changeforgeref2_ApplyStack.j1 x3 : Option ((List ByteArray) × Fault)) = some _ := hmo1
      exact ⟨x3, v2, g5, F.sub ⟨rfl, rfl, trivial⟩, l5, S, h2, hm⟩
   ·clear F S hm; rintro a w ⟨x1, v1, g4, F, l4, S, h1, hm⟩
    refine wp_seq ?_
    refine wp_region_lit ?_
    refine wE (ev_move rfl) F S rfl fun a F=>?_
    refine wE (ev_build (parts := []) (vs := []) rfl (fun w => tb24_  w)) F S rfl fun a F=>?_
    refine wE (ev_assign rfl) F S rfl fun a F=>?_
    refine wl_storeC (wn rfl) rfl F S rfl rfl (vs := [.i6 0, .i6 0]) rfl ts24 (one_cons rfl (one_cons rfl one_nil)) (k := 0) rfl (lb rfl) (c' := #[.i6 0, .i6 0]) rfl rfl ?_; clear S; intro w S
    refine wpList_nil ?_
    refine then_n ?_
    refine wp_ret ?_
    obtain rfl := sinj hm
    refine post_r _ F rfl (ar_cons (resT rfl) (ar_cons (resA rfl tu24 rfl (box_ptr (cells := [.i6 0, .i6 0]) 0 rfl 0 rfl (lb rfl) w S) ts24) ar_nil)) ?_
    replace S : St g4 [] fr w := St.tail [] _ S
    exact ⟨_, rfl, g4, v1, ((l1.trans l2).trans l4), S, h1, rfl⟩

theorem changeforgeref1_fits_ok {g : Gh} {fr : Hl} {w : World} {r : Patch × Fault} (p_ : Patch) (vp_1 : Value) (hp_1 : RepSl g p_.Hunks vp_1) (S : St g [] fr w) (hm : changeforgeref1_fits p_ = some r) :
  Calls Try.prog 61 [.agg #[vp_1]].toArray w (fun en w' => ∃ v, en = .returned v ∧ ∃ (g' : Gh) (v1 : Value), Le g g' ∧ St g' [] fr w' ∧ RepSl g' r.1.Hunks v1 ∧ .tuple #[.agg #[v1], .agg #[.i6 r.2.Code, .i6 r.2.Index]] = v) := by
 unfold changeforgeref1_fits at hm
 refine calls_enter (fn := Try.f61) Try.func61 rfl Try.ntmps61 (lb rfl) ?_
 intro a F
 replace F : Fr 12 a [(0, .agg #[vp_1])] := F
 refine wp_seq ?_
 refine wp_region_lit ?_
 refine wl_boxC (wn rfl) rfl rfl rfl F S rfl rfl ?_; clear F a S; rintro b1 a w F S
 refine wl_alloc (wn rfl) rfl tz38 (cs := [nilS]) rfl F S rfl rfl ?_; clear F a S; rintro b2 a w F S
 refine wl_alloc (wn rfl) rfl tz24 (cs := [.i6 0, .i6 0]) rfl F S rfl rfl ?_; clear F a S; rintro b3 a w F S
 refine wpList_nil ?_
 refine then_n ?_
 refine wp_seq ?_
 refine wp_seq ?_
 refine wp_region_lit ?_
 refine wE (ev_loadA tu38 rfl (cs := [vp_1]) ts38 rfl (box_ptr (cells := [vp_1]) 2 rfl 0 rfl (lb rfl))) F S rfl fun a F=>?_
 obtain ⟨y1, hy1, hm⟩ := bind_some hm
 refine wl_call0 (wn rfl) rfl F rfl (changeforgeref1_PatchFault_ok (fr := (fl [[bx b3 #[.i6 0, .i6 0] 24], [bx b2 #[nilS] 38], [bx b1 #[vp_1] 38]] fr)) p_ vp_1 hp_1 S hy1) rfl tc46 rfl rfl ?_; clear F a S
 rintro _ a w ⟨g1, l1, S, rfl⟩ F; replace S : St g1 [[bx b3 #[.i6 0, .i6 0] 24], [bx b2 #[nilS] 38], [bx b1 #[vp_1] 38]] fr w := S
 refine wE (ev_field1 tu24 tf24_0 tu3 rfl (cs := [.i6 y1.Code, .i6 y1.Index]) rfl rfl) F S rfl fun a F=>?_
 refine wE (ev_int rfl rfl (bo_neq _ _ _ _)) F S rfl fun a F=>?_
 refine wpList_nil ?_
 refine then_n ?_
 obtain ⟨hc1, hm⟩ | ⟨hc1, hm⟩ := ite_or hm
 ·refine wp_condT F rfl hc1 ?_
  refine wp_seq ?_
  refine wp_region_lit ?_
  refine wE (ev_build (parts := []) (vs := []) rfl (fun w => tb38_  w)) F S rfl fun a F=>?_
  obtain ⟨y2, hy2, hm⟩ := bind_some hm
  refine wl_call0 (wn rfl) rfl F rfl (changeforgeref1_At_ok (fr := (fl [[bx b3 #[.i6 0, .i6 0] 24], [bx b2 #[nilS] 38], [bx b1 #[vp_1] 38]] fr)) 10 (-1) S hy2) rfl tc26 rfl rfl ?_; clear F a S
  rintro _ a w ⟨g2, l2, S, rfl⟩ F; replace S : St g2 [[bx b3 #[.i6 0, .i6 0] 24], [bx b2 #[nilS] 38], [bx b1 #[vp_1] 38]] fr w := S
  refine wl_storeC (wn rfl) rfl F S rfl rfl (vs := [nilS]) rfl ts38 (one_cons rfl one_nil) (k := 1) rfl (lb rfl) (c' := #[nilS]) rfl rfl ?_; clear S; intro w S
  refine wl_storeC (wn rfl) rfl F S rfl rfl (vs := [.i6 y2.Code, .i6 y2.Index]) rfl ts24 (one_cons rfl (one_cons rfl one_nil)) (k := 0) rfl (lb rfl) (c' := #[.i6 y2.Code, .i6 y2.Index]) rfl rfl ?_; clear S; intro w S
  refine wpList_nil ?_
  refine then_n ?_
  refine wp_ret ?_
  refine then_r ?_
  obtain rfl := sinj hm
  refine post_r _ F rfl (ar_cons (resA rfl tu38 rfl (box_ptr (cells := [nilS]) 1 rfl 0 rfl (lb rfl) w S) ts38) (ar_cons (resA rfl tu24 rfl (box_ptr (cells := [.i6 y2.Code, .i6 y2.Index]) 0 rfl 0 rfl (lb rfl) w S) ts24) ar_nil)) ?_
  replace S : St g2 [] fr w := St.tail [] _ S
  exact ⟨_, rfl, g2, (nilS), (l1.trans l2), S, (RepSl.nil _), rfl⟩
 ·refine wp_condF F rfl hc1 ?_
  refine wp_skip ?_
  refine then_n ?_
  refine wp_seq ?_
  refine wp_region_lit ?_
  refine wE (ev_loadA tu38 rfl (cs := [vp_1]) ts38 rfl (box_ptr (cells := [vp_1]) 2 rfl 0 rfl (lb rfl))) F S rfl fun a F=>?_
  refine wE (ev_build (parts := []) (vs := []) rfl (fun w => tb24_  w)) F S rfl fun a F=>?_
  refine wl_storeC (wn rfl) rfl F S rfl rfl (vs := [vp_1]) rfl ts38 (one_cons hp_1.one one_nil) (k := 1) rfl (lb rfl) (c' := #[vp_1]) rfl rfl ?_; clear S; intro w S
  refine wl_storeC (wn rfl) rfl F S rfl rfl (vs := [.i6 0, .i6 0]) rfl ts24 (one_cons rfl (one_cons rfl one_nil)) (k := 0) rfl (lb rfl) (c' := #[.i6 0, .i6 0]) rfl rfl ?_; clear S; intro w S
  refine wpList_nil ?_
  refine then_n ?_
  refine wp_ret ?_
  obtain rfl := sinj hm
  refine post_r _ F rfl (ar_cons (resA rfl tu38 rfl (box_ptr (cells := [vp_1]) 1 rfl 0 rfl (lb rfl) w S) ts38) (ar_cons (resA rfl tu24 rfl (box_ptr (cells := [.i6 0, .i6 0]) 0 rfl 0 rfl (lb rfl) w S) ts24) ar_nil)) ?_
  replace S : St g1 [] fr w := St.tail [] _ S
  exact ⟨_, rfl, g1, vp_1, l1, S, (hp_1.mono l1), rfl⟩
end Go.Dc
