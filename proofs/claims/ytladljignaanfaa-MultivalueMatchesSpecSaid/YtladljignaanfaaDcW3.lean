/- Walks: each function comes to what its model says. -/
import Derived.Test.YtladljignaanfaaDcTab
import Derived.Test.YtladljignaanfaaDcM
import Derived.Test.YtladljignaanfaaDcW2
namespace Go.Dc
open Go Go.Proofs
set_option maxRecDepth 100000
set_option maxHeartbeats 4000000
set_option linter.unusedVariables false
theorem changeforgeref1_At_ok {g : Gh} {fr : Hl} {w : World} {r : Fault} (code : Int) (index : Int) (S : St g [] fr w) (hm : changeforgeref1_At code index = some r) :
  Calls Try.prog 19 [.i6 code, .i6 index].toArray w (fun en w' => ∃ v, en = .returned v ∧ ∃ (g' : Gh), Le g g' ∧ St g' [] fr w' ∧ .agg #[.i6 r.Code, .i6 r.Index] = v) := by
 unfold changeforgeref1_At at hm
 refine calls_enter (fn := Try.f19) Try.func19 rfl Try.ntmps19 (lb rfl) ?_
 intro a F
 replace F : Fr 8 a [(0, .i6 code), (1, .i6 index)] := F
 refine wp_seq ?_
 refine wp_region_lit ?_
 refine wl_alloc (wn rfl) rfl tz24 (cs := [.i6 0, .i6 0]) rfl F S rfl rfl ?_; clear F a S; rintro b1 a w F S
 refine wpList_nil ?_
 refine then_n ?_
 refine wp_seq ?_
 refine wp_region_lit ?_
 refine wE (ev_move rfl) F S rfl fun a F=>?_
 refine wE (ev_move rfl) F S rfl fun a F=>?_
 refine wE (ev_build (parts := [(0, .tmp 5), (1, .tmp 6)]) (vs := [(0, .i6 code), (1, .i6 index)]) rfl (fun w => tb24_0_1 code index w)) F S rfl fun a F=>?_
 refine wl_storeC (wn rfl) rfl F S rfl rfl (vs := [.i6 code, .i6 index]) rfl ts24 (one_cons rfl (one_cons rfl one_nil)) (k := 0) rfl (lb rfl) (c' := #[.i6 code, .i6 index]) rfl rfl ?_; clear S; intro w S
 refine wpList_nil ?_
 refine then_n ?_
 refine wp_ret ?_
 obtain rfl := sinj hm
 refine post_r _ F rfl (ar_cons (resA rfl tu24 rfl (box_ptr (cells := [.i6 code, .i6 index]) 0 rfl 0 rfl (lb rfl) w S) ts24) ar_nil) ?_
 replace S : St g [] fr w := St.tail [] _ S
 exact ⟨_, rfl, g, (Le.refl _), S, rfl⟩

theorem changeforgeref2_less_ok {g : Gh} {fr : Hl} {w : World} {r : Bool} (a_ : (List Int)) (va_1 : Value) (ha_1 : RepSl g a_ va_1) (b_ : (List Int)) (vb_1 : Value) (hb_1 : RepSl g b_ vb_1) (S : St g [] fr w) (hm : changeforgeref2_less a_ b_ = some r) :
  Calls Try.prog 27 [va_1, vb_1].toArray w (fun en w' => ∃ v, en = .returned v ∧ ∃ (g' : Gh), Le g g' ∧ St g' [] fr w' ∧ .bool r = v) := by
 unfold changeforgeref2_less at hm
 refine calls_enter (fn := Try.f27) Try.func27 rfl Try.ntmps27 (lb rfl) ?_
 intro a F
 replace F : Fr 30 a [(0, va_1), (1, vb_1)] := F
 refine wp_seq ?_
 refine wp_region_lit ?_
 refine wE (ev_assign rfl) F S rfl fun a F=>?_
 refine wpList_nil ?_
 refine then_n ?_
 refine wp_cut (fun a w => ∃ (g1 : Gh), Fr 30 a [] ∧ Le g g1 ∧ St g1 [] fr w ∧ changeforgeref2_less.j1 = some r) ?_ ?_
 ·refine wp_seq ?_
  refine wp_region_lit ?_
  refine wE (ev_assign rfl) F S rfl fun a F=>?_
  refine wpList_nil ?_
  refine then_n ?_
  refine wp_block ?_
  obtain ⟨r1, hr1, hm⟩ := bind_some hm
  have hmo1 := hm; clear hm
  refine wp_iter (σ := Int) (ρ := Bool ⊕ Unit) (m := fun s => changeforgeref2_less.l1 a_ b_ s) (I := fun x1 a w => ∃ (g2 : Gh), Fr 30 a [(5, .i6 x1), (0, va_1), (1, vb_1)] ∧ Le g g2 ∧ St g2 [] fr w) hr1 ?_ ?_
  ·exact ⟨g, F.sub ⟨rfl, rfl, rfl, trivial⟩, (Le.refl _), S⟩
  ·clear F S; rintro x1 a w x2 ⟨g2, F, l2, S⟩ hx1 hfin1
   have hm : changeforgeref2_less.l1 a_ b_ x1 = some x2 := hx1; clear hx1
   unfold changeforgeref2_less.l1 at hm
   refine wp_seq ?_
   refine wp_seq ?_
   refine wp_region_lit ?_
   refine wE (ev_move rfl) F S rfl fun a F=>?_
   refine wE (ev_move rfl) F S rfl fun a F=>?_
   refine wE (ev_lenSh ha_1 rfl tu33) F S rfl fun a F=>?_
   refine wE (ev_int rfl rfl (bo_lss _ _ _ _)) F S rfl fun a F=>?_
   refine wpList_nil ?_
   refine then_n ?_
   obtain ⟨hc1, hm⟩ | ⟨hc1, hm⟩ := ite_or hm
   ·refine wp_condT F rfl hc1 ?_
    refine wp_skip ?_
    refine then_n ?_
    refine wp_seq ?_
    refine wp_block ?_
    refine wp_seq ?_
    refine wp_quiet mo (by kernel_rfl) S ?_
    refine wq_ev (wn rfl) (ev_move rfl) F rfl rfl ?_; clear F a; intro a F
    refine wq_ev (wn rfl) (ev_move rfl) F rfl rfl ?_; clear F a; intro a F
    obtain ⟨y1, hy1, hm⟩ := bind_some hm
    obtain ⟨cs1, hr2, hp1⟩ := elemS (ha_1.mono l2) hy1
    obtain rfl := rep_int hr2
    refine wq_ev (wn rfl) (ev_idxS (ha_1.mono l2) hy1 tu33 ts3 rfl rfl) F rfl rfl ?_; clear F a; intro a F
    refine wq_ev (wn rfl) (ev_load1 tu3 rfl rfl (ptr_mono (cks := []) (fr := fr) hp1 (Le.refl _))) F rfl rfl ?_; clear F a; intro a F
    refine wq_ev (wn rfl) (ev_move rfl) F rfl rfl ?_; clear F a; intro a F
    refine wq_ev (wn rfl) (ev_move rfl) F rfl rfl ?_; clear F a; intro a F
    obtain ⟨y2, hy2, hm⟩ := bind_some hm
    obtain ⟨cs2, hr3, hp2⟩ := elemS (hb_1.mono l2) hy2
    obtain rfl := rep_int hr3
    refine wq_ev (wn rfl) (ev_idxS (hb_1.mono l2) hy2 tu33 ts3 rfl rfl) F rfl rfl ?_; clear F a; intro a F
    refine wq_ev (wn rfl) (ev_load1 tu3 rfl rfl (ptr_mono (cks := []) (fr := fr) hp2 (Le.refl _))) F rfl rfl ?_; clear F a; intro a F
    refine wq_ev (wn rfl) (ev_int rfl rfl (bo_neq _ _ _ _)) F rfl rfl ?_; clear F a; intro a F
    refine wq_nil ?_; clear S; intro w S
    refine then_n ?_
    obtain ⟨hc2, hm⟩ | ⟨hc2, hm⟩ := ite_or hm
    ·refine wp_condT F rfl hc2 ?_
     refine wp_seq ?_
     refine wp_quiet mo (by kernel_rfl) S ?_
     refine wq_ev (wn rfl) (ev_move rfl) F rfl rfl ?_; clear F a; intro a F
     refine wq_ev (wn rfl) (ev_move rfl) F rfl rfl ?_; clear F a; intro a F
     obtain ⟨y3, hy3, hm⟩ := bind_some hm
     obtain ⟨cs3, hr4, hp3⟩ := elemS (ha_1.mono l2) hy3
     obtain rfl := rep_int hr4
     refine wq_ev (wn rfl) (ev_idxS (ha_1.mono l2) hy3 tu33 ts3 rfl rfl) F rfl rfl ?_; clear F a; intro a F
     refine wq_ev (wn rfl) (ev_load1 tu3 rfl rfl (ptr_mono (cks := []) (fr := fr) hp3 (Le.refl _))) F rfl rfl ?_; clear F a; intro a F
     refine wq_ev (wn rfl) (ev_move rfl) F rfl rfl ?_; clear F a; intro a F
     refine wq_ev (wn rfl) (ev_move rfl) F rfl rfl ?_; clear F a; intro a F
     obtain ⟨y4, hy4, hm⟩ := bind_some hm
     obtain ⟨cs4, hr5, hp4⟩ := elemS (hb_1.mono l2) hy4
     obtain rfl := rep_int hr5
     refine wq_ev (wn rfl) (ev_idxS (hb_1.mono l2) hy4 tu33 ts3 rfl rfl) F rfl rfl ?_; clear F a; intro a F
     refine wq_ev (wn rfl) (ev_load1 tu3 rfl rfl (ptr_mono (cks := []) (fr := fr) hp4 (Le.refl _))) F rfl rfl ?_; clear F a; intro a F
     refine wq_ev (wn rfl) (ev_int rfl rfl (bo_lss _ _ _ _)) F rfl rfl ?_; clear F a; intro a F
     refine wq_ev (wn rfl) (ev_assign rfl) F rfl rfl ?_; clear F a; intro a F
     refine wq_nil ?_; clear S; intro w S
     refine then_n ?_
     refine wp_ret ?_
     refine inb_r ?_
     refine then_r ?_
     refine then_r ?_
     refine inb_r ?_
     refine then_r ?_
     obtain rfl := sinj hm
     obtain rfl := hfin1 _ rfl
     clear hm
     have hm : (some (decide (y3 < y4)) : Option Bool) = some _ := hmo1
     obtain rfl := sinj hm
     refine post_r _ F rfl (ar_cons (resT rfl) ar_nil) ?_
     exact ⟨_, rfl, g2, l2, S, rfl⟩
    ·refine wp_condF F rfl hc2 ?_
     refine wp_skip ?_
     refine inb_n ?_
     refine then_n ?_
     refine wp_region_lit ?_
     refine wE (ev_move rfl) F S rfl fun a F=>?_
     obtain ⟨z1, hz1, hm⟩ := bind_some hm
     refine wE (ev_int rfl rfl (bo_add hz1)) F S rfl fun a F=>?_
     refine wE (ev_assign rfl) F S rfl fun a F=>?_
     refine wpList_nil ?_
     refine then_n ?_
     obtain rfl := sinj hm
     refine ⟨_, rfl, ?_⟩
     exact ⟨g2, F.sub ⟨rfl, rfl, rfl, trivial⟩, l2, S⟩
   ·refine wp_condF F rfl hc1 ?_
    refine wp_exit ?_
    refine then_e ?_
    refine then_e ?_
    refine inb_x ?_
    refine then_n ?_
    obtain rfl := sinj hm
    obtain rfl := hfin1 _ rfl
    clear hm
    have hm : (changeforgeref2_less.j1 : Option Bool) = some _ := hmo1
    exact ⟨g2, F.sub trivial, l2, S, hm⟩
 ·clear F S hm; rintro a w ⟨g1, F, l1, S, hm⟩
  refine wp_seq ?_
  refine wp_region_lit ?_
  refine wE (ev_assign rfl) F S rfl fun a F=>?_
  refine wpList_nil ?_
  refine then_n ?_
  refine wp_ret ?_
  obtain rfl := sinj hm
  refine post_r _ F rfl (ar_cons (resT rfl) ar_nil) ?_
  exact ⟨_, rfl, g1, l1, S, rfl⟩

theorem changeforgeref2_ValuesFault_ok {g : Gh} {fr : Hl} {w : World} {r : Fault} (l_ : (List VersionedValue)) (vl_1 : Value) (hl_1 : RepSl g l_ vl_1) (S : St g [] fr w) (hm : changeforgeref2_ValuesFault l_ = some r) :
  Calls Try.prog 14 [vl_1].toArray w (fun en w' => ∃ v, en = .returned v ∧ ∃ (g' : Gh), Le g g' ∧ St g' [] fr w' ∧ .agg #[.i6 r.Code, .i6 r.Index] = v) := by
 unfold changeforgeref2_ValuesFault at hm
 refine calls_enter (fn := Try.f14) Try.func14 rfl Try.ntmps14 (lb rfl) ?_
 intro a F
 replace F : Fr 114 a [(0, vl_1)] := F
 refine wp_seq ?_
 refine wp_region_lit ?_
 refine wl_alloc (wn rfl) rfl tz24 (cs := [.i6 0, .i6 0]) rfl F S rfl rfl ?_; clear F a S; rintro b1 a w F S
 refine wpList_nil ?_
 refine then_n ?_
 refine wp_seq ?_
 refine wp_seq ?_
 refine wp_region_lit ?_
 refine wE (ev_move rfl) F S rfl fun a F=>?_
 refine wE (ev_lenSh hl_1 rfl tu22) F S rfl fun a F=>?_
 refine wE (ev_int rfl rfl (bo_gtr _ _ _ _)) F S rfl fun a F=>?_
 refine wpList_nil ?_
 refine then_n ?_
 obtain ⟨hc1, hm⟩ | ⟨hc1, hm⟩ := ite_or hm
 ·refine wp_condT F rfl hc1 ?_
  refine wp_seq ?_
  refine wp_region_lit ?_
  obtain ⟨y1, hy1, hm⟩ := bind_some hm
  refine wl_call0 (wn rfl) rfl F rfl (changeforgeref1_At_ok (fr := (fl [[bx b1 #[.i6 0, .i6 0] 24]] fr)) 2 (-1) S hy1) rfl tc19 rfl rfl ?_; clear F a S
  rintro _ a w ⟨g1, l1, S, rfl⟩ F; replace S : St g1 [[bx b1 #[.i6 0, .i6 0] 24]] fr w := S
  refine wl_storeC (wn rfl) rfl F S rfl rfl (vs := [.i6 y1.Code, .i6 y1.Index]) rfl ts24 (one_cons rfl (one_cons rfl one_nil)) (k := 0) rfl (lb rfl) (c' := #[.i6 y1.Code, .i6 y1.Index]) rfl rfl ?_; clear S; intro w S
  refine wpList_nil ?_
  refine then_n ?_
  refine wp_ret ?_
  refine then_r ?_
  obtain rfl := sinj hm
  refine post_r _ F rfl (ar_cons (resA rfl tu24 rfl (box_ptr (cells := [.i6 y1.Code, .i6 y1.Index]) 0 rfl 0 rfl (lb rfl) w S) ts24) ar_nil) ?_
  replace S : St g1 [] fr w := St.tail [] _ S
  exact ⟨_, rfl, g1, l1, S, rfl⟩
 ·refine wp_condF F rfl hc1 ?_
  refine wp_skip ?_
  refine then_n ?_
  refine wp_cut (fun a w => ∃ (g2 : Gh), Fr 114 a [(2, bp b1 0)] ∧ Le g g2 ∧ St g2 [[bx b1 #[.i6 0, .i6 0] 24]] fr w ∧ changeforgeref2_ValuesFault.j1 = some r) ?_ ?_
  ·refine wp_seq ?_
   refine wp_region_lit ?_
   refine wE (ev_assign rfl) F S rfl fun a F=>?_
   refine wpList_nil ?_
   refine then_n ?_
   refine wp_block ?_
   obtain ⟨r1, hr1, hm⟩ := bind_some hm
   have hmo1 := hm; clear hm
   refine wp_iter (σ := Int) (ρ := Fault ⊕ Unit) (m := fun s => changeforgeref2_ValuesFault.l1 l_ s) (I := fun x1 a w => ∃ (g3 : Gh), Fr 114 a [(3, .i6 x1), (2, bp b1 0), (0, vl_1)] ∧ Le g g3 ∧ St g3 [[bx b1 #[.i6 0, .i6 0] 24]] fr w) hr1 ?_ ?_
   ·exact ⟨g, F.sub ⟨rfl, rfl, rfl, trivial⟩, (Le.refl _), S⟩
   ·clear F S; rintro x1 a w x2 ⟨g3, F, l3, S⟩ hx1 hfin1
    have hm : changeforgeref2_ValuesFault.l1 l_ x1 = some x2 := hx1; clear hx1
    unfold changeforgeref2_ValuesFault.l1 at hm
    refine wp_seq ?_
    refine wp_seq ?_
    refine wp_region_lit ?_
    refine wE (ev_move rfl) F S rfl fun a F=>?_
    refine wE (ev_move rfl) F S rfl fun a F=>?_
    refine wE (ev_lenSh hl_1 rfl tu22) F S rfl fun a F=>?_
    refine wE (ev_int rfl rfl (bo_lss _ _ _ _)) F S rfl fun a F=>?_
    refine wpList_nil ?_
    refine then_n ?_
    obtain ⟨hc2, hm⟩ | ⟨hc2, hm⟩ := ite_or hm
    ·refine wp_condT F rfl hc2 ?_
     refine wp_skip ?_
     refine then_n ?_
     refine wp_cut (fun a w => ∃ (g4 : Gh), Fr 114 a [(3, .i6 x1), (2, bp b1 0), (0, vl_1)] ∧ Le g3 g4 ∧ St g4 [[bx b1 #[.i6 0, .i6 0] 24]] fr w ∧ changeforgeref2_ValuesFault.j2 x1 = some x2) ?_ ?_
     ·refine wp_block ?_
      refine wp_seq ?_
      refine wp_region_lit ?_
      refine wE (ev_move rfl) F S rfl fun a F=>?_
      refine wE (ev_move rfl) F S rfl fun a F=>?_
      obtain ⟨y2, hy2, hm⟩ := bind_some hm
      obtain ⟨cs1, hr2, hp1⟩ := elemS (hl_1.mono l3) hy2
      obtain ⟨v1, rfl, h1⟩ := rep_VersionedValue hr2
      refine wE (ev_idxS (hl_1.mono l3) hy2 tu22 ts35 rfl rfl) F S rfl fun a F=>?_
      refine wE (ev_loadA tu35 rfl (cs := [.i6 y2.Value, v1]) ts35 rfl (ptr_mono (cks := [[bx b1 #[.i6 0, .i6 0] 24]]) (fr := fr) hp1 (Le.refl _))) F S rfl fun a F=>?_
      refine wl_alloc (wn rfl) rfl tz35 (cs := [.i6 0, nilS]) rfl F S rfl rfl ?_; clear F a S; rintro b2 a w F S
      refine wl_storeC (wn rfl) rfl F S rfl rfl (vs := [.i6 y2.Value, v1]) rfl ts35 (one_cons rfl (one_cons h1.one one_nil)) (k := 0) rfl (lb rfl) (c' := #[.i6 y2.Value, v1]) rfl rfl ?_; clear S; intro w S
      refine wpList_nil ?_
      refine then_n ?_
      refine wp_seq ?_
      refine wp_seq ?_
      refine wp_region_lit ?_
      refine wE (ev_fieldAddr' tu35 tf35_0 (z := 0) ts3 rfl ⟨_, rfl⟩ rfl) F S rfl fun a F=>?_
      refine wE (ev_load1 tu3 rfl rfl (box_ptr (cells := [.i6 y2.Value]) 0 rfl 0 rfl (lb rfl))) F S rfl fun a F=>?_
      refine wE (ev_int rfl rfl (bo_lss _ _ _ _)) F S rfl fun a F=>?_
      refine wE (ev_move rfl) F S rfl fun a F=>?_
      obtain ⟨x3, hx2, hm⟩ := bind_some hm
      refine wl_cut 4 (fun a w' => w = w' ∧ Fr 114 a [(31, .bool x3), (4, bp b2 0), (3, .i6 x1), (2, bp b1 0), (0, vl_1)]) ?_ ?_
      ·clear hm; obtain ⟨hc3, hm⟩ | ⟨hc3, hm⟩ := ite_or hx2
       ·refine wl_skip rfl rfl rfl rfl (ne_ft hc3) F rfl rfl ?_; clear F a; intro a F
        refine wl_skip rfl rfl rfl rfl (ne_ft hc3) F rfl rfl ?_; clear F a; intro a F
        refine wl_skip rfl rfl rfl rfl (ne_ft hc3) F rfl rfl ?_; clear F a; intro a F
        refine wE (ev_pickT rfl hc3 rfl) F S rfl fun a F=>?_
        obtain rfl := sinj hm
        refine wpList_nil (then_n ?_); exact ⟨rfl, F.sub ⟨rfl, rfl, rfl, rfl, rfl, trivial⟩⟩
       ·refine wl_ev (wg F rfl rfl rfl rfl hc3) (ev_fieldAddr' tu35 tf35_0 (z := 0) ts3 rfl ⟨_, rfl⟩ rfl) F S rfl rfl ?_; clear F a; intro a F
        refine wl_ev (wg F rfl rfl rfl rfl hc3) (ev_load1 tu3 rfl rfl (box_ptr (cells := [.i6 y2.Value]) 0 rfl 0 rfl (lb rfl))) F S rfl rfl ?_; clear F a; intro a F
        refine wl_ev (wg F rfl rfl rfl rfl hc3) (ev_int rfl rfl (bo_gtr _ _ _ _)) F S rfl rfl ?_; clear F a; intro a F
        refine wE (ev_pickF rfl hc3 rfl) F S rfl fun a F=>?_
        obtain rfl := sinj hm
        refine wpList_nil (then_n ?_); exact ⟨rfl, F.sub ⟨rfl, rfl, rfl, rfl, rfl, trivial⟩⟩
      clear F; rintro a w' ⟨rfl, F⟩
      refine wpList_nil ?_
      refine then_n ?_
      obtain ⟨hc4, hm⟩ | ⟨hc4, hm⟩ := ite_or hm
      ·refine wp_condT F rfl hc4 ?_
       refine wp_seq ?_
       refine wp_region_lit ?_
       refine wE (ev_move rfl) F S rfl fun a F=>?_
       obtain ⟨y3, hy3, hm⟩ := bind_some hm
       refine wl_call0 (wn rfl) rfl F rfl (changeforgeref1_At_ok (fr := (fl [[bx b2 #[.i6 y2.Value, v1] 35], [bx b1 #[.i6 0, .i6 0] 24]] fr)) 3 x1 S hy3) rfl tc19 rfl rfl ?_; clear F a S
       rintro _ a w ⟨g5, l5, S, rfl⟩ F; replace S : St g5 [[bx b2 #[.i6 y2.Value, v1] 35], [bx b1 #[.i6 0, .i6 0] 24]] fr w := S
       refine wl_storeC (wn rfl) rfl F S rfl rfl (vs := [.i6 y3.Code, .i6 y3.Index]) rfl ts24 (one_cons rfl (one_cons rfl one_nil)) (k := 1) rfl (lb rfl) (c' := #[.i6 y3.Code, .i6 y3.Index]) rfl rfl ?_; clear S; intro w S
       refine wpList_nil ?_
       refine then_n ?_
       refine wp_ret ?_
       refine then_r ?_
       refine inb_r ?_
       refine then_r ?_
       refine then_r ?_
       refine inb_r ?_
       refine then_r ?_
       obtain rfl := sinj hm
       obtain rfl := hfin1 _ rfl
       clear hm
       have hm : (some y3 : Option Fault) = some _ := hmo1
       obtain rfl := sinj hm
       refine post_r _ F rfl (ar_cons (resA rfl tu24 rfl (box_ptr (cells := [.i6 y3.Code, .i6 y3.Index]) 1 rfl 0 rfl (lb rfl) w S) ts24) ar_nil) ?_
       replace S : St g5 [] fr w := St.tail [] _ S
       exact ⟨_, rfl, g5, (l3.trans l5), S, rfl⟩
      ·refine wp_condF F rfl hc4 ?_
       refine wp_skip ?_
       refine then_n ?_
       refine wp_seq ?_
       refine wp_seq ?_
       refine wp_region_lit ?_
       refine wE (ev_fieldAddr' tu35 tf35_1 (z := 0) ts33 rfl ⟨_, rfl⟩ rfl) F S rfl fun a F=>?_
       refine wE (ev_load1 tu33 rfl rfl (box_ptr (cells := [v1]) 0 rfl 1 rfl (lb rfl))) F S rfl fun a F=>?_
       refine wE (ev_lenSh h1 rfl tu33) F S rfl fun a F=>?_
       refine wE (ev_int rfl rfl (bo_neq _ _ _ _)) F S rfl fun a F=>?_
       refine wpList_nil ?_
       refine then_n ?_
       obtain ⟨hc5, hm⟩ | ⟨hc5, hm⟩ := ite_or hm
       ·refine wp_condT F rfl hc5 ?_
        refine wp_seq ?_
        refine wp_region_lit ?_
        refine wE (ev_move rfl) F S rfl fun a F=>?_
        obtain ⟨y4, hy4, hm⟩ := bind_some hm
        refine wl_call0 (wn rfl) rfl F rfl (changeforgeref1_At_ok (fr := (fl [[bx b2 #[.i6 y2.Value, v1] 35], [bx b1 #[.i6 0, .i6 0] 24]] fr)) 9 x1 S hy4) rfl tc19 rfl rfl ?_; clear F a S
        rintro _ a w ⟨g6, l6, S, rfl⟩ F; replace S : St g6 [[bx b2 #[.i6 y2.Value, v1] 35], [bx b1 #[.i6 0, .i6 0] 24]] fr w := S
        refine wl_storeC (wn rfl) rfl F S rfl rfl (vs := [.i6 y4.Code, .i6 y4.Index]) rfl ts24 (one_cons rfl (one_cons rfl one_nil)) (k := 1) rfl (lb rfl) (c' := #[.i6 y4.Code, .i6 y4.Index]) rfl rfl ?_; clear S; intro w S
        refine wpList_nil ?_
        refine then_n ?_
        refine wp_ret ?_
        refine then_r ?_
        refine inb_r ?_
        refine then_r ?_
        refine then_r ?_
        refine inb_r ?_
        refine then_r ?_
        obtain rfl := sinj hm
        obtain rfl := hfin1 _ rfl
        clear hm
        have hm : (some y4 : Option Fault) = some _ := hmo1
        obtain rfl := sinj hm
        refine post_r _ F rfl (ar_cons (resA rfl tu24 rfl (box_ptr (cells := [.i6 y4.Code, .i6 y4.Index]) 1 rfl 0 rfl (lb rfl) w S) ts24) ar_nil) ?_
        replace S : St g6 [] fr w := St.tail [] _ S
        exact ⟨_, rfl, g6, (l3.trans l6), S, rfl⟩
       ·refine wp_condF F rfl hc5 ?_
        refine wp_skip ?_
        refine then_n ?_
        refine wp_seq ?_
        refine wp_region_lit ?_
        refine wE (ev_assign rfl) F S rfl fun a F=>?_
        refine wpList_nil ?_
        refine then_n ?_
        refine wp_cut (fun a w => ∃ (x4 : Bool) (g7 : Gh), Fr 114 a [(5, .bool x4), (4, bp b2 0), (3, .i6 x1), (2, bp b1 0), (0, vl_1)] ∧ Le g3 g7 ∧ St g7 [[bx b2 #[.i6 y2.Value, v1] 35], [bx b1 #[.i6 0, .i6 0] 24]] fr w ∧ changeforgeref2_ValuesFault.j3 l_ x1 y2 x4 = some x2) ?_ ?_
        ·refine wp_seq ?_
         refine wp_region_lit ?_
         refine wE (ev_assign rfl) F S rfl fun a F=>?_
         refine wpList_nil ?_
         refine then_n ?_
         refine wp_block ?_
         obtain ⟨r3, hr6, hm⟩ := bind_some hm
         have hmo3 := hm; clear hm
         refine wp_iter (σ := Int × Bool) (ρ := Fault ⊕ Bool) (m := fun s => changeforgeref2_ValuesFault.l3 x1 y2 s.1 s.2) (I := fun s a w => match s with | (x10, x11) => ∃ (g14 : Gh), Fr 114 a [(6, .i6 x10), (5, .bool x11), (4, bp b2 0), (3, .i6 x1), (2, bp b1 0), (0, vl_1)] ∧ Le g3 g14 ∧ St g14 [[bx b2 #[.i6 y2.Value, v1] 35], [bx b1 #[.i6 0, .i6 0] 24]] fr w) hr6 ?_ ?_
         ·dsimp only
          exact ⟨g3, F.sub ⟨rfl, rfl, rfl, rfl, rfl, rfl, trivial⟩, (Le.refl _), S⟩
         ·clear F S; rintro ⟨x10, x11⟩ a w x12 ⟨g14, F, l14, S⟩ hx7 hfin3
          have hm : changeforgeref2_ValuesFault.l3 x1 y2 x10 x11 = some x12 := hx7; clear hx7
          unfold changeforgeref2_ValuesFault.l3 at hm
          refine wp_seq ?_
          refine wp_seq ?_
          refine wp_region_lit ?_
          refine wE (ev_move rfl) F S rfl fun a F=>?_
          refine wE (ev_fieldAddr' tu35 tf35_1 (z := 0) ts33 rfl ⟨_, rfl⟩ rfl) F S rfl fun a F=>?_
          refine wE (ev_load1 tu33 rfl rfl (box_ptr (cells := [v1]) 0 rfl 1 rfl (lb rfl))) F S rfl fun a F=>?_
          refine wE (ev_lenSh h1 rfl tu33) F S rfl fun a F=>?_
          refine wE (ev_int rfl rfl (bo_lss _ _ _ _)) F S rfl fun a F=>?_
          refine wpList_nil ?_
          refine then_n ?_
          obtain ⟨hc12, hm⟩ | ⟨hc12, hm⟩ := ite_or hm
          ·refine wp_condT F rfl hc12 ?_
           refine wp_skip ?_
           refine then_n ?_
           refine wp_seq ?_
           refine wp_block ?_
           refine wp_seq ?_
           refine wp_seq ?_
           refine wp_region_lit ?_
           refine wE (ev_fieldAddr' tu35 tf35_1 (z := 0) ts33 rfl ⟨_, rfl⟩ rfl) F S rfl fun a F=>?_
           refine wE (ev_load1 tu33 rfl rfl (box_ptr (cells := [v1]) 0 rfl 1 rfl (lb rfl))) F S rfl fun a F=>?_
           refine wE (ev_move rfl) F S rfl fun a F=>?_
           obtain ⟨y11, hy11, hm⟩ := bind_some hm
           obtain ⟨cs4, hr7, hp6⟩ := elemS (h1.mono l14) hy11
           obtain rfl := rep_int hr7
           refine wE (ev_idxS (h1.mono l14) hy11 tu33 ts3 rfl rfl) F S rfl fun a F=>?_
           refine wE (ev_load1 tu3 rfl rfl (ptr_mono (cks := [[bx b2 #[.i6 y2.Value, v1] 35], [bx b1 #[.i6 0, .i6 0] 24]]) (fr := fr) hp6 (Le.refl _))) F S rfl fun a F=>?_
           refine wE (ev_int rfl rfl (bo_lss _ _ _ _)) F S rfl fun a F=>?_
           refine wE (ev_move rfl) F S rfl fun a F=>?_
           obtain ⟨x13, hx8, hm⟩ := bind_some hm
           refine wl_cut 7 (fun a w' => w = w' ∧ Fr 114 a [(60, .bool x13), (6, .i6 x10), (5, .bool x11), (4, bp b2 0), (3, .i6 x1), (2, bp b1 0), (0, vl_1)]) ?_ ?_
           ·clear hm; obtain ⟨hc13, hm⟩ | ⟨hc13, hm⟩ := ite_or hx8
            ·refine wl_skip rfl rfl rfl rfl (ne_ft hc13) F rfl rfl ?_; clear F a; intro a F
             refine wl_skip rfl rfl rfl rfl (ne_ft hc13) F rfl rfl ?_; clear F a; intro a F
             refine wl_skip rfl rfl rfl rfl (ne_ft hc13) F rfl rfl ?_; clear F a; intro a F
             refine wl_skip rfl rfl rfl rfl (ne_ft hc13) F rfl rfl ?_; clear F a; intro a F
             refine wl_skip rfl rfl rfl rfl (ne_ft hc13) F rfl rfl ?_; clear F a; intro a F
             refine wl_skip rfl rfl rfl rfl (ne_ft hc13) F rfl rfl ?_; clear F a; intro a F
             refine wE (ev_pickT rfl hc13 rfl) F S rfl fun a F=>?_
             obtain rfl := sinj hm
             refine wpList_nil (then_n ?_); exact ⟨rfl, F.sub ⟨rfl, rfl, rfl, rfl, rfl, rfl, rfl, trivial⟩⟩
            ·refine wl_ev (wg F rfl rfl rfl rfl hc13) (ev_fieldAddr' tu35 tf35_1 (z := 0) ts33 rfl ⟨_, rfl⟩ rfl) F S rfl rfl ?_; clear F a; intro a F
             refine wl_ev (wg F rfl rfl rfl rfl hc13) (ev_load1 tu33 rfl rfl (box_ptr (cells := [v1]) 0 rfl 1 rfl (lb rfl))) F S rfl rfl ?_; clear F a; intro a F
             refine wl_ev (wg F rfl rfl rfl rfl hc13) (ev_move rfl) F S rfl rfl ?_; clear F a; intro a F
             obtain ⟨y12, hy12, hm⟩ := bind_some hm
             obtain ⟨cs5, hr8, hp7⟩ := elemS (h1.mono l14) hy12
             obtain rfl := rep_int hr8
             refine wl_ev (wg F rfl rfl rfl rfl hc13) (ev_idxS (h1.mono l14) hy12 tu33 ts3 rfl rfl) F S rfl rfl ?_; clear F a; intro a F
             refine wl_ev (wg F rfl rfl rfl rfl hc13) (ev_load1 tu3 rfl rfl (ptr_mono (cks := [[bx b2 #[.i6 y2.Value, v1] 35], [bx b1 #[.i6 0, .i6 0] 24]]) (fr := fr) hp7 (Le.refl _))) F S rfl rfl ?_; clear F a; intro a F
             refine wl_ev (wg F rfl rfl rfl rfl hc13) (ev_int rfl rfl (bo_gtr _ _ _ _)) F S rfl rfl ?_; clear F a; intro a F
             refine wE (ev_pickF rfl hc13 rfl) F S rfl fun a F=>?_
             obtain rfl := sinj hm
             refine wpList_nil (then_n ?_); exact ⟨rfl, F.sub ⟨rfl, rfl, rfl, rfl, rfl, rfl, rfl, trivial⟩⟩
           clear F; rintro a w' ⟨rfl, F⟩
           refine wpList_nil ?_
           refine then_n ?_
           obtain ⟨hc14, hm⟩ | ⟨hc14, hm⟩ := ite_or hm
           ·refine wp_condT F rfl hc14 ?_
            refine wp_seq ?_
            refine wp_region_lit ?_
            refine wE (ev_move rfl) F S rfl fun a F=>?_
            obtain ⟨y13, hy13, hm⟩ := bind_some hm
            refine wl_call0 (wn rfl) rfl F rfl (changeforgeref1_At_ok (fr := (fl [[bx b2 #[.i6 y2.Value, v1] 35], [bx b1 #[.i6 0, .i6 0] 24]] fr)) 3 x1 S hy13) rfl tc19 rfl rfl ?_; clear F a S
            rintro _ a w ⟨g15, l15, S, rfl⟩ F; replace S : St g15 [[bx b2 #[.i6 y2.Value, v1] 35], [bx b1 #[.i6 0, .i6 0] 24]] fr w := S
            refine wl_storeC (wn rfl) rfl F S rfl rfl (vs := [.i6 y13.Code, .i6 y13.Index]) rfl ts24 (one_cons rfl (one_cons rfl one_nil)) (k := 1) rfl (lb rfl) (c' := #[.i6 y13.Code, .i6 y13.Index]) rfl rfl ?_; clear S; intro w S
            refine wpList_nil ?_
            refine then_n ?_
            refine wp_ret ?_
            refine then_r ?_
            refine inb_r ?_
            refine then_r ?_
            refine then_r ?_
            refine inb_r ?_
            refine then_r ?_
            refine inb_r ?_
            refine then_r ?_
            refine then_r ?_
            refine inb_r ?_
            refine then_r ?_
            obtain rfl := sinj hm
            obtain rfl := hfin3 _ rfl
            clear hm
            have hm : (some (Step.done (Sum.inl y13)) : Option (Step Int (Fault ⊕ Unit))) = some _ := hmo3
            obtain rfl := sinj hm
            obtain rfl := hfin1 _ rfl
            clear hm
            have hm : (some y13 : Option Fault) = some _ := hmo1
            obtain rfl := sinj hm
            refine post_r _ F rfl (ar_cons (resA rfl tu24 rfl (box_ptr (cells := [.i6 y13.Code, .i6 y13.Index]) 1 rfl 0 rfl (lb rfl) w S) ts24) ar_nil) ?_
            replace S : St g15 [] fr w := St.tail [] _ S
            exact ⟨_, rfl, g15, ((l3.trans l14).trans l15), S, rfl⟩
           ·refine wp_condF F rfl hc14 ?_
            refine wp_skip ?_
            refine then_n ?_
            refine wp_region_lit ?_
            refine wE (ev_move rfl) F S rfl fun a F=>?_
            refine wE (ev_move rfl) F S rfl fun a F=>?_
            obtain ⟨x14, hx9, hm⟩ := bind_some hm
            refine wl_cut 7 (fun a w' => w = w' ∧ Fr 114 a [(71, .bool x14), (6, .i6 x10), (5, .bool x11), (4, bp b2 0), (3, .i6 x1), (2, bp b1 0), (0, vl_1)]) ?_ ?_
            ·clear hm; obtain ⟨hc15, hm⟩ | ⟨hc15, hm⟩ := ite_or hx9
             ·refine wl_ev (wg F rfl rfl rfl rfl hc15) (ev_fieldAddr' tu35 tf35_1 (z := 0) ts33 rfl ⟨_, rfl⟩ rfl) F S rfl rfl ?_; clear F a; intro a F
              refine wl_ev (wg F rfl rfl rfl rfl hc15) (ev_load1 tu33 rfl rfl (box_ptr (cells := [v1]) 0 rfl 1 rfl (lb rfl))) F S rfl rfl ?_; clear F a; intro a F
              refine wl_ev (wg F rfl rfl rfl rfl hc15) (ev_move rfl) F S rfl rfl ?_; clear F a; intro a F
              obtain ⟨y14, hy14, hm⟩ := bind_some hm
              obtain ⟨cs6, hr9, hp8⟩ := elemS (h1.mono l14) hy14
              obtain rfl := rep_int hr9
              refine wl_ev (wg F rfl rfl rfl rfl hc15) (ev_idxS (h1.mono l14) hy14 tu33 ts3 rfl rfl) F S rfl rfl ?_; clear F a; intro a F
              refine wl_ev (wg F rfl rfl rfl rfl hc15) (ev_load1 tu3 rfl rfl (ptr_mono (cks := [[bx b2 #[.i6 y2.Value, v1] 35], [bx b1 #[.i6 0, .i6 0] 24]]) (fr := fr) hp8 (Le.refl _))) F S rfl rfl ?_; clear F a; intro a F
              refine wl_ev (wg F rfl rfl rfl rfl hc15) (ev_int rfl rfl (bo_eql _ _ _ _)) F S rfl rfl ?_; clear F a; intro a F
              refine wE (ev_pickT rfl hc15 rfl) F S rfl fun a F=>?_
              obtain rfl := sinj hm
              refine wpList_nil (then_n ?_); exact ⟨rfl, F.sub ⟨rfl, rfl, rfl, rfl, rfl, rfl, rfl, trivial⟩⟩
             ·refine wl_skip rfl rfl rfl rfl (ne_tf hc15) F rfl rfl ?_; clear F a; intro a F
              refine wl_skip rfl rfl rfl rfl (ne_tf hc15) F rfl rfl ?_; clear F a; intro a F
              refine wl_skip rfl rfl rfl rfl (ne_tf hc15) F rfl rfl ?_; clear F a; intro a F
              refine wl_skip rfl rfl rfl rfl (ne_tf hc15) F rfl rfl ?_; clear F a; intro a F
              refine wl_skip rfl rfl rfl rfl (ne_tf hc15) F rfl rfl ?_; clear F a; intro a F
              refine wl_skip rfl rfl rfl rfl (ne_tf hc15) F rfl rfl ?_; clear F a; intro a F
              refine wE (ev_pickF rfl hc15 rfl) F S rfl fun a F=>?_
              obtain rfl := sinj hm
              refine wpList_nil (then_n ?_); exact ⟨rfl, F.sub ⟨rfl, rfl, rfl, rfl, rfl, rfl, rfl, trivial⟩⟩
            clear F; rintro a w' ⟨rfl, F⟩
            refine wE (ev_assign rfl) F S rfl fun a F=>?_
            refine wpList_nil ?_
            refine inb_n ?_
            refine then_n ?_
            refine wp_region_lit ?_
            refine wE (ev_move rfl) F S rfl fun a F=>?_
            obtain ⟨z4, hz4, hm⟩ := bind_some hm
            refine wE (ev_int rfl rfl (bo_add hz4)) F S rfl fun a F=>?_
            refine wE (ev_assign rfl) F S rfl fun a F=>?_
            refine wpList_nil ?_
            refine then_n ?_
            obtain rfl := sinj hm
            refine ⟨_, rfl, ?_⟩
            dsimp only
            exact ⟨g14, F.sub ⟨rfl, rfl, rfl, rfl, rfl, rfl, trivial⟩, l14, S⟩
          ·refine wp_condF F rfl hc12 ?_
           refine wp_exit ?_
           refine then_e ?_
           refine then_e ?_
           refine inb_x ?_
           refine then_n ?_
           obtain rfl := sinj hm
           obtain rfl := hfin3 _ rfl
           clear hm
           have hm : (changeforgeref2_ValuesFault.j3 l_ x1 y2 x11 : Option (Step Int (Fault ⊕ Unit))) = some _ := hmo3
           exact ⟨x11, g14, F.sub ⟨rfl, rfl, rfl, rfl, rfl, trivial⟩, l14, S, hm⟩
        ·clear F S hm; rintro a w ⟨x4, g7, F, l7, S, hm⟩
         refine wp_seq ?_
         refine wp_seq ?_
         refine wp_quiet mo (by kernel_rfl) S ?_
         refine wq_ev (wn rfl) (ev_move rfl) F rfl rfl ?_; clear F a; intro a F
         refine wq_ev (wn rfl) (ev_move rfl) F rfl rfl ?_; clear F a; intro a F
         obtain ⟨x5, hx3, hm⟩ := bind_some hm
         refine wq_cut 15 (fun a => Fr 114 a [(88, .bool x5), (4, bp b2 0), (3, .i6 x1), (2, bp b1 0), (0, vl_1)]) ?_ ?_
         ·clear hm; obtain ⟨hc6, hm⟩ | ⟨hc6, hm⟩ := ite_or hx3
          ·refine wq_skip rfl rfl rfl rfl (ne_ft hc6) F rfl rfl ?_; clear F a; intro a F
           refine wq_skip rfl rfl rfl rfl (ne_ft hc6) F rfl rfl ?_; clear F a; intro a F
           refine wq_skip rfl rfl rfl rfl (ne_ft hc6) F rfl rfl ?_; clear F a; intro a F
           refine wq_skipu rfl rfl rfl rfl F rfl rfl ?_; clear F a; intro a F
           refine wq_skipu rfl rfl rfl rfl F rfl rfl ?_; clear F a; intro a F
           refine wq_skipu rfl rfl rfl rfl F rfl rfl ?_; clear F a; intro a F
           refine wq_skipu rfl rfl rfl rfl F rfl rfl ?_; clear F a; intro a F
           refine wq_skipu rfl rfl rfl rfl F rfl rfl ?_; clear F a; intro a F
           refine wq_skipu rfl rfl rfl rfl F rfl rfl ?_; clear F a; intro a F
           refine wq_skipu rfl rfl rfl rfl F rfl rfl ?_; clear F a; intro a F
           refine wq_skipu rfl rfl rfl rfl F rfl rfl ?_; clear F a; intro a F
           refine wq_skipu rfl rfl rfl rfl F rfl rfl ?_; clear F a; intro a F
           refine wq_skipu rfl rfl rfl rfl F rfl rfl ?_; clear F a; intro a F
           refine wq_skip rfl rfl rfl rfl (ne_ft hc6) F rfl rfl ?_; clear F a; intro a F
           refine wq_ev (wn rfl) (ev_pickT rfl hc6 rfl) F rfl rfl ?_; clear F a; intro a F
           obtain rfl := sinj hm
           refine wq_nil ?_; exact F.sub ⟨rfl, rfl, rfl, rfl, rfl, trivial⟩
          ·refine wq_ev (wg F rfl rfl rfl rfl hc6) (ev_move rfl) F rfl rfl ?_; clear F a; intro a F
           refine wq_ev (wg F rfl rfl rfl rfl hc6) (ev_int rfl rfl (bo_gtr _ _ _ _)) F rfl rfl ?_; clear F a; intro a F
           refine wq_ev (wg F rfl rfl rfl rfl hc6) (ev_move rfl) F rfl rfl ?_; clear F a; intro a F
           obtain ⟨x6, hx4, hm⟩ := bind_some hm
           refine wq_cut 11 (fun a => Fr 114 a [(87, .bool x6), (76, .bool (decide (x1 > 0))), (75, .bool (decide (x1 > 0))), (74, .i6 x1), (73, .bool x4), (4, bp b2 0), (3, .i6 x1), (2, bp b1 0), (0, vl_1)]) ?_ ?_
           ·clear hm; obtain ⟨hc7, hm⟩ | ⟨hc7, hm⟩ := ite_or hx4
            ·refine wq_ev (wg F rfl rfl rfl rfl hc7) (ev_move rfl) F rfl rfl ?_; clear F a; intro a F
             refine wq_ev (wg F rfl rfl rfl rfl hc7) (ev_move rfl) F rfl rfl ?_; clear F a; intro a F
             obtain ⟨z2, hz2, hm⟩ := bind_some hm
             refine wq_ev (wg F rfl rfl rfl rfl hc7) (ev_int rfl rfl (bo_sub hz2)) F rfl rfl ?_; clear F a; intro a F
             obtain ⟨y5, hy5, hm⟩ := bind_some hm
             obtain ⟨cs2, hr3, hp2⟩ := elemS (hl_1.mono (l3.trans l7)) hy5
             obtain ⟨v2, rfl, h2⟩ := rep_VersionedValue hr3
             refine wq_ev (wg F rfl rfl rfl rfl hc7) (ev_idxS (hl_1.mono (l3.trans l7)) hy5 tu22 ts35 rfl rfl) F rfl rfl ?_; clear F a; intro a F
             have hp3 := PtrC.field hp2 1 1 (lb rfl)
             have hp3 : PtrC g7 (addP (elemP vl_1 z2 2) 1) [v2] := hp3
             refine wq_ev (wg F rfl rfl rfl rfl hc7) (ev_fieldAddr' tu35 tf35_1 (z := 0) ts33 rfl hp2.ptr rfl) F rfl rfl ?_; clear F a; intro a F
             refine wq_ev (wg F rfl rfl rfl rfl hc7) (ev_load1 tu33 rfl rfl (ptr_mono (cks := [[bx b2 #[.i6 y2.Value, v1] 35], [bx b1 #[.i6 0, .i6 0] 24]]) (fr := fr) hp3 (Le.refl _))) F rfl rfl ?_; clear F a; intro a F
             refine wq_ev (wg F rfl rfl rfl rfl hc7) (ev_fieldAddr' tu35 tf35_1 (z := 0) ts33 rfl ⟨_, rfl⟩ rfl) F rfl rfl ?_; clear F a; intro a F
             refine wq_ev (wg F rfl rfl rfl rfl hc7) (ev_load1 tu33 rfl rfl (box_ptr (cells := [v1]) 0 rfl 1 rfl (lb rfl))) F rfl rfl ?_; clear F a; intro a F
             obtain ⟨y6, hy6, hm⟩ := bind_some hm
             refine wq_call (wg F rfl rfl rfl rfl hc7) rfl (xs := [.tmp 82, .tmp 84]) (vs := [v2, v1]) (cap := []) F rfl rfl tc27 (v := .bool y6) (fun w S => (changeforgeref2_less_ok (g := g7) (fr := (fl [[bx b2 #[.i6 y2.Value, v1] 35], [bx b1 #[.i6 0, .i6 0] 24]] fr)) (w := w) y5.Vector v2 h2 y2.Vector v1 (h1.mono l7) S hy6).mono (by rintro en w' ⟨_, rfl, g2, l2, S2, rfl⟩; exact ⟨rfl, S2.weak l2⟩)) rfl rfl ?_; clear F a; intro a F
             refine wq_ev (wg F rfl rfl rfl rfl hc7) (ev_not rfl) F rfl rfl ?_; clear F a; intro a F
             refine wq_ev (wg F rfl rfl rfl rfl hc6) (ev_pickT rfl hc7 rfl) F rfl rfl ?_; clear F a; intro a F
             obtain rfl := sinj hm
             refine wq_nil ?_; exact F.sub ⟨rfl, rfl, rfl, rfl, rfl, rfl, rfl, rfl, rfl, trivial⟩
            ·refine wq_skip rfl rfl rfl rfl (ne_tf hc7) F rfl rfl ?_; clear F a; intro a F
             refine wq_skip rfl rfl rfl rfl (ne_tf hc7) F rfl rfl ?_; clear F a; intro a F
             refine wq_skip rfl rfl rfl rfl (ne_tf hc7) F rfl rfl ?_; clear F a; intro a F
             refine wq_skip rfl rfl rfl rfl (ne_tf hc7) F rfl rfl ?_; clear F a; intro a F
             refine wq_skip rfl rfl rfl rfl (ne_tf hc7) F rfl rfl ?_; clear F a; intro a F
             refine wq_skip rfl rfl rfl rfl (ne_tf hc7) F rfl rfl ?_; clear F a; intro a F
             refine wq_skip rfl rfl rfl rfl (ne_tf hc7) F rfl rfl ?_; clear F a; intro a F
             refine wq_skip rfl rfl rfl rfl (ne_tf hc7) F rfl rfl ?_; clear F a; intro a F
             refine wq_skip rfl rfl rfl rfl (ne_tf hc7) F rfl rfl ?_; clear F a; intro a F
             refine wq_skip rfl rfl rfl rfl (ne_tf hc7) F rfl rfl ?_; clear F a; intro a F
             refine wq_ev (wg F rfl rfl rfl rfl hc6) (ev_pickF rfl hc7 rfl) F rfl rfl ?_; clear F a; intro a F
             obtain rfl := sinj hm
             refine wq_nil ?_; exact F.sub ⟨rfl, rfl, rfl, rfl, rfl, rfl, rfl, rfl, rfl, trivial⟩
           clear F; intro a F
           refine wq_ev (wn rfl) (ev_pickF rfl hc6 rfl) F rfl rfl ?_; clear F a; intro a F
           obtain rfl := sinj hm
           refine wq_nil ?_; exact F.sub ⟨rfl, rfl, rfl, rfl, rfl, trivial⟩
         clear F; intro a F
         refine wq_nil ?_; clear S; intro w S
         refine then_n ?_
         obtain ⟨hc8, hm⟩ | ⟨hc8, hm⟩ := ite_or hm
         ·refine wp_condT F rfl hc8 ?_
          refine wp_seq ?_
          refine wp_region_lit ?_
          refine wE (ev_move rfl) F S rfl fun a F=>?_
          obtain ⟨y7, hy7, hm⟩ := bind_some hm
          refine wl_call0 (wn rfl) rfl F rfl (changeforgeref1_At_ok (fr := (fl [[bx b2 #[.i6 y2.Value, v1] 35], [bx b1 #[.i6 0, .i6 0] 24]] fr)) 5 x1 S hy7) rfl tc19 rfl rfl ?_; clear F a S
          rintro _ a w ⟨g9, l9, S, rfl⟩ F; replace S : St g9 [[bx b2 #[.i6 y2.Value, v1] 35], [bx b1 #[.i6 0, .i6 0] 24]] fr w := S
          refine wl_storeC (wn rfl) rfl F S rfl rfl (vs := [.i6 y7.Code, .i6 y7.Index]) rfl ts24 (one_cons rfl (one_cons rfl one_nil)) (k := 1) rfl (lb rfl) (c' := #[.i6 y7.Code, .i6 y7.Index]) rfl rfl ?_; clear S; intro w S
          refine wpList_nil ?_
          refine then_n ?_
          refine wp_ret ?_
          refine then_r ?_
          refine inb_r ?_
          refine then_r ?_
          refine then_r ?_
          refine inb_r ?_
          refine then_r ?_
          obtain rfl := sinj hm
          obtain rfl := hfin1 _ rfl
          clear hm
          have hm : (some y7 : Option Fault) = some _ := hmo1
          obtain rfl := sinj hm
          refine post_r _ F rfl (ar_cons (resA rfl tu24 rfl (box_ptr (cells := [.i6 y7.Code, .i6 y7.Index]) 1 rfl 0 rfl (lb rfl) w S) ts24) ar_nil) ?_
          replace S : St g9 [] fr w := St.tail [] _ S
          exact ⟨_, rfl, g9, ((l3.trans l7).trans l9), S, rfl⟩
         ·refine wp_condF F rfl hc8 ?_
          refine wp_skip ?_
          refine then_n ?_
          refine wp_seq ?_
          refine wp_region_lit ?_
          refine wE (ev_assign rfl) F S rfl fun a F=>?_
          refine wpList_nil ?_
          refine then_n ?_
          refine wp_cut1 (fun a w => ∃ (g10 : Gh), Fr 114 a [(3, .i6 x1), (2, bp b1 0), (0, vl_1)] ∧ Le g7 g10 ∧ St g10 [[bx b1 #[.i6 0, .i6 0] 24]] fr w ∧ changeforgeref2_ValuesFault.j4 x1 = some x2) ?_ ?_
          ·refine wp_block ?_
           obtain ⟨r2, hr4, hm⟩ := bind_some hm
           have hmo2 := hm; clear hm
           refine wp_iter (σ := Int) (ρ := Fault ⊕ Unit) (m := fun s => changeforgeref2_ValuesFault.l2 l_ x1 y2 s) (I := fun x7 a w => ∃ (g11 : Gh), Fr 114 a [(7, .i6 x7), (4, bp b2 0), (3, .i6 x1), (2, bp b1 0), (0, vl_1)] ∧ Le g7 g11 ∧ St g11 [[bx b2 #[.i6 y2.Value, v1] 35], [bx b1 #[.i6 0, .i6 0] 24]] fr w) hr4 ?_ ?_
           ·exact ⟨g7, F.sub ⟨rfl, rfl, rfl, rfl, rfl, trivial⟩, (Le.refl _), S⟩
           ·clear F S; rintro x7 a w x8 ⟨g11, F, l11, S⟩ hx5 hfin2
            have hm : changeforgeref2_ValuesFault.l2 l_ x1 y2 x7 = some x8 := hx5; clear hx5
            unfold changeforgeref2_ValuesFault.l2 at hm
            refine wp_seq ?_
            refine wp_seq ?_
            refine wp_region_lit ?_
            refine wE (ev_move rfl) F S rfl fun a F=>?_
            refine wE (ev_move rfl) F S rfl fun a F=>?_
            refine wE (ev_int rfl rfl (bo_lss _ _ _ _)) F S rfl fun a F=>?_
            refine wpList_nil ?_
            refine then_n ?_
            obtain ⟨hc9, hm⟩ | ⟨hc9, hm⟩ := ite_or hm
            ·refine wp_condT F rfl hc9 ?_
             refine wp_skip ?_
             refine then_n ?_
             refine wp_seq ?_
             refine wp_block ?_
             refine wp_seq ?_
             refine wp_quiet mo (by kernel_rfl) S ?_
             refine wq_ev (wn rfl) (ev_fieldAddr' tu35 tf35_1 (z := 0) ts33 rfl ⟨_, rfl⟩ rfl) F rfl rfl ?_; clear F a; intro a F
             refine wq_ev (wn rfl) (ev_load1 tu33 rfl rfl (box_ptr (cells := [v1]) 0 rfl 1 rfl (lb rfl))) F rfl rfl ?_; clear F a; intro a F
             refine wq_ev (wn rfl) (ev_move rfl) F rfl rfl ?_; clear F a; intro a F
             refine wq_ev (wn rfl) (ev_move rfl) F rfl rfl ?_; clear F a; intro a F
             obtain ⟨y8, hy8, hm⟩ := bind_some hm
             obtain ⟨cs3, hr5, hp4⟩ := elemS (hl_1.mono ((l3.trans l7).trans l11)) hy8
             obtain ⟨v3, rfl, h3⟩ := rep_VersionedValue hr5
             refine wq_ev (wn rfl) (ev_idxS (hl_1.mono ((l3.trans l7).trans l11)) hy8 tu22 ts35 rfl rfl) F rfl rfl ?_; clear F a; intro a F
             have hp5 := PtrC.field hp4 1 1 (lb rfl)
             have hp5 : PtrC g11 (addP (elemP vl_1 x7 2) 1) [v3] := hp5
             refine wq_ev (wn rfl) (ev_fieldAddr' tu35 tf35_1 (z := 0) ts33 rfl hp4.ptr rfl) F rfl rfl ?_; clear F a; intro a F
             refine wq_ev (wn rfl) (ev_load1 tu33 rfl rfl (ptr_mono (cks := [[bx b2 #[.i6 y2.Value, v1] 35], [bx b1 #[.i6 0, .i6 0] 24]]) (fr := fr) hp5 (Le.refl _))) F rfl rfl ?_; clear F a; intro a F
             obtain ⟨y9, hy9, hm⟩ := bind_some hm
             refine wq_call (wn rfl) rfl (xs := [.tmp 98, .tmp 103]) (vs := [v1, v3]) (cap := []) F rfl rfl tc17 (v := .tuple #[.bool y9.1, .bool y9.2]) (fun w S => (changeforgeref2_Relation_ok (g := g11) (fr := (fl [[bx b2 #[.i6 y2.Value, v1] 35], [bx b1 #[.i6 0, .i6 0] 24]] fr)) (w := w) y2.Vector v1 (h1.mono (l7.trans l11)) y8.Vector v3 h3 S hy9).mono (by rintro en w' ⟨_, rfl, g2, l2, S2, rfl⟩; exact ⟨rfl, S2.weak l2⟩)) rfl rfl ?_; clear F a; intro a F
             refine wq_ev (wn rfl) (ev_move rfl) F rfl rfl ?_; clear F a; intro a F
             refine wq_ev (wn rfl) (ev_extract rfl rfl) F rfl rfl ?_; clear F a; intro a F
             refine wq_ev (wn rfl) (ev_extract rfl rfl) F rfl rfl ?_; clear F a; intro a F
             refine wq_ev (wn rfl) (ev_assign rfl) F rfl rfl ?_; clear F a; intro a F
             refine wq_ev (wn rfl) (ev_assign rfl) F rfl rfl ?_; clear F a; intro a F
             refine wq_nil ?_; clear S; intro w S
             refine then_n ?_
             refine wp_seq ?_
             refine wp_region_lit ?_
             refine wE (ev_move rfl) F S rfl fun a F=>?_
             refine wE (ev_move rfl) F S rfl fun a F=>?_
             obtain ⟨x9, hx6, hm⟩ := bind_some hm
             refine wl_cut 2 (fun a w' => w = w' ∧ Fr 114 a [(110, .bool x9), (7, .i6 x7), (4, bp b2 0), (3, .i6 x1), (2, bp b1 0), (0, vl_1)]) ?_ ?_
             ·clear hm; obtain ⟨hc10, hm⟩ | ⟨hc10, hm⟩ := ite_or hx6
              ·refine wl_skip rfl rfl rfl rfl (ne_ft hc10) F rfl rfl ?_; clear F a; intro a F
               refine wE (ev_pickT rfl hc10 rfl) F S rfl fun a F=>?_
               obtain rfl := sinj hm
               refine wpList_nil (then_n ?_); exact ⟨rfl, F.sub ⟨rfl, rfl, rfl, rfl, rfl, rfl, trivial⟩⟩
              ·refine wl_ev (wg F rfl rfl rfl rfl hc10) (ev_move rfl) F S rfl rfl ?_; clear F a; intro a F
               refine wE (ev_pickF rfl hc10 rfl) F S rfl fun a F=>?_
               obtain rfl := sinj hm
               refine wpList_nil (then_n ?_); exact ⟨rfl, F.sub ⟨rfl, rfl, rfl, rfl, rfl, rfl, trivial⟩⟩
             clear F; rintro a w' ⟨rfl, F⟩
             refine wpList_nil ?_
             refine then_n ?_
             obtain ⟨hc11, hm⟩ | ⟨hc11, hm⟩ := ite_or hm
             ·refine wp_condT F rfl hc11 ?_
              refine wp_seq ?_
              refine wp_region_lit ?_
              refine wE (ev_move rfl) F S rfl fun a F=>?_
              obtain ⟨y10, hy10, hm⟩ := bind_some hm
              refine wl_call0 (wn rfl) rfl F rfl (changeforgeref1_At_ok (fr := (fl [[bx b2 #[.i6 y2.Value, v1] 35], [bx b1 #[.i6 0, .i6 0] 24]] fr)) 19 x1 S hy10) rfl tc19 rfl rfl ?_; clear F a S
              rintro _ a w ⟨g13, l13, S, rfl⟩ F; replace S : St g13 [[bx b2 #[.i6 y2.Value, v1] 35], [bx b1 #[.i6 0, .i6 0] 24]] fr w := S
              refine wl_storeC (wn rfl) rfl F S rfl rfl (vs := [.i6 y10.Code, .i6 y10.Index]) rfl ts24 (one_cons rfl (one_cons rfl one_nil)) (k := 1) rfl (lb rfl) (c' := #[.i6 y10.Code, .i6 y10.Index]) rfl rfl ?_; clear S; intro w S
              refine wpList_nil ?_
              refine then_n ?_
              refine wp_ret ?_
              refine inb_r ?_
              refine then_r ?_
              refine then_r ?_
              refine inb_r ?_
              refine then_r ?_
              refine inb_r ?_
              refine then_r ?_
              refine then_r ?_
              refine inb_r ?_
              refine then_r ?_
              obtain rfl := sinj hm
              obtain rfl := hfin2 _ rfl
              clear hm
              have hm : (some (Step.done (Sum.inl y10)) : Option (Step Int (Fault ⊕ Unit))) = some _ := hmo2
              obtain rfl := sinj hm
              obtain rfl := hfin1 _ rfl
              clear hm
              have hm : (some y10 : Option Fault) = some _ := hmo1
              obtain rfl := sinj hm
              refine post_r _ F rfl (ar_cons (resA rfl tu24 rfl (box_ptr (cells := [.i6 y10.Code, .i6 y10.Index]) 1 rfl 0 rfl (lb rfl) w S) ts24) ar_nil) ?_
              replace S : St g13 [] fr w := St.tail [] _ S
              exact ⟨_, rfl, g13, (((l3.trans l7).trans l11).trans l13), S, rfl⟩
             ·refine wp_condF F rfl hc11 ?_
              refine wp_skip ?_
              refine inb_n ?_
              refine then_n ?_
              refine wp_region_lit ?_
              refine wE (ev_move rfl) F S rfl fun a F=>?_
              obtain ⟨z3, hz3, hm⟩ := bind_some hm
              refine wE (ev_int rfl rfl (bo_add hz3)) F S rfl fun a F=>?_
              refine wE (ev_assign rfl) F S rfl fun a F=>?_
              refine wpList_nil ?_
              refine then_n ?_
              obtain rfl := sinj hm
              refine ⟨_, rfl, ?_⟩
              exact ⟨g11, F.sub ⟨rfl, rfl, rfl, rfl, rfl, trivial⟩, l11, S⟩
            ·refine wp_condF F rfl hc9 ?_
             refine wp_exit ?_
             refine then_e ?_
             refine then_e ?_
             refine inb_x ?_
             refine then_n ?_
             obtain rfl := sinj hm
             obtain rfl := hfin2 _ rfl
             clear hm
             have hm : (changeforgeref2_ValuesFault.j4 x1 : Option (Step Int (Fault ⊕ Unit))) = some _ := hmo2
             replace S : St g11 [[bx b1 #[.i6 0, .i6 0] 24]] fr w := St.tail [[bx b1 #[.i6 0, .i6 0] 24]] _ (S.frontC 1 rfl)
             exact ⟨g11, F.sub ⟨rfl, rfl, rfl, trivial⟩, l11, S, hm⟩
          ·clear F S hm; rintro a w ⟨g10, F, l10, S, hm⟩
           refine inb_n ?_
           refine then_n ?_
           exact ⟨g10, F.sub ⟨rfl, rfl, rfl, trivial⟩, (l7.trans l10), S, hm⟩
     ·clear F S hm; rintro a w ⟨g4, F, l4, S, hm⟩
      refine wp_region_lit ?_
      refine wE (ev_move rfl) F S rfl fun a F=>?_
      obtain ⟨z1, hz1, hm⟩ := bind_some hm
      refine wE (ev_int rfl rfl (bo_add hz1)) F S rfl fun a F=>?_
      refine wE (ev_assign rfl) F S rfl fun a F=>?_
      refine wpList_nil ?_
      refine then_n ?_
      obtain rfl := sinj hm
      refine ⟨_, rfl, ?_⟩
      exact ⟨g4, F.sub ⟨rfl, rfl, rfl, trivial⟩, (l3.trans l4), S⟩
    ·refine wp_condF F rfl hc2 ?_
     refine wp_exit ?_
     refine then_e ?_
     refine then_e ?_
     refine inb_x ?_
     refine then_n ?_
     obtain rfl := sinj hm
     obtain rfl := hfin1 _ rfl
     clear hm
     have hm : (changeforgeref2_ValuesFault.j1 : Option Fault) = some _ := hmo1
     exact ⟨g3, F.sub ⟨rfl, trivial⟩, l3, S, hm⟩
  ·clear F S hm; rintro a w ⟨g2, F, l2, S, hm⟩
   refine wp_seq ?_
   refine wp_region_lit ?_
   refine wE (ev_build (parts := []) (vs := []) rfl (fun w => tb24_  w)) F S rfl fun a F=>?_
   refine wl_storeC (wn rfl) rfl F S rfl rfl (vs := [.i6 0, .i6 0]) rfl ts24 (one_cons rfl (one_cons rfl one_nil)) (k := 0) rfl (lb rfl) (c' := #[.i6 0, .i6 0]) rfl rfl ?_; clear S; intro w S
   refine wpList_nil ?_
   refine then_n ?_
   refine wp_ret ?_
   obtain rfl := sinj hm
   refine post_r _ F rfl (ar_cons (resA rfl tu24 rfl (box_ptr (cells := [.i6 0, .i6 0]) 0 rfl 0 rfl (lb rfl) w S) ts24) ar_nil) ?_
   replace S : St g2 [] fr w := St.tail [] _ S
   exact ⟨_, rfl, g2, l2, S, rfl⟩

theorem changeforgeref2_Written_ok {g : Gh} {fr : Hl} {w : World} {r : (List VersionedValue) × Fault} (l_ : (List VersionedValue)) (vl_1 : Value) (hl_1 : RepSl g l_ vl_1) (replica : Int) (value : Int) (S : St g [] fr w) (hm : changeforgeref2_Written l_ replica value = some r) :
  Calls Try.prog 10 [vl_1, .i6 replica, .i6 value].toArray w (fun en w' => ∃ v, en = .returned v ∧ ∃ (g' : Gh) (v1 : Value) (c1 : Hl), Le g g' ∧ St g' [c1] fr w' ∧ OwnS g' r.1 v1 c1 ∧ .tuple #[v1, .agg #[.i6 r.2.Code, .i6 r.2.Index]] = v) := by
 unfold changeforgeref2_Written at hm
 refine calls_enter (fn := Try.f10) Try.func10 rfl Try.ntmps10 (lb rfl) ?_
 intro a F
 replace F : Fr 81 a [(0, vl_1), (1, .i6 replica), (2, .i6 value)] := F
 refine wp_seq ?_
 refine wp_region_lit ?_
 refine wE (ev_assign rfl) F S rfl fun a F=>?_
 refine wl_alloc (wn rfl) rfl tz24 (cs := [.i6 0, .i6 0]) rfl F S rfl rfl ?_; clear F a S; rintro b1 a w F S
 refine wpList_nil ?_
 refine then_n ?_
 refine wp_seq ?_
 refine wp_seq ?_
 refine wp_region_lit ?_
 refine wE (ev_move rfl) F S rfl fun a F=>?_
 obtain ⟨y1, hy1, hm⟩ := bind_some hm
 refine wl_call0 (wn rfl) rfl F rfl (changeforgeref2_ValuesFault_ok (fr := (fl [[bx b1 #[.i6 0, .i6 0] 24]] fr)) l_ vl_1 hl_1 S hy1) rfl tc14 rfl rfl ?_; clear F a S
 rintro _ a w ⟨g1, l1, S, rfl⟩ F; replace S : St g1 [[bx b1 #[.i6 0, .i6 0] 24]] fr w := S
 refine wl_alloc (wn rfl) rfl tz24 (cs := [.i6 0, .i6 0]) rfl F S rfl rfl ?_; clear F a S; rintro b2 a w F S
 refine wl_storeC (wn rfl) rfl F S rfl rfl (vs := [.i6 y1.Code, .i6 y1.Index]) rfl ts24 (one_cons rfl (one_cons rfl one_nil)) (k := 0) rfl (lb rfl) (c' := #[.i6 y1.Code, .i6 y1.Index]) rfl rfl ?_; clear S; intro w S
 refine wpList_nil ?_
 refine then_n ?_
 refine wp_seq ?_
 refine wp_region_lit ?_
 refine wE (ev_fieldAddr' tu24 tf24_0 (z := 0) ts3 rfl ⟨_, rfl⟩ rfl) F S rfl fun a F=>?_
 refine wE (ev_load1 tu3 rfl rfl (box_ptr (cells := [.i6 y1.Code]) 0 rfl 0 rfl (lb rfl))) F S rfl fun a F=>?_
 refine wE (ev_int rfl rfl (bo_neq _ _ _ _)) F S rfl fun a F=>?_
 refine wpList_nil ?_
 refine then_n ?_
 obtain ⟨hc1, hm⟩ | ⟨hc1, hm⟩ := ite_or hm
 ·refine wp_condT F rfl hc1 ?_
  refine wp_seq ?_
  refine wp_dv [] mo S ?_; clear S; intro ok1 w S
  refine dv_ev ok1 0 rfl (ev_loadA tu24 rfl (cs := [.i6 y1.Code, .i6 y1.Index]) ts24 rfl (box_ptr (cells := [.i6 y1.Code, .i6 y1.Index]) 0 rfl 0 rfl (lb rfl))) F S rfl fun a F=>?_
  refine dv_et ok1 1 rfl (ev_assign rfl) F rfl fun a F=>?_
  refine dv_op ok1 2 rfl [] ?_
  refine wl_storeC (wn rfl) rfl F S rfl rfl (vs := [.i6 y1.Code, .i6 y1.Index]) rfl ts24 (one_cons rfl (one_cons rfl one_nil)) (k := 1) rfl (lb rfl) (c' := #[.i6 y1.Code, .i6 y1.Index]) rfl rfl ?_; clear S; intro w S
  refine dv_nx trivial ?_
  refine dv_fin ok1 ?_
  refine then_n ?_
  refine wp_ret ?_
  refine then_r ?_
  obtain rfl := sinj hm
  replace S : St g1 [[], [bx b2 #[.i6 y1.Code, .i6 y1.Index] 24], [bx b1 #[.i6 y1.Code, .i6 y1.Index] 24]] fr w := S
  refine post_r _ F rfl (ar_cons (resT rfl) (ar_cons (resA rfl tu24 rfl (box_ptr (cells := [.i6 y1.Code, .i6 y1.Index]) 2 rfl 0 rfl (lb rfl) w S) ts24) ar_nil)) ?_
  replace S : St g1 [[]] fr w := St.tail [[]] _ (S.frontC 0 rfl)
  exact ⟨_, rfl, g1, (nilS), [], l1, S, (OwnS.nil _), rfl⟩
 ·refine wp_condF F rfl hc1 ?_
  refine wp_skip ?_
  refine then_n ?_
  refine wp_seq ?_
  refine wp_seq ?_
  refine wp_region_lit ?_
  refine wE (ev_move rfl) F S rfl fun a F=>?_
  refine wE (ev_int rfl rfl (bo_lss _ _ _ _)) F S rfl fun a F=>?_
  refine wE (ev_move rfl) F S rfl fun a F=>?_
  obtain ⟨x1, hx1, hm⟩ := bind_some hm
  refine wl_cut 3 (fun a w' => w = w' ∧ Fr 81 a [(24, .bool x1), (7, bp b1 0), (0, vl_1), (1, .i6 replica), (2, .i6 value)]) ?_ ?_
  ·clear hm; obtain ⟨hc2, hm⟩ | ⟨hc2, hm⟩ := ite_or hx1
   ·refine wl_skip rfl rfl rfl rfl (ne_ft hc2) F rfl rfl ?_; clear F a; intro a F
    refine wl_skip rfl rfl rfl rfl (ne_ft hc2) F rfl rfl ?_; clear F a; intro a F
    refine wE (ev_pickT rfl hc2 rfl) F S rfl fun a F=>?_
    obtain rfl := sinj hm
    refine wpList_nil (then_n ?_); exact ⟨rfl, F.sub ⟨rfl, rfl, rfl, rfl, rfl, trivial⟩⟩
   ·refine wl_ev (wg F rfl rfl rfl rfl hc2) (ev_move rfl) F S rfl rfl ?_; clear F a; intro a F
    refine wl_ev (wg F rfl rfl rfl rfl hc2) (ev_int rfl rfl (bo_geq _ _ _ _)) F S rfl rfl ?_; clear F a; intro a F
    refine wE (ev_pickF rfl hc2 rfl) F S rfl fun a F=>?_
    obtain rfl := sinj hm
    refine wpList_nil (then_n ?_); exact ⟨rfl, F.sub ⟨rfl, rfl, rfl, rfl, rfl, trivial⟩⟩
  clear F; rintro a w' ⟨rfl, F⟩
  refine wpList_nil ?_
  refine then_n ?_
  obtain ⟨hc3, hm⟩ | ⟨hc3, hm⟩ := ite_or hm
  ·refine wp_condT F rfl hc3 ?_
   refine wp_seq ?_
   refine wp_region_lit ?_
   obtain ⟨y2, hy2, hm⟩ := bind_some hm
   refine wl_call0 (wn rfl) rfl F rfl (changeforgeref1_At_ok (fr := (fl [[bx b2 #[.i6 y1.Code, .i6 y1.Index] 24], [bx b1 #[.i6 0, .i6 0] 24]] fr)) 3 (-2) S hy2) rfl tc19 rfl rfl ?_; clear F a S
   rintro _ a w ⟨g2, l2, S, rfl⟩ F; replace S : St g2 [[bx b2 #[.i6 y1.Code, .i6 y1.Index] 24], [bx b1 #[.i6 0, .i6 0] 24]] fr w := S
   refine wE (ev_assign rfl) F S rfl fun a F=>?_
   refine wl_storeC (wn rfl) rfl F S rfl rfl (vs := [.i6 y2.Code, .i6 y2.Index]) rfl ts24 (one_cons rfl (one_cons rfl one_nil)) (k := 1) rfl (lb rfl) (c' := #[.i6 y2.Code, .i6 y2.Index]) rfl rfl ?_; clear S; intro w S
   refine wpList_nil ?_
   refine then_n ?_
   refine wp_ret ?_
   refine then_r ?_
   obtain rfl := sinj hm
   replace S : St g2 [[], [bx b2 #[.i6 y1.Code, .i6 y1.Index] 24], [bx b1 #[.i6 y2.Code, .i6 y2.Index] 24]] fr w := S
   refine post_r _ F rfl (ar_cons (resT rfl) (ar_cons (resA rfl tu24 rfl (box_ptr (cells := [.i6 y2.Code, .i6 y2.Index]) 2 rfl 0 rfl (lb rfl) w S) ts24) ar_nil)) ?_
   replace S : St g2 [[]] fr w := St.tail [[]] _ (S.frontC 0 rfl)
   exact ⟨_, rfl, g2, (nilS), [], (l1.trans l2), S, (OwnS.nil _), rfl⟩
  ·refine wp_condF F rfl hc3 ?_
   refine wp_skip ?_
   refine then_n ?_
   refine wp_seq ?_
   refine wp_seq ?_
   refine wp_region_lit ?_
   refine wE (ev_move rfl) F S rfl fun a F=>?_
   refine wE (ev_int rfl rfl (bo_lss _ _ _ _)) F S rfl fun a F=>?_
   refine wE (ev_move rfl) F S rfl fun a F=>?_
   obtain ⟨x2, hx2, hm⟩ := bind_some hm
   refine wl_cut 3 (fun a w' => w = w' ∧ Fr 81 a [(31, .bool x2), (7, bp b1 0), (0, vl_1), (1, .i6 replica), (2, .i6 value)]) ?_ ?_
   ·clear hm; obtain ⟨hc4, hm⟩ | ⟨hc4, hm⟩ := ite_or hx2
    ·refine wl_skip rfl rfl rfl rfl (ne_ft hc4) F rfl rfl ?_; clear F a; intro a F
     refine wl_skip rfl rfl rfl rfl (ne_ft hc4) F rfl rfl ?_; clear F a; intro a F
     refine wE (ev_pickT rfl hc4 rfl) F S rfl fun a F=>?_
     obtain rfl := sinj hm
     refine wpList_nil (then_n ?_); exact ⟨rfl, F.sub ⟨rfl, rfl, rfl, rfl, rfl, trivial⟩⟩
    ·refine wl_ev (wg F rfl rfl rfl rfl hc4) (ev_move rfl) F S rfl rfl ?_; clear F a; intro a F
     refine wl_ev (wg F rfl rfl rfl rfl hc4) (ev_int rfl rfl (bo_gtr _ _ _ _)) F S rfl rfl ?_; clear F a; intro a F
     refine wE (ev_pickF rfl hc4 rfl) F S rfl fun a F=>?_
     obtain rfl := sinj hm
     refine wpList_nil (then_n ?_); exact ⟨rfl, F.sub ⟨rfl, rfl, rfl, rfl, rfl, trivial⟩⟩
   clear F; rintro a w' ⟨rfl, F⟩
   refine wpList_nil ?_
   refine then_n ?_
   obtain ⟨hc5, hm⟩ | ⟨hc5, hm⟩ := ite_or hm
   ·refine wp_condT F rfl hc5 ?_
    refine wp_seq ?_
    refine wp_region_lit ?_
    obtain ⟨y3, hy3, hm⟩ := bind_some hm
    refine wl_call0 (wn rfl) rfl F rfl (changeforgeref1_At_ok (fr := (fl [[bx b2 #[.i6 y1.Code, .i6 y1.Index] 24], [bx b1 #[.i6 0, .i6 0] 24]] fr)) 3 (-3) S hy3) rfl tc19 rfl rfl ?_; clear F a S
    rintro _ a w ⟨g3, l3, S, rfl⟩ F; replace S : St g3 [[bx b2 #[.i6 y1.Code, .i6 y1.Index] 24], [bx b1 #[.i6 0, .i6 0] 24]] fr w := S
    refine wE (ev_assign rfl) F S rfl fun a F=>?_
    refine wl_storeC (wn rfl) rfl F S rfl rfl (vs := [.i6 y3.Code, .i6 y3.Index]) rfl ts24 (one_cons rfl (one_cons rfl one_nil)) (k := 1) rfl (lb rfl) (c' := #[.i6 y3.Code, .i6 y3.Index]) rfl rfl ?_; clear S; intro w S
    refine wpList_nil ?_
    refine then_n ?_
    refine wp_ret ?_
    refine then_r ?_
    obtain rfl := sinj hm
    replace S : St g3 [[], [bx b2 #[.i6 y1.Code, .i6 y1.Index] 24], [bx b1 #[.i6 y3.Code, .i6 y3.Index] 24]] fr w := S
    refine post_r _ F rfl (ar_cons (resT rfl) (ar_cons (resA rfl tu24 rfl (box_ptr (cells := [.i6 y3.Code, .i6 y3.Index]) 2 rfl 0 rfl (lb rfl) w S) ts24) ar_nil)) ?_
    replace S : St g3 [[]] fr w := St.tail [[]] _ (S.frontC 0 rfl)
    exact ⟨_, rfl, g3, (nilS), [], (l1.trans l3), S, (OwnS.nil _), rfl⟩
   ·refine wp_condF F rfl hc5 ?_
    refine wp_skip ?_
    refine then_n ?_
    refine wp_seq ?_
    refine wp_region_lit ?_
    refine wE (ev_assign rfl) F S rfl fun a F=>?_
    refine wpList_nil ?_
    refine then_n ?_
    refine wp_cut (fun a w => ∃ (x3 : List Int) (v1 : Value) (c1 : Hl) (g4 : Gh), Fr 81 a [(9, v1), (7, bp b1 0), (1, .i6 replica), (2, .i6 value)] ∧ Le g1 g4 ∧ St g4 [c1, [bx b1 #[.i6 0, .i6 0] 24]] fr w ∧ OwnS g4 x3 v1 c1 ∧ changeforgeref2_Written.j1 replica value x3 = some r) ?_ ?_
    ·refine wp_seq ?_
     refine wp_region_lit ?_
     refine wE (ev_assign rfl) F S rfl fun a F=>?_
     refine wpList_nil ?_
     refine then_n ?_
     refine wp_block ?_
     obtain ⟨r1, hr2, hm⟩ := bind_some hm
     have hmo1 := hm; clear hm
     refine wp_iter (σ := Int × (List Int)) (ρ := (List Int)) (m := fun s => changeforgeref2_Written.l1 l_ replica s.1 s.2) (I := fun s a w => match s with | (x4, x5) => ∃ (v3 : Value) (c3 : Hl) (g7 : Gh), Fr 81 a [(10, .i6 x4), (9, v3), (7, bp b1 0), (0, vl_1), (1, .i6 replica), (2, .i6 value)] ∧ Le g1 g7 ∧ St g7 [c3, [bx b1 #[.i6 0, .i6 0] 24]] fr w ∧ OwnS g7 x5 v3 c3) hr2 ?_ ?_
     ·dsimp only
      replace S : St g1 [[], [bx b2 #[.i6 y1.Code, .i6 y1.Index] 24], [bx b1 #[.i6 0, .i6 0] 24]] fr w := S
      replace S : St g1 [[], [bx b1 #[.i6 0, .i6 0] 24]] fr w := St.tail [[], [bx b1 #[.i6 0, .i6 0] 24]] _ ((S.frontC 2 rfl).frontC 1 rfl)
      exact ⟨(nilS), [], g1, F.sub ⟨rfl, rfl, rfl, rfl, rfl, rfl, trivial⟩, (Le.refl _), S, (OwnS.nil _)⟩
     ·clear F S; rintro ⟨x4, x5⟩ a w x6 ⟨v3, c3, g7, F, l7, S, h4⟩ hx3 hfin1
      have hm : changeforgeref2_Written.l1 l_ replica x4 x5 = some x6 := hx3; clear hx3
      unfold changeforgeref2_Written.l1 at hm
      refine wp_seq ?_
      refine wp_seq ?_
      refine wp_region_lit ?_
      refine wE (ev_move rfl) F S rfl fun a F=>?_
      refine wE (ev_int rfl rfl (bo_lss _ _ _ _)) F S rfl fun a F=>?_
      refine wpList_nil ?_
      refine then_n ?_
      obtain ⟨hc7, hm⟩ | ⟨hc7, hm⟩ := ite_or hm
      ·refine wp_condT F rfl hc7 ?_
       refine wp_skip ?_
       refine then_n ?_
       refine wp_cut (fun a w => ∃ (x7 : List Int) (v4 : Value) (c4 : Hl) (g8 : Gh), Fr 81 a [(9, v4), (10, .i6 x4), (7, bp b1 0), (0, vl_1), (1, .i6 replica), (2, .i6 value)] ∧ Le g7 g8 ∧ St g8 [c4, [bx b1 #[.i6 0, .i6 0] 24]] fr w ∧ OwnS g8 x7 v4 c4 ∧ changeforgeref2_Written.j2 x4 x7 = some x6) ?_ ?_
       ·refine wp_block ?_
        refine wp_seq ?_
        refine wp_region_lit ?_
        refine wE (ev_assign rfl) F S rfl fun a F=>?_
        refine wpList_nil ?_
        refine then_n ?_
        refine wp_cut (fun a w => ∃ (x8 : Int) (g9 : Gh), Fr 81 a [(11, .i6 x8), (10, .i6 x4), (9, v3), (7, bp b1 0), (0, vl_1), (1, .i6 replica), (2, .i6 value)] ∧ Le g7 g9 ∧ St g9 [c3, [bx b1 #[.i6 0, .i6 0] 24]] fr w ∧ changeforgeref2_Written.j3 replica x4 x5 x8 = some x6) ?_ ?_
        ·refine wp_seq ?_
         refine wp_region_lit ?_
         refine wE (ev_assign rfl) F S rfl fun a F=>?_
         refine wpList_nil ?_
         refine then_n ?_
         refine wp_block ?_
         obtain ⟨r2, hr4, hm⟩ := bind_some hm
         have hmo2 := hm; clear hm
         refine wp_iter (σ := Int × Int) (ρ := Int) (m := fun s => changeforgeref2_Written.l2 l_ x4 s.1 s.2) (I := fun s a w => match s with | (x10, x11) => ∃ (g11 : Gh), Fr 81 a [(12, .i6 x10), (11, .i6 x11), (10, .i6 x4), (9, v3), (7, bp b1 0), (0, vl_1), (1, .i6 replica), (2, .i6 value)] ∧ Le g7 g11 ∧ St g11 [c3, [bx b1 #[.i6 0, .i6 0] 24]] fr w) hr4 ?_ ?_
         ·dsimp only
          exact ⟨g7, F.sub ⟨rfl, rfl, rfl, rfl, rfl, rfl, rfl, rfl, trivial⟩, (Le.refl _), S⟩
         ·clear F S; rintro ⟨x10, x11⟩ a w x12 ⟨g11, F, l11, S⟩ hx4 hfin2
          have hm : changeforgeref2_Written.l2 l_ x4 x10 x11 = some x12 := hx4; clear hx4
          unfold changeforgeref2_Written.l2 at hm
          refine wp_seq ?_
          refine wp_seq ?_
          refine wp_region_lit ?_
          refine wE (ev_move rfl) F S rfl fun a F=>?_
          refine wE (ev_move rfl) F S rfl fun a F=>?_
          refine wE (ev_lenSh hl_1 rfl tu22) F S rfl fun a F=>?_
          refine wE (ev_int rfl rfl (bo_lss _ _ _ _)) F S rfl fun a F=>?_
          refine wpList_nil ?_
          refine then_n ?_
          obtain ⟨hc9, hm⟩ | ⟨hc9, hm⟩ := ite_or hm
          ·refine wp_condT F rfl hc9 ?_
           refine wp_skip ?_
           refine then_n ?_
           refine wp_cut (fun a w => ∃ (x13 : Int) (g12 : Gh), Fr 81 a [(11, .i6 x13), (12, .i6 x10), (10, .i6 x4), (9, v3), (7, bp b1 0), (0, vl_1), (1, .i6 replica), (2, .i6 value)] ∧ Le g11 g12 ∧ St g12 [c3, [bx b1 #[.i6 0, .i6 0] 24]] fr w ∧ changeforgeref2_Written.j5 x10 x13 = some x12) ?_ ?_
           ·refine wp_block ?_
            refine wp_seq ?_
            refine wp_region_lit ?_
            refine wE (ev_move rfl) F S rfl fun a F=>?_
            refine wE (ev_move rfl) F S rfl fun a F=>?_
            obtain ⟨y7, hy7, hm⟩ := bind_some hm
            obtain ⟨cs3, hr5, hp1⟩ := elemS (hl_1.mono ((l1.trans l7).trans l11)) hy7
            obtain ⟨v7, rfl, h8⟩ := rep_VersionedValue hr5
            refine wE (ev_idxS (hl_1.mono ((l1.trans l7).trans l11)) hy7 tu22 ts35 rfl rfl) F S rfl fun a F=>?_
            have hp2 := PtrC.field hp1 1 1 (lb rfl)
            have hp2 : PtrC g11 (addP (elemP vl_1 x10 2) 1) [v7] := hp2
            refine wE (ev_fieldAddr' tu35 tf35_1 (z := 0) ts33 rfl hp1.ptr rfl) F S rfl fun a F=>?_
            refine wE (ev_load1 tu33 rfl rfl (ptr_mono (cks := [c3, [bx b1 #[.i6 0, .i6 0] 24]]) (fr := fr) hp2 (Le.refl _))) F S rfl fun a F=>?_
            refine wE (ev_move rfl) F S rfl fun a F=>?_
            obtain ⟨y8, hy8, hm⟩ := bind_some hm
            obtain ⟨cs4, hr6, hp3⟩ := elemS h8 hy8
            obtain rfl := rep_int hr6
            refine wE (ev_idxS h8 hy8 tu33 ts3 rfl rfl) F S rfl fun a F=>?_
            refine wE (ev_load1 tu3 rfl rfl (ptr_mono (cks := [c3, [bx b1 #[.i6 0, .i6 0] 24]]) (fr := fr) hp3 (Le.refl _))) F S rfl fun a F=>?_
            refine wE (ev_move rfl) F S rfl fun a F=>?_
            refine wE (ev_int rfl rfl (bo_gtr _ _ _ _)) F S rfl fun a F=>?_
            refine wpList_nil ?_
            refine then_n ?_
            obtain ⟨hc10, hm⟩ | ⟨hc10, hm⟩ := ite_or hm
            ·refine wp_condT F rfl hc10 ?_
             refine wp_region_lit ?_
             refine wE (ev_move rfl) F S rfl fun a F=>?_
             refine wE (ev_move rfl) F S rfl fun a F=>?_
             obtain ⟨y9, hy9, hm⟩ := bind_some hm
             obtain ⟨cs5, hr7, hp4⟩ := elemS (hl_1.mono ((l1.trans l7).trans l11)) hy9
             obtain ⟨v8, rfl, h9⟩ := rep_VersionedValue hr7
             refine wE (ev_idxS (hl_1.mono ((l1.trans l7).trans l11)) hy9 tu22 ts35 rfl rfl) F S rfl fun a F=>?_
             have hp5 := PtrC.field hp4 1 1 (lb rfl)
             have hp5 : PtrC g11 (addP (elemP vl_1 x10 2) 1) [v8] := hp5
             refine wE (ev_fieldAddr' tu35 tf35_1 (z := 0) ts33 rfl hp4.ptr rfl) F S rfl fun a F=>?_
             refine wE (ev_load1 tu33 rfl rfl (ptr_mono (cks := [c3, [bx b1 #[.i6 0, .i6 0] 24]]) (fr := fr) hp5 (Le.refl _))) F S rfl fun a F=>?_
             refine wE (ev_move rfl) F S rfl fun a F=>?_
             obtain ⟨y10, hy10, hm⟩ := bind_some hm
             obtain ⟨cs6, hr8, hp6⟩ := elemS h9 hy10
             obtain rfl := rep_int hr8
             refine wE (ev_idxS h9 hy10 tu33 ts3 rfl rfl) F S rfl fun a F=>?_
             refine wE (ev_load1 tu3 rfl rfl (ptr_mono (cks := [c3, [bx b1 #[.i6 0, .i6 0] 24]]) (fr := fr) hp6 (Le.refl _))) F S rfl fun a F=>?_
             refine wE (ev_assign rfl) F S rfl fun a F=>?_
             refine wpList_nil ?_
             refine inb_n ?_
             refine then_n ?_
             exact ⟨y10, g11, F.sub ⟨rfl, rfl, rfl, rfl, rfl, rfl, rfl, rfl, trivial⟩, (Le.refl _), S, hm⟩
            ·refine wp_condF F rfl hc10 ?_
             refine wp_skip ?_
             refine inb_n ?_
             refine then_n ?_
             exact ⟨x11, g11, F.sub ⟨rfl, rfl, rfl, rfl, rfl, rfl, rfl, rfl, trivial⟩, (Le.refl _), S, hm⟩
           ·clear F S hm; rintro a w ⟨x13, g12, F, l12, S, hm⟩
            refine wp_region_lit ?_
            refine wE (ev_move rfl) F S rfl fun a F=>?_
            obtain ⟨z3, hz3, hm⟩ := bind_some hm
            refine wE (ev_int rfl rfl (bo_add hz3)) F S rfl fun a F=>?_
            refine wE (ev_assign rfl) F S rfl fun a F=>?_
            refine wpList_nil ?_
            refine then_n ?_
            obtain rfl := sinj hm
            refine ⟨_, rfl, ?_⟩
            dsimp only
            exact ⟨g12, F.sub ⟨rfl, rfl, rfl, rfl, rfl, rfl, rfl, rfl, trivial⟩, (l11.trans l12), S⟩
          ·refine wp_condF F rfl hc9 ?_
           refine wp_exit ?_
           refine then_e ?_
           refine then_e ?_
           refine inb_x ?_
           refine then_n ?_
           obtain rfl := sinj hm
           obtain rfl := hfin2 _ rfl
           clear hm
           have hm : (changeforgeref2_Written.j3 replica x4 x5 x11 : Option (Step (Int × (List Int)) (List Int))) = some _ := hmo2
           exact ⟨x11, g11, F.sub ⟨rfl, rfl, rfl, rfl, rfl, rfl, rfl, trivial⟩, l11, S, hm⟩
        ·clear F S hm; rintro a w ⟨x8, g9, F, l9, S, hm⟩
         refine wp_cut (fun a w => ∃ (x9 : Int) (g10 : Gh), Fr 81 a [(11, .i6 x9), (10, .i6 x4), (9, v3), (7, bp b1 0), (0, vl_1), (1, .i6 replica), (2, .i6 value)] ∧ Le g9 g10 ∧ St g10 [c3, [bx b1 #[.i6 0, .i6 0] 24]] fr w ∧ changeforgeref2_Written.j4 x4 x5 x9 = some x6) ?_ ?_
         ·refine wp_seq ?_
          refine wp_region_lit ?_
          refine wE (ev_move rfl) F S rfl fun a F=>?_
          refine wE (ev_move rfl) F S rfl fun a F=>?_
          refine wE (ev_int rfl rfl (bo_eql _ _ _ _)) F S rfl fun a F=>?_
          refine wpList_nil ?_
          refine then_n ?_
          obtain ⟨hc8, hm⟩ | ⟨hc8, hm⟩ := ite_or hm
          ·refine wp_condT F rfl hc8 ?_
           refine wp_region_lit ?_
           refine wE (ev_move rfl) F S rfl fun a F=>?_
           obtain ⟨z2, hz2, hm⟩ := bind_some hm
           refine wE (ev_int rfl rfl (bo_add hz2)) F S rfl fun a F=>?_
           refine wE (ev_assign rfl) F S rfl fun a F=>?_
           refine wpList_nil ?_
           refine then_n ?_
           exact ⟨z2, g9, F.sub ⟨rfl, rfl, rfl, rfl, rfl, rfl, rfl, trivial⟩, (Le.refl _), S, hm⟩
          ·refine wp_condF F rfl hc8 ?_
           refine wp_skip ?_
           refine then_n ?_
           exact ⟨x8, g9, F.sub ⟨rfl, rfl, rfl, rfl, rfl, rfl, rfl, trivial⟩, (Le.refl _), S, hm⟩
         ·clear F S hm; rintro a w ⟨x9, g10, F, l10, S, hm⟩
          refine wp_region_lit ?_
          refine wE (ev_move rfl) F S rfl fun a F=>?_
          refine wE (ev_move rfl) F S rfl fun a F=>?_
          refine wl_lit (l := ([x9] : List Int)) (vs := [.i6 x9]) (parts := [(0, .tmp 67)]) (wn rfl) rfl rfl rfl tu33 te3 (sz_cons rfl sz_nil) rfl (Cat.cons (show Rep.rep _ x9 _ from rfl) (Cat.nil _)) (coa_cons rfl coa_nil) rfl F S rfl rfl ?_; clear F a S
          rintro v5 c5 a w h6 F S
          obtain ⟨cs2, hk1, hr3⟩ := OwnS.reads h6
          obtain ⟨y6, hy6, hm⟩ := bind_some hm
          refine wl_append (wn rfl) rfl tu33 tu33 te3 (by decide) (by decide) F S rfl rfl (k := 1) rfl (h4.mono (l9.trans l10)) hk1 rfl (hr3 _ _ _ 0 rfl S) hy6 rfl rfl ?_; clear F a S
          rintro v6 c6 a w h7 S F; replace S : St g10 [c5, c6, [bx b1 #[.i6 0, .i6 0] 24]] fr w := S
          refine wE (ev_assign rfl) F S rfl fun a F=>?_
          refine wpList_nil ?_
          refine inb_n ?_
          refine then_n ?_
          replace S : St g10 [c6, [bx b1 #[.i6 0, .i6 0] 24]] fr w := St.tail [c6, [bx b1 #[.i6 0, .i6 0] 24]] _ ((S.frontC 2 rfl).frontC 2 rfl)
          exact ⟨y6, v6, c6, g10, F.sub ⟨rfl, rfl, rfl, rfl, rfl, rfl, trivial⟩, (l9.trans l10), S, h7, hm⟩
       ·clear F S hm; rintro a w ⟨x7, v4, c4, g8, F, l8, S, h5, hm⟩
        refine wp_region_lit ?_
        refine wE (ev_move rfl) F S rfl fun a F=>?_
        obtain ⟨z1, hz1, hm⟩ := bind_some hm
        refine wE (ev_int rfl rfl (bo_add hz1)) F S rfl fun a F=>?_
        refine wE (ev_assign rfl) F S rfl fun a F=>?_
        refine wpList_nil ?_
        refine then_n ?_
        obtain rfl := sinj hm
        refine ⟨_, rfl, ?_⟩
        dsimp only
        exact ⟨v4, c4, g8, F.sub ⟨rfl, rfl, rfl, rfl, rfl, rfl, trivial⟩, (l7.trans l8), S, h5⟩
      ·refine wp_condF F rfl hc7 ?_
       refine wp_exit ?_
       refine then_e ?_
       refine then_e ?_
       refine inb_x ?_
       refine then_n ?_
       obtain rfl := sinj hm
       obtain rfl := hfin1 _ rfl
       clear hm
       have hm : (changeforgeref2_Written.j1 replica value x5 : Option ((List VersionedValue) × Fault)) = some _ := hmo1
       exact ⟨x5, v3, c3, g7, F.sub ⟨rfl, rfl, rfl, rfl, trivial⟩, l7, S, h4, hm⟩
    ·clear F S hm; rintro a w ⟨x3, v1, c1, g4, F, l4, S, h1, hm⟩
     refine wp_seq ?_
     refine wp_seq ?_
     refine wp_region_lit ?_
     refine wE (ev_move rfl) F S rfl fun a F=>?_
     refine wE (ev_move rfl) F S rfl fun a F=>?_
     obtain ⟨y4, hy4, hm⟩ := bind_some hm
     refine wE (ev_idxO h1 hy4 tu33 ts3 rfl rfl) F S rfl fun a F=>?_
     obtain ⟨cs1, hr1, hq1⟩ := elemO h1 hy4
     obtain rfl := rep_int hr1
     refine wE (ev_load1 tu3 rfl rfl (hq1 _ _ 0 rfl)) F S rfl fun a F=>?_
     refine wE (ev_int rfl rfl (bo_gtr _ _ _ _)) F S rfl fun a F=>?_
     refine wpList_nil ?_
     refine then_n ?_
     obtain ⟨hc6, hm⟩ | ⟨hc6, hm⟩ := ite_or hm
     ·refine wp_condT F rfl hc6 ?_
      refine wp_seq ?_
      refine wp_region_lit ?_
      obtain ⟨y5, hy5, hm⟩ := bind_some hm
      refine wl_call0 (wn rfl) rfl F rfl (changeforgeref1_At_ok (fr := (fl [c1, [bx b1 #[.i6 0, .i6 0] 24]] fr)) 10 (-1) S hy5) rfl tc19 rfl rfl ?_; clear F a S
      rintro _ a w ⟨g5, l5, S, rfl⟩ F; replace S : St g5 [c1, [bx b1 #[.i6 0, .i6 0] 24]] fr w := S
      refine wE (ev_assign rfl) F S rfl fun a F=>?_
      refine wl_storeC (wn rfl) rfl F S rfl rfl (vs := [.i6 y5.Code, .i6 y5.Index]) rfl ts24 (one_cons rfl (one_cons rfl one_nil)) (k := 1) rfl (lb rfl) (c' := #[.i6 y5.Code, .i6 y5.Index]) rfl rfl ?_; clear S; intro w S
      refine wpList_nil ?_
      refine then_n ?_
      refine wp_ret ?_
      refine then_r ?_
      obtain rfl := sinj hm
      replace S : St g5 [[], c1, [bx b1 #[.i6 y5.Code, .i6 y5.Index] 24]] fr w := S
      refine post_r _ F rfl (ar_cons (resT rfl) (ar_cons (resA rfl tu24 rfl (box_ptr (cells := [.i6 y5.Code, .i6 y5.Index]) 2 rfl 0 rfl (lb rfl) w S) ts24) ar_nil)) ?_
      replace S : St g5 [[]] fr w := St.tail [[]] _ (S.frontC 0 rfl)
      exact ⟨_, rfl, g5, (nilS), [], ((l1.trans l4).trans l5), S, (OwnS.nil _), rfl⟩
     ·refine wp_condF F rfl hc6 ?_
      refine wp_skip ?_
      refine then_n ?_
      refine wp_seq ?_
      refine wp_region_lit ?_
      refine wE (ev_move rfl) F S rfl fun a F=>?_
      refine wE (ev_move rfl) F S rfl fun a F=>?_
      refine wE (ev_build (parts := [(0, .tmp 76), (1, .tmp 77)]) (vs := [(0, .i6 value), (1, v1)]) rfl (fun w => tb35_0_1 value v1 (OwnS.isSl h1) w)) F S rfl fun a F=>?_
      obtain ⟨g6, l6, S, h2⟩ : ∃ gz, Le g4 gz ∧ St gz [[bx b1 #[.i6 0, .i6 0] 24]] fr w ∧ RepSl gz x3 v1 := ⟨_, Le.add _ _, S.freeze 0 rfl, OwnS.freeze (S.front 0 rfl) h1⟩
      refine wl_lit (l := ([({ Value := value, Vector := x3 } : VersionedValue)] : List VersionedValue)) (vs := [.agg #[.i6 value, v1]]) (parts := [(0, .tmp 78)]) (wn rfl) rfl rfl rfl tu22 te35 (sz_cons rfl sz_nil) rfl (Cat.cons (rep_VersionedValue_mk (x := ({ Value := value, Vector := x3 } : VersionedValue)) h2) (Cat.nil _)) (coa_cons rfl coa_nil) rfl F S rfl rfl ?_; clear F a S
      rintro v2 c2 a w h3 F S
      refine wE (ev_build (parts := []) (vs := []) rfl (fun w => tb24_  w)) F S rfl fun a F=>?_
      refine wE (ev_assign rfl) F S rfl fun a F=>?_
      refine wl_storeC (wn rfl) rfl F S rfl rfl (vs := [.i6 0, .i6 0]) rfl ts24 (one_cons rfl (one_cons rfl one_nil)) (k := 1) rfl (lb rfl) (c' := #[.i6 0, .i6 0]) rfl rfl ?_; clear S; intro w S
      refine wpList_nil ?_
      refine then_n ?_
      refine wp_ret ?_
      obtain rfl := sinj hm
      refine post_r _ F rfl (ar_cons (resT rfl) (ar_cons (resA rfl tu24 rfl (box_ptr (cells := [.i6 0, .i6 0]) 1 rfl 0 rfl (lb rfl) w S) ts24) ar_nil)) ?_
      replace S : St g6 [c2] fr w := St.tail [c2] _ (S.frontC 0 rfl)
      exact ⟨_, rfl, g6, v2, c2, ((l1.trans l4).trans l6), S, h3, rfl⟩
end Go.Dc
