/- Walks: each function comes to what its model says. -/
import Derived.Test.YtmhjcomgbfonfaaGreatDoorDcTab
import Derived.Test.YtmhjcomgbfonfaaGreatDoorDcM
import Derived.Test.YtmhjcomgbfonfaaGreatDoorDcW1
namespace Go.Dc
open Go Go.Proofs
set_option maxRecDepth 100000
set_option maxHeartbeats 4000000
set_option linter.unusedVariables false
theorem treepatch_check_ok {g : Gh} {fr : Hl} {w : World} {r : Int} (c_ : TreeChange) (vc_1 : Value) (hc_1 : RepSl g c_.Lines vc_1) (vc_2 : Value) (hc_2 : RepSl g c_.Patch.Hunks vc_2) (S : St g [] fr w) (hm : treepatch_check c_ = some r) :
  Calls Tryz.prog 104 [.agg #[.i6 c_.Kind, .string c_.Path, .string c_.To, vc_1, vc_2]].toArray w (fun en w' => ∃ v, en = .returned v ∧ ∃ (g' : Gh), Le g g' ∧ St g' [] fr w' ∧ .i6 r = v) := by
 unfold treepatch_check at hm
 refine calls_enter (fn := Tryz.f104) Tryz.func104 rfl Tryz.ntmps104 (lb rfl) ?_
 intro a F
 replace F : Fr 84 a [(0, .agg #[.i6 c_.Kind, .string c_.Path, .string c_.To, vc_1, vc_2])] := F
 refine wp_seq ?_
 refine wp_region_lit ?_
 refine wl_boxC (wn rfl) rfl rfl rfl F S rfl rfl ?_; clear F a S; rintro b1 a w F S
 refine wE (ev_assign rfl) F S rfl fun a F=>?_
 refine wpList_nil ?_
 refine then_n ?_
 refine wp_seq ?_
 refine wp_quiet mo (by kernel_rfl) S ?_
 refine wq_ev (wn rfl) (ev_fieldAddr' tu51 tf51_0 (z := 0) ts3 rfl ⟨_, rfl⟩ rfl) F rfl rfl ?_; clear F a; intro a F
 refine wq_ev (wn rfl) (ev_load1 tu3 rfl rfl (box_ptr (cells := [.i6 c_.Kind]) 0 rfl 0 rfl (lb rfl))) F rfl rfl ?_; clear F a; intro a F
 refine wq_ev (wn rfl) (ev_int rfl rfl (bo_eql _ _ _ _)) F rfl rfl ?_; clear F a; intro a F
 refine wq_ev (wn rfl) (ev_fieldAddr' tu51 tf51_0 (z := 0) ts3 rfl ⟨_, rfl⟩ rfl) F rfl rfl ?_; clear F a; intro a F
 refine wq_ev (wn rfl) (ev_load1 tu3 rfl rfl (box_ptr (cells := [.i6 c_.Kind]) 0 rfl 0 rfl (lb rfl))) F rfl rfl ?_; clear F a; intro a F
 refine wq_ev (wn rfl) (ev_int rfl rfl (bo_eql _ _ _ _)) F rfl rfl ?_; clear F a; intro a F
 refine wq_ev (wn rfl) (ev_assign rfl) F rfl rfl ?_; clear F a; intro a F
 refine wq_ev (wn rfl) (ev_assign rfl) F rfl rfl ?_; clear F a; intro a F
 refine wq_nil ?_; clear S; intro w S
 refine then_n ?_
 refine wp_seq ?_
 refine wp_block ?_
 refine wp_seq ?_
 refine wp_region_lit ?_
 refine wE (ev_fieldAddr' tu51 tf51_0 (z := 0) ts3 rfl ⟨_, rfl⟩ rfl) F S rfl fun a F=>?_
 refine wE (ev_load1 tu3 rfl rfl (box_ptr (cells := [.i6 c_.Kind]) 0 rfl 0 rfl (lb rfl))) F S rfl fun a F=>?_
 refine wE (ev_int rfl rfl (bo_lss _ _ _ _)) F S rfl fun a F=>?_
 refine wE (ev_move rfl) F S rfl fun a F=>?_
 obtain ⟨x1, hx1, hm⟩ := bind_some hm
 refine wl_cut 4 (fun a w' => w = w' ∧ Fr 84 a [(20, .bool x1), (4, .bool (decide (c_.Kind = 3))), (3, .bool (decide (c_.Kind = 4))), (1, bp b1 0)]) ?_ ?_
 ·clear hm; obtain ⟨hc1, hm⟩ | ⟨hc1, hm⟩ := ite_or hx1
  ·refine wl_skip rfl rfl rfl rfl (ne_ft hc1) F rfl rfl ?_; clear F a; intro a F
   refine wl_skip rfl rfl rfl rfl (ne_ft hc1) F rfl rfl ?_; clear F a; intro a F
   refine wl_skip rfl rfl rfl rfl (ne_ft hc1) F rfl rfl ?_; clear F a; intro a F
   refine wE (ev_pickT rfl hc1 rfl) F S rfl fun a F=>?_
   obtain rfl := sinj hm
   refine wpList_nil (then_n ?_); exact ⟨rfl, F.sub ⟨rfl, rfl, rfl, rfl, trivial⟩⟩
  ·refine wl_ev (wg F rfl rfl rfl rfl hc1) (ev_fieldAddr' tu51 tf51_0 (z := 0) ts3 rfl ⟨_, rfl⟩ rfl) F S rfl rfl ?_; clear F a; intro a F
   refine wl_ev (wg F rfl rfl rfl rfl hc1) (ev_load1 tu3 rfl rfl (box_ptr (cells := [.i6 c_.Kind]) 0 rfl 0 rfl (lb rfl))) F S rfl rfl ?_; clear F a; intro a F
   refine wl_ev (wg F rfl rfl rfl rfl hc1) (ev_int rfl rfl (bo_gtr _ _ _ _)) F S rfl rfl ?_; clear F a; intro a F
   refine wE (ev_pickF rfl hc1 rfl) F S rfl fun a F=>?_
   obtain rfl := sinj hm
   refine wpList_nil (then_n ?_); exact ⟨rfl, F.sub ⟨rfl, rfl, rfl, rfl, trivial⟩⟩
 clear F; rintro a w' ⟨rfl, F⟩
 refine wE (ev_assign rfl) F S rfl fun a F=>?_
 refine wpList_nil ?_
 refine then_n ?_
 obtain ⟨hc2, hm⟩ | ⟨hc2, hm⟩ := ite_or hm
 ·refine wp_condT F rfl hc2 ?_
  refine wp_seq ?_
  refine wp_region_lit ?_
  refine wE (ev_assign rfl) F S rfl fun a F=>?_
  refine wpList_nil ?_
  refine then_n ?_
  refine wp_ret ?_
  refine inb_r ?_
  refine then_r ?_
  obtain rfl := sinj hm
  refine post_r _ F rfl (ar_cons (resT rfl) ar_nil) ?_
  replace S : St g [] fr w := St.tail [] _ S
  exact ⟨_, rfl, g, (Le.refl _), S, rfl⟩
 ·refine wp_condF F rfl hc2 ?_
  refine wp_seq ?_
  refine wp_region_lit ?_
  refine wE (ev_fieldAddr' tu51 tf51_1 (z := 0) ts9 rfl ⟨_, rfl⟩ rfl) F S rfl fun a F=>?_
  refine wE (ev_load1 tu9 rfl rfl (box_ptr (cells := [.string c_.Path]) 0 rfl 1 rfl (lb rfl))) F S rfl fun a F=>?_
  obtain ⟨y1, hy1, hm⟩ := bind_some hm
  refine wl_call0 (wn rfl) rfl F rfl (treepatch_ValidPath_ok (fr := (fl [[bx b1 #[.i6 c_.Kind, .string c_.Path, .string c_.To, vc_1, vc_2] 51]] fr)) c_.Path S hy1) rfl tc53 rfl rfl ?_; clear F a S
  rintro _ a w ⟨g1, l1, S, rfl⟩ F; replace S : St g1 [[bx b1 #[.i6 c_.Kind, .string c_.Path, .string c_.To, vc_1, vc_2] 51]] fr w := S
  refine wE (ev_not rfl) F S rfl fun a F=>?_
  refine wE (ev_move rfl) F S rfl fun a F=>?_
  obtain ⟨x2, hx2, hm⟩ := bind_some hm
  refine wl_cut 8 (fun a w => ∃ g2, Fr 84 a [(34, .bool x2), (4, .bool (decide (c_.Kind = 3))), (3, .bool (decide (c_.Kind = 4))), (1, bp b1 0)] ∧ Le g1 g2 ∧ St g2 [[bx b1 #[.i6 c_.Kind, .string c_.Path, .string c_.To, vc_1, vc_2] 51]] fr w) ?_ ?_
  ·clear hm; obtain ⟨hc3, hm⟩ | ⟨hc3, hm⟩ := ite_or hx2
   ·refine wl_skip rfl rfl rfl rfl (ne_ft hc3) F rfl rfl ?_; clear F a; intro a F
    refine wl_skip rfl rfl rfl rfl (ne_ft hc3) F rfl rfl ?_; clear F a; intro a F
    refine wl_skipu rfl rfl rfl rfl F rfl rfl ?_; clear F a; intro a F
    refine wl_skipu rfl rfl rfl rfl F rfl rfl ?_; clear F a; intro a F
    refine wl_skipu rfl rfl rfl rfl F rfl rfl ?_; clear F a; intro a F
    refine wl_skipu rfl rfl rfl rfl F rfl rfl ?_; clear F a; intro a F
    refine wl_skip rfl rfl rfl rfl (ne_ft hc3) F rfl rfl ?_; clear F a; intro a F
    refine wE (ev_pickT rfl hc3 rfl) F S rfl fun a F=>?_
    obtain rfl := sinj hm
    refine wpList_nil (then_n ?_); exact ⟨g1, F.sub ⟨rfl, rfl, rfl, rfl, trivial⟩, (Le.refl _), S⟩
   ·refine wl_ev (wg F rfl rfl rfl rfl hc3) (ev_move rfl) F S rfl rfl ?_; clear F a; intro a F
    refine wl_ev (wg F rfl rfl rfl rfl hc3) (ev_move rfl) F S rfl rfl ?_; clear F a; intro a F
    obtain ⟨x3, hx3, hm⟩ := bind_some hm
    refine wl_cut 5 (fun a w => ∃ g3, Fr 84 a [(33, .bool x3), (26, .bool !y1), (4, .bool (decide (c_.Kind = 3))), (3, .bool (decide (c_.Kind = 4))), (1, bp b1 0)] ∧ Le g1 g3 ∧ St g3 [[bx b1 #[.i6 c_.Kind, .string c_.Path, .string c_.To, vc_1, vc_2] 51]] fr w) ?_ ?_
    ·clear hm; obtain ⟨hc4, hm⟩ | ⟨hc4, hm⟩ := ite_or hx3
     ·refine wl_ev (wg F rfl rfl rfl rfl hc4) (ev_fieldAddr' tu51 tf51_2 (z := 0) ts9 rfl ⟨_, rfl⟩ rfl) F S rfl rfl ?_; clear F a; intro a F
      refine wl_ev (wg F rfl rfl rfl rfl hc4) (ev_load1 tu9 rfl rfl (box_ptr (cells := [.string c_.To]) 0 rfl 2 rfl (lb rfl))) F S rfl rfl ?_; clear F a; intro a F
      obtain ⟨y2, hy2, hm⟩ := bind_some hm
      refine wl_call0 (wg F rfl rfl rfl rfl hc4) rfl F rfl (treepatch_ValidPath_ok (fr := (fl [[bx b1 #[.i6 c_.Kind, .string c_.Path, .string c_.To, vc_1, vc_2] 51]] fr)) c_.To S hy2) rfl tc53 rfl rfl ?_; clear F a S
      rintro _ a w ⟨g4, l4, S, rfl⟩ F; replace S : St g4 [[bx b1 #[.i6 c_.Kind, .string c_.Path, .string c_.To, vc_1, vc_2] 51]] fr w := S
      refine wl_ev (wg F rfl rfl rfl rfl hc4) (ev_not rfl) F S rfl rfl ?_; clear F a; intro a F
      refine wl_ev (wg F rfl rfl rfl rfl hc3) (ev_pickT rfl hc4 rfl) F S rfl rfl ?_; clear F a; intro a F
      obtain rfl := sinj hm
      refine wpList_nil (then_n ?_); exact ⟨g4, F.sub ⟨rfl, rfl, rfl, rfl, rfl, trivial⟩, l4, S⟩
     ·refine wl_skip rfl rfl rfl rfl (ne_tf hc4) F rfl rfl ?_; clear F a; intro a F
      refine wl_skip rfl rfl rfl rfl (ne_tf hc4) F rfl rfl ?_; clear F a; intro a F
      refine wl_skip rfl rfl rfl rfl (ne_tf hc4) F rfl rfl ?_; clear F a; intro a F
      refine wl_skip rfl rfl rfl rfl (ne_tf hc4) F rfl rfl ?_; clear F a; intro a F
      refine wl_ev (wg F rfl rfl rfl rfl hc3) (ev_pickF rfl hc4 rfl) F S rfl rfl ?_; clear F a; intro a F
      obtain rfl := sinj hm
      refine wpList_nil (then_n ?_); exact ⟨g1, F.sub ⟨rfl, rfl, rfl, rfl, rfl, trivial⟩, (Le.refl _), S⟩
    clear F S; rintro a w ⟨g3, F, l3, S⟩
    refine wE (ev_pickF rfl hc3 rfl) F S rfl fun a F=>?_
    obtain rfl := sinj hm
    refine wpList_nil (then_n ?_); exact ⟨g3, F.sub ⟨rfl, rfl, rfl, rfl, trivial⟩, l3, S⟩
  clear F S; rintro a w ⟨g2, F, l2, S⟩
  refine wE (ev_assign rfl) F S rfl fun a F=>?_
  refine wpList_nil ?_
  refine then_n ?_
  obtain ⟨hc5, hm⟩ | ⟨hc5, hm⟩ := ite_or hm
  ·refine wp_condT F rfl hc5 ?_
   refine wp_seq ?_
   refine wp_region_lit ?_
   refine wE (ev_assign rfl) F S rfl fun a F=>?_
   refine wpList_nil ?_
   refine then_n ?_
   refine wp_ret ?_
   refine inb_r ?_
   refine then_r ?_
   obtain rfl := sinj hm
   refine post_r _ F rfl (ar_cons (resT rfl) ar_nil) ?_
   replace S : St g2 [] fr w := St.tail [] _ S
   exact ⟨_, rfl, g2, (l1.trans l2), S, rfl⟩
  ·refine wp_condF F rfl hc5 ?_
   refine wp_seq ?_
   refine wp_region_lit ?_
   refine wE (ev_move rfl) F S rfl fun a F=>?_
   refine wE (ev_not rfl) F S rfl fun a F=>?_
   refine wE (ev_move rfl) F S rfl fun a F=>?_
   obtain ⟨x4, hx4, hm⟩ := bind_some hm
   refine wl_cut 4 (fun a w' => w = w' ∧ Fr 84 a [(42, .bool x4), (4, .bool (decide (c_.Kind = 3))), (3, .bool (decide (c_.Kind = 4))), (1, bp b1 0)]) ?_ ?_
   ·clear hm; obtain ⟨hc6, hm⟩ | ⟨hc6, hm⟩ := ite_or hx4
    ·refine wl_ev (wg F rfl rfl rfl rfl hc6) (ev_fieldAddr' tu51 tf51_2 (z := 0) ts9 rfl ⟨_, rfl⟩ rfl) F S rfl rfl ?_; clear F a; intro a F
     refine wl_ev (wg F rfl rfl rfl rfl hc6) (ev_load1 tu9 rfl rfl (box_ptr (cells := [.string c_.To]) 0 rfl 2 rfl (lb rfl))) F S rfl rfl ?_; clear F a; intro a F
     refine wl_ev (wg F rfl rfl rfl rfl hc6) (ev_str rfl rfl (bs_neq _ _ _)) F S rfl rfl ?_; clear F a; intro a F
     refine wE (ev_pickT rfl hc6 rfl) F S rfl fun a F=>?_
     obtain rfl := sinj hm
     refine wpList_nil (then_n ?_); exact ⟨rfl, F.sub ⟨rfl, rfl, rfl, rfl, trivial⟩⟩
    ·refine wl_skip rfl rfl rfl rfl (ne_tf hc6) F rfl rfl ?_; clear F a; intro a F
     refine wl_skip rfl rfl rfl rfl (ne_tf hc6) F rfl rfl ?_; clear F a; intro a F
     refine wl_skip rfl rfl rfl rfl (ne_tf hc6) F rfl rfl ?_; clear F a; intro a F
     refine wE (ev_pickF rfl hc6 rfl) F S rfl fun a F=>?_
     obtain rfl := sinj hm
     refine wpList_nil (then_n ?_); exact ⟨rfl, F.sub ⟨rfl, rfl, rfl, rfl, trivial⟩⟩
   clear F; rintro a w' ⟨rfl, F⟩
   refine wE (ev_move rfl) F S rfl fun a F=>?_
   obtain ⟨x5, hx5, hm⟩ := bind_some hm
   refine wl_cut 9 (fun a w => ∃ g5, Fr 84 a [(52, .bool x5), (4, .bool (decide (c_.Kind = 3))), (3, .bool (decide (c_.Kind = 4))), (1, bp b1 0)] ∧ Le g2 g5 ∧ St g5 [[bx b1 #[.i6 c_.Kind, .string c_.Path, .string c_.To, vc_1, vc_2] 51]] fr w) ?_ ?_
   ·clear hm; obtain ⟨hc7, hm⟩ | ⟨hc7, hm⟩ := ite_or hx5
    ·refine wl_skip rfl rfl rfl rfl (ne_ft hc7) F rfl rfl ?_; clear F a; intro a F
     refine wl_skip rfl rfl rfl rfl (ne_ft hc7) F rfl rfl ?_; clear F a; intro a F
     refine wl_skipu rfl rfl rfl rfl F rfl rfl ?_; clear F a; intro a F
     refine wl_skipu rfl rfl rfl rfl F rfl rfl ?_; clear F a; intro a F
     refine wl_skipu rfl rfl rfl rfl F rfl rfl ?_; clear F a; intro a F
     refine wl_skipu rfl rfl rfl rfl F rfl rfl ?_; clear F a; intro a F
     refine wl_skipu rfl rfl rfl rfl F rfl rfl ?_; clear F a; intro a F
     refine wl_skip rfl rfl rfl rfl (ne_ft hc7) F rfl rfl ?_; clear F a; intro a F
     refine wE (ev_pickT rfl hc7 rfl) F S rfl fun a F=>?_
     obtain rfl := sinj hm
     refine wpList_nil (then_n ?_); exact ⟨g2, F.sub ⟨rfl, rfl, rfl, rfl, trivial⟩, (Le.refl _), S⟩
    ·refine wl_ev (wg F rfl rfl rfl rfl hc7) (ev_move rfl) F S rfl rfl ?_; clear F a; intro a F
     refine wl_ev (wg F rfl rfl rfl rfl hc7) (ev_move rfl) F S rfl rfl ?_; clear F a; intro a F
     obtain ⟨x6, hx6, hm⟩ := bind_some hm
     refine wl_cut 6 (fun a w => ∃ g6, Fr 84 a [(51, .bool x6), (43, .bool x4), (4, .bool (decide (c_.Kind = 3))), (3, .bool (decide (c_.Kind = 4))), (1, bp b1 0)] ∧ Le g2 g6 ∧ St g6 [[bx b1 #[.i6 c_.Kind, .string c_.Path, .string c_.To, vc_1, vc_2] 51]] fr w) ?_ ?_
     ·clear hm; obtain ⟨hc8, hm⟩ | ⟨hc8, hm⟩ := ite_or hx6
      ·refine wl_ev (wg F rfl rfl rfl rfl hc8) (ev_fieldAddr' tu51 tf51_1 (z := 0) ts9 rfl ⟨_, rfl⟩ rfl) F S rfl rfl ?_; clear F a; intro a F
       refine wl_ev (wg F rfl rfl rfl rfl hc8) (ev_load1 tu9 rfl rfl (box_ptr (cells := [.string c_.Path]) 0 rfl 1 rfl (lb rfl))) F S rfl rfl ?_; clear F a; intro a F
       refine wl_ev (wg F rfl rfl rfl rfl hc8) (ev_fieldAddr' tu51 tf51_2 (z := 0) ts9 rfl ⟨_, rfl⟩ rfl) F S rfl rfl ?_; clear F a; intro a F
       refine wl_ev (wg F rfl rfl rfl rfl hc8) (ev_load1 tu9 rfl rfl (box_ptr (cells := [.string c_.To]) 0 rfl 2 rfl (lb rfl))) F S rfl rfl ?_; clear F a; intro a F
       obtain ⟨y3, hy3, hm⟩ := bind_some hm
       refine wl_call0 (wg F rfl rfl rfl rfl hc8) rfl F rfl (treepatch_Related_ok (fr := (fl [[bx b1 #[.i6 c_.Kind, .string c_.Path, .string c_.To, vc_1, vc_2] 51]] fr)) c_.Path c_.To S hy3) rfl tc92 rfl rfl ?_; clear F a S
       rintro _ a w ⟨g7, l7, S, rfl⟩ F; replace S : St g7 [[bx b1 #[.i6 c_.Kind, .string c_.Path, .string c_.To, vc_1, vc_2] 51]] fr w := S
       refine wl_ev (wg F rfl rfl rfl rfl hc7) (ev_pickT rfl hc8 rfl) F S rfl rfl ?_; clear F a; intro a F
       obtain rfl := sinj hm
       refine wpList_nil (then_n ?_); exact ⟨g7, F.sub ⟨rfl, rfl, rfl, rfl, rfl, trivial⟩, l7, S⟩
      ·refine wl_skip rfl rfl rfl rfl (ne_tf hc8) F rfl rfl ?_; clear F a; intro a F
       refine wl_skip rfl rfl rfl rfl (ne_tf hc8) F rfl rfl ?_; clear F a; intro a F
       refine wl_skip rfl rfl rfl rfl (ne_tf hc8) F rfl rfl ?_; clear F a; intro a F
       refine wl_skip rfl rfl rfl rfl (ne_tf hc8) F rfl rfl ?_; clear F a; intro a F
       refine wl_skip rfl rfl rfl rfl (ne_tf hc8) F rfl rfl ?_; clear F a; intro a F
       refine wl_ev (wg F rfl rfl rfl rfl hc7) (ev_pickF rfl hc8 rfl) F S rfl rfl ?_; clear F a; intro a F
       obtain rfl := sinj hm
       refine wpList_nil (then_n ?_); exact ⟨g2, F.sub ⟨rfl, rfl, rfl, rfl, rfl, trivial⟩, (Le.refl _), S⟩
     clear F S; rintro a w ⟨g6, F, l6, S⟩
     refine wE (ev_pickF rfl hc7 rfl) F S rfl fun a F=>?_
     obtain rfl := sinj hm
     refine wpList_nil (then_n ?_); exact ⟨g6, F.sub ⟨rfl, rfl, rfl, rfl, trivial⟩, l6, S⟩
   clear F S; rintro a w ⟨g5, F, l5, S⟩
   refine wE (ev_assign rfl) F S rfl fun a F=>?_
   refine wpList_nil ?_
   refine then_n ?_
   obtain ⟨hc9, hm⟩ | ⟨hc9, hm⟩ := ite_or hm
   ·refine wp_condT F rfl hc9 ?_
    refine wp_seq ?_
    refine wp_region_lit ?_
    refine wE (ev_assign rfl) F S rfl fun a F=>?_
    refine wpList_nil ?_
    refine then_n ?_
    refine wp_ret ?_
    refine inb_r ?_
    refine then_r ?_
    obtain rfl := sinj hm
    refine post_r _ F rfl (ar_cons (resT rfl) ar_nil) ?_
    replace S : St g5 [] fr w := St.tail [] _ S
    exact ⟨_, rfl, g5, ((l1.trans l2).trans l5), S, rfl⟩
   ·refine wp_condF F rfl hc9 ?_
    refine wp_seq ?_
    refine wp_region_lit ?_
    refine wE (ev_fieldAddr' tu51 tf51_3 (z := 0) ts42 rfl ⟨_, rfl⟩ rfl) F S rfl fun a F=>?_
    refine wE (ev_load1 tu42 rfl rfl (box_ptr (cells := [vc_1]) 0 rfl 3 rfl (lb rfl))) F S rfl fun a F=>?_
    refine wE (ev_lenSh hc_1 rfl tu42) F S rfl fun a F=>?_
    refine wE (ev_int rfl rfl (bo_gtr _ _ _ _)) F S rfl fun a F=>?_
    refine wE (ev_move rfl) F S rfl fun a F=>?_
    obtain ⟨x7, hx7, hm⟩ := bind_some hm
    refine wl_cut 5 (fun a w' => w = w' ∧ Fr 84 a [(63, .bool x7), (3, .bool (decide (c_.Kind = 4))), (1, bp b1 0)]) ?_ ?_
    ·clear hm; obtain ⟨hc10, hm⟩ | ⟨hc10, hm⟩ := ite_or hx7
     ·refine wl_ev (wg F rfl rfl rfl rfl hc10) (ev_move rfl) F S rfl rfl ?_; clear F a; intro a F
      refine wl_ev (wg F rfl rfl rfl rfl hc10) (ev_move rfl) F S rfl rfl ?_; clear F a; intro a F
      obtain ⟨x8, hx8, hm⟩ := bind_some hm
      refine wl_cut 2 (fun a w' => w = w' ∧ Fr 84 a [(62, .bool x8), (58, .bool (decide ((c_.Lines.length : Int) > 0))), (3, .bool (decide (c_.Kind = 4))), (1, bp b1 0)]) ?_ ?_
      ·clear hm; obtain ⟨hc11, hm⟩ | ⟨hc11, hm⟩ := ite_or hx8
       ·refine wl_skip rfl rfl rfl rfl (ne_ft hc11) F rfl rfl ?_; clear F a; intro a F
        refine wl_ev (wg F rfl rfl rfl rfl hc10) (ev_pickT rfl hc11 rfl) F S rfl rfl ?_; clear F a; intro a F
        obtain rfl := sinj hm
        refine wpList_nil (then_n ?_); exact ⟨rfl, F.sub ⟨rfl, rfl, rfl, rfl, trivial⟩⟩
       ·refine wl_ev (wg F rfl rfl rfl rfl hc11) (ev_move rfl) F S rfl rfl ?_; clear F a; intro a F
        refine wl_ev (wg F rfl rfl rfl rfl hc10) (ev_pickF rfl hc11 rfl) F S rfl rfl ?_; clear F a; intro a F
        obtain rfl := sinj hm
        refine wpList_nil (then_n ?_); exact ⟨rfl, F.sub ⟨rfl, rfl, rfl, rfl, trivial⟩⟩
      clear F; rintro a w' ⟨rfl, F⟩
      refine wE (ev_pickT rfl hc10 rfl) F S rfl fun a F=>?_
      obtain rfl := sinj hm
      refine wpList_nil (then_n ?_); exact ⟨rfl, F.sub ⟨rfl, rfl, rfl, trivial⟩⟩
     ·refine wl_skip rfl rfl rfl rfl (ne_tf hc10) F rfl rfl ?_; clear F a; intro a F
      refine wl_skip rfl rfl rfl rfl (ne_tf hc10) F rfl rfl ?_; clear F a; intro a F
      refine wl_skipu rfl rfl rfl rfl F rfl rfl ?_; clear F a; intro a F
      refine wl_skip rfl rfl rfl rfl (ne_tf hc10) F rfl rfl ?_; clear F a; intro a F
      refine wE (ev_pickF rfl hc10 rfl) F S rfl fun a F=>?_
      obtain rfl := sinj hm
      refine wpList_nil (then_n ?_); exact ⟨rfl, F.sub ⟨rfl, rfl, rfl, trivial⟩⟩
    clear F; rintro a w' ⟨rfl, F⟩
    refine wE (ev_assign rfl) F S rfl fun a F=>?_
    refine wpList_nil ?_
    refine then_n ?_
    obtain ⟨hc12, hm⟩ | ⟨hc12, hm⟩ := ite_or hm
    ·refine wp_condT F rfl hc12 ?_
     refine wp_seq ?_
     refine wp_region_lit ?_
     refine wE (ev_assign rfl) F S rfl fun a F=>?_
     refine wpList_nil ?_
     refine then_n ?_
     refine wp_ret ?_
     refine inb_r ?_
     refine then_r ?_
     obtain rfl := sinj hm
     refine post_r _ F rfl (ar_cons (resT rfl) ar_nil) ?_
     replace S : St g5 [] fr w := St.tail [] _ S
     exact ⟨_, rfl, g5, ((l1.trans l2).trans l5), S, rfl⟩
    ·refine wp_condF F rfl hc12 ?_
     refine wp_seq ?_
     refine wp_region_lit ?_
     refine wE (ev_move rfl) F S rfl fun a F=>?_
     refine wE (ev_fieldAddr' tu51 tf51_4 (z := 0) ts45 rfl ⟨_, rfl⟩ rfl) F S rfl fun a F=>?_
     refine wE (ev_fieldAddr' tu45 tf45_0 (z := 0) ts43 rfl ⟨_, rfl⟩ rfl) F S rfl fun a F=>?_
     refine wE (ev_load1 tu43 rfl rfl (box_ptr (cells := [vc_2]) 0 rfl 4 rfl (lb rfl))) F S rfl fun a F=>?_
     refine wE (ev_lenSh hc_2 rfl tu43) F S rfl fun a F=>?_
     refine wE (ev_int rfl rfl (bo_gtr _ _ _ _)) F S rfl fun a F=>?_
     refine wE (ev_neB tu4 rfl rfl) F S rfl fun a F=>?_
     refine wE (ev_assign rfl) F S rfl fun a F=>?_
     refine wpList_nil ?_
     refine then_n ?_
     obtain ⟨hc13, hm⟩ | ⟨hc13, hm⟩ := ite_or hm
     ·refine wp_condT F rfl hc13 ?_
      refine wp_seq ?_
      refine wp_region_lit ?_
      refine wE (ev_assign rfl) F S rfl fun a F=>?_
      refine wpList_nil ?_
      refine then_n ?_
      refine wp_ret ?_
      refine inb_r ?_
      refine then_r ?_
      obtain rfl := sinj hm
      refine post_r _ F rfl (ar_cons (resT rfl) ar_nil) ?_
      replace S : St g5 [] fr w := St.tail [] _ S
      exact ⟨_, rfl, g5, ((l1.trans l2).trans l5), S, rfl⟩
     ·refine wp_condF F rfl hc13 ?_
      refine wp_skip ?_
      refine inb_n ?_
      refine then_n ?_
      refine wp_seq ?_
      refine wp_seq ?_
      refine wp_region_lit ?_
      refine wE (ev_fieldAddr' tu51 tf51_3 (z := 0) ts42 rfl ⟨_, rfl⟩ rfl) F S rfl fun a F=>?_
      refine wE (ev_load1 tu42 rfl rfl (box_ptr (cells := [vc_1]) 0 rfl 3 rfl (lb rfl))) F S rfl fun a F=>?_
      obtain ⟨y4, hy4, hm⟩ := bind_some hm
      refine wl_call0 (wn rfl) rfl F rfl (lines_Validate_ok (fr := (fl [[bx b1 #[.i6 c_.Kind, .string c_.Path, .string c_.To, vc_1, vc_2] 51]] fr)) c_.Lines vc_1 (hc_1.mono ((l1.trans l2).trans l5)) S hy4) rfl tc108 rfl rfl ?_; clear F a S
      rintro _ a w ⟨g8, l8, S, rfl⟩ F; replace S : St g8 [[bx b1 #[.i6 c_.Kind, .string c_.Path, .string c_.To, vc_1, vc_2] 51]] fr w := S
      refine wl_alloc (wn rfl) rfl tz30 (cs := [.i6 0, .i6 0]) rfl F S rfl rfl ?_; clear F a S; rintro b2 a w F S
      refine wl_storeC (wn rfl) rfl F S rfl rfl (vs := [.i6 y4.Code, .i6 y4.Index]) rfl ts30 (one_cons rfl (one_cons rfl one_nil)) (k := 0) rfl (lb rfl) (c' := #[.i6 y4.Code, .i6 y4.Index]) rfl rfl ?_; clear S; intro w S
      refine wpList_nil ?_
      refine then_n ?_
      refine wp_seq ?_
      refine wp_region_lit ?_
      refine wE (ev_loadA tu30 rfl (cs := [.i6 y4.Code, .i6 y4.Index]) ts30 rfl (box_ptr (cells := [.i6 y4.Code, .i6 y4.Index]) 0 rfl 0 rfl (lb rfl))) F S rfl fun a F=>?_
      refine wE (ev_build (parts := []) (vs := []) rfl (fun w => tb30_  w)) F S rfl fun a F=>?_
      refine wE (ev_neS tu30 tqa30 tqb30 tqc30 (xs := [.i6 y4.Code, .i6 y4.Index]) (ys := [.i6 0, .i6 0]) rfl rfl ⟨_, _, rfl, by decide, ⟨_, _, rfl, rfl, leaf_int tu3⟩, ⟨_, _, rfl, by decide, ⟨_, _, rfl, rfl, leaf_int tu3⟩, rfl⟩⟩) F S rfl fun a F=>?_
      refine wpList_nil ?_
      refine then_n ?_
      obtain ⟨hc14, hm⟩ | ⟨hc14, hm⟩ := ite_or hm
      ·refine wp_condT F rfl hc14 ?_
       refine wp_seq ?_
       refine wp_region_lit ?_
       refine wE (ev_fieldAddr' tu30 tf30_0 (z := 0) ts3 rfl ⟨_, rfl⟩ rfl) F S rfl fun a F=>?_
       refine wE (ev_load1 tu3 rfl rfl (box_ptr (cells := [.i6 y4.Code]) 0 rfl 0 rfl (lb rfl))) F S rfl fun a F=>?_
       refine wE (ev_assign rfl) F S rfl fun a F=>?_
       refine wpList_nil ?_
       refine then_n ?_
       refine wp_ret ?_
       refine then_r ?_
       obtain rfl := sinj hm
       refine post_r _ F rfl (ar_cons (resT rfl) ar_nil) ?_
       replace S : St g8 [] fr w := St.tail [] _ S
       exact ⟨_, rfl, g8, (((l1.trans l2).trans l5).trans l8), S, rfl⟩
      ·refine wp_condF F rfl hc14 ?_
       refine wp_skip ?_
       refine then_n ?_
       refine wp_seq ?_
       refine wp_region_lit ?_
       refine wE (ev_fieldAddr' tu51 tf51_4 (z := 0) ts45 rfl ⟨_, rfl⟩ rfl) F S rfl fun a F=>?_
       refine wE (ev_loadA tu45 rfl (cs := [vc_2]) ts45 rfl (box_ptr (cells := [vc_2]) 1 rfl 4 rfl (lb rfl))) F S rfl fun a F=>?_
       obtain ⟨y5, hy5, hm⟩ := bind_some hm
       refine wl_call0 (wn rfl) rfl F rfl (textpatch_Validate_ok (fr := (fl [[bx b2 #[.i6 y4.Code, .i6 y4.Index] 30], [bx b1 #[.i6 c_.Kind, .string c_.Path, .string c_.To, vc_1, vc_2] 51]] fr)) c_.Patch vc_2 (hc_2.mono (((l1.trans l2).trans l5).trans l8)) S hy5) rfl tc55 rfl rfl ?_; clear F a S
       rintro _ a w ⟨g9, l9, S, rfl⟩ F; replace S : St g9 [[bx b2 #[.i6 y4.Code, .i6 y4.Index] 30], [bx b1 #[.i6 c_.Kind, .string c_.Path, .string c_.To, vc_1, vc_2] 51]] fr w := S
       refine wE (ev_field1 tu30 tf30_0 tu3 rfl (cs := [.i6 y5.Code, .i6 y5.Index]) rfl rfl) F S rfl fun a F=>?_
       refine wE (ev_assign rfl) F S rfl fun a F=>?_
       refine wpList_nil ?_
       refine then_n ?_
       refine wp_ret ?_
       obtain rfl := sinj hm
       refine post_r _ F rfl (ar_cons (resT rfl) ar_nil) ?_
       replace S : St g9 [] fr w := St.tail [] _ S
       exact ⟨_, rfl, g9, ((((l1.trans l2).trans l5).trans l8).trans l9), S, rfl⟩

theorem treepatch_ValidatePatch_ok {g : Gh} {fr : Hl} {w : World} {r : Fault} (p_ : TreePatch) (vp_1 : Value) (hp_1 : RepSl g p_.Changes vp_1) (S : St g [] fr w) (hm : treepatch_ValidatePatch p_ = some r) :
  Calls Tryz.prog 49 [.agg #[vp_1]].toArray w (fun en w' => ∃ v, en = .returned v ∧ ∃ (g' : Gh), Le g g' ∧ St g' [] fr w' ∧ .agg #[.i6 r.Code, .i6 r.Index] = v) := by
 unfold treepatch_ValidatePatch at hm
 refine calls_enter (fn := Tryz.f49) Tryz.func49 rfl Tryz.ntmps49 (lb rfl) ?_
 intro a F
 replace F : Fr 28 a [(0, .agg #[vp_1])] := F
 refine wp_seq ?_
 refine wp_region_lit ?_
 refine wl_boxC (wn rfl) rfl rfl rfl F S rfl rfl ?_; clear F a S; rintro b1 a w F S
 refine wl_alloc (wn rfl) rfl tz30 (cs := [.i6 0, .i6 0]) rfl F S rfl rfl ?_; clear F a S; rintro b2 a w F S
 refine wpList_nil ?_
 refine then_n ?_
 refine wp_seq ?_
 refine wp_seq ?_
 refine wp_region_lit ?_
 refine wE (ev_fieldAddr' tu27 tf27_0 (z := 0) ts25 rfl ⟨_, rfl⟩ rfl) F S rfl fun a F=>?_
 refine wE (ev_load1 tu25 rfl rfl (box_ptr (cells := [vp_1]) 1 rfl 0 rfl (lb rfl))) F S rfl fun a F=>?_
 refine wE (ev_lenSh hp_1 rfl tu25) F S rfl fun a F=>?_
 refine wE (ev_int rfl rfl (bo_gtr _ _ _ _)) F S rfl fun a F=>?_
 refine wpList_nil ?_
 refine then_n ?_
 obtain ⟨hc1, hm⟩ | ⟨hc1, hm⟩ := ite_or hm
 ·refine wp_condT F rfl hc1 ?_
  refine wp_seq ?_
  refine wp_region_lit ?_
  refine wE (ev_build (parts := [(0, .const (.i6 2)), (1, .const (.i6 (-1)))]) (vs := [(0, .i6 2), (1, .i6 (-1))]) rfl (fun w => tb30_0_1 2 (-1) w)) F S rfl fun a F=>?_
  refine wl_storeC (wn rfl) rfl F S rfl rfl (vs := [.i6 2, .i6 (-1)]) rfl ts30 (one_cons rfl (one_cons rfl one_nil)) (k := 0) rfl (lb rfl) (c' := #[.i6 2, .i6 (-1)]) rfl rfl ?_; clear S; intro w S
  refine wpList_nil ?_
  refine then_n ?_
  refine wp_ret ?_
  refine then_r ?_
  obtain rfl := sinj hm
  refine post_r _ F rfl (ar_cons (resA rfl tu30 rfl (box_ptr (cells := [.i6 2, .i6 (-1)]) 0 rfl 0 rfl (lb rfl) w S) ts30) ar_nil) ?_
  replace S : St g [] fr w := St.tail [] _ S
  exact ⟨_, rfl, g, (Le.refl _), S, rfl⟩
 ·refine wp_condF F rfl hc1 ?_
  refine wp_skip ?_
  refine then_n ?_
  refine wp_cut (fun a w => ∃ (g1 : Gh), Fr 28 a [(2, bp b2 0)] ∧ Le g g1 ∧ St g1 [[bx b2 #[.i6 0, .i6 0] 30]] fr w ∧ treepatch_ValidatePatch.j1 = some r) ?_ ?_
  ·refine wp_seq ?_
   refine wp_region_lit ?_
   refine wE (ev_fieldAddr' tu27 tf27_0 (z := 0) ts25 rfl ⟨_, rfl⟩ rfl) F S rfl fun a F=>?_
   refine wE (ev_load1 tu25 rfl rfl (box_ptr (cells := [vp_1]) 1 rfl 0 rfl (lb rfl))) F S rfl fun a F=>?_
   refine wE (ev_lenSh hp_1 rfl tu25) F S rfl fun a F=>?_
   refine wE (ev_move rfl) F S rfl fun a F=>?_
   refine wpList_nil ?_
   refine then_n ?_
   refine wp_block ?_
   obtain ⟨r1, hr1, hm⟩ := bind_some hm
   have hmo1 := hm; clear hm
   refine wp_iter (σ := Int) (ρ := Fault ⊕ Unit) (m := fun s => treepatch_ValidatePatch.l1 p_ s) (I := fun x1 a w => ∃ (g2 : Gh), Fr 28 a [(14, .i6 x1), (13, .i6 (p_.Changes.length : Int)), (12, vp_1), (2, bp b2 0)] ∧ Le g g2 ∧ St g2 [[bx b2 #[.i6 0, .i6 0] 30]] fr w) hr1 ?_ ?_
   ·replace S : St g [[bx b2 #[.i6 0, .i6 0] 30]] fr w := St.tail [[bx b2 #[.i6 0, .i6 0] 30]] _ (S.frontC 0 rfl)
    exact ⟨g, F.sub ⟨rfl, rfl, rfl, rfl, trivial⟩, (Le.refl _), S⟩
   ·clear F S; rintro x1 a w x2 ⟨g2, F, l2, S⟩ hx1 hfin1
    have hm : treepatch_ValidatePatch.l1 p_ x1 = some x2 := hx1; clear hx1
    unfold treepatch_ValidatePatch.l1 at hm
    refine wp_seq ?_
    refine wp_region_lit ?_
    refine wE (ev_int rfl rfl (bo_lss _ _ _ _)) F S rfl fun a F=>?_
    refine wpList_nil ?_
    refine then_n ?_
    refine wp_seq ?_
    obtain ⟨hc2, hm⟩ | ⟨hc2, hm⟩ := ite_or hm
    ·refine wp_condT F rfl hc2 ?_
     refine wp_skip ?_
     refine then_n ?_
     refine wp_seq ?_
     refine wp_block ?_
     refine wp_seq ?_
     refine wp_region_lit ?_
     refine wE (ev_move rfl) F S rfl fun a F=>?_
     obtain ⟨y1, hy1, hm⟩ := bind_some hm
     obtain ⟨cs1, hr2, hp1⟩ := elemS (hp_1.mono l2) hy1
     obtain ⟨v1, v2, rfl, h1, h2⟩ := rep_TreeChange hr2
     refine wE (ev_idxS (hp_1.mono l2) hy1 tu25 ts51 rfl rfl) F S rfl fun a F=>?_
     refine wE (ev_loadA tu51 rfl (cs := [.i6 y1.Kind, .string y1.Path, .string y1.To, v1, v2]) ts51 rfl (ptr_mono (cks := [[bx b2 #[.i6 0, .i6 0] 30]]) (fr := fr) hp1 (Le.refl _))) F S rfl fun a F=>?_
     refine wl_alloc (wn rfl) rfl tz51 (cs := [.i6 0, .string ByteArray.empty, .string ByteArray.empty, nilS, nilS]) rfl F S rfl rfl ?_; clear F a S; rintro b3 a w F S
     refine wE (ev_assign rfl) F S rfl fun a F=>?_
     refine wl_storeC (wn rfl) rfl F S rfl rfl (vs := [.i6 y1.Kind, .string y1.Path, .string y1.To, v1, v2]) rfl ts51 (one_cons rfl (one_cons rfl (one_cons rfl (one_cons h1.one (one_cons h2.one one_nil))))) (k := 0) rfl (lb rfl) (c' := #[.i6 y1.Kind, .string y1.Path, .string y1.To, v1, v2]) rfl rfl ?_; clear S; intro w S
     refine wpList_nil ?_
     refine then_n ?_
     refine wp_seq ?_
     refine wp_region_lit ?_
     refine wE (ev_loadA tu51 rfl (cs := [.i6 y1.Kind, .string y1.Path, .string y1.To, v1, v2]) ts51 rfl (box_ptr (cells := [.i6 y1.Kind, .string y1.Path, .string y1.To, v1, v2]) 0 rfl 0 rfl (lb rfl))) F S rfl fun a F=>?_
     obtain ⟨y2, hy2, hm⟩ := bind_some hm
     refine wl_call0 (wn rfl) rfl F rfl (treepatch_check_ok (fr := (fl [[bx b3 #[.i6 y1.Kind, .string y1.Path, .string y1.To, v1, v2] 51], [bx b2 #[.i6 0, .i6 0] 30]] fr)) y1 v1 h1 v2 h2 S hy2) rfl tc104 rfl rfl ?_; clear F a S
     rintro _ a w ⟨g3, l3, S, rfl⟩ F; replace S : St g3 [[bx b3 #[.i6 y1.Kind, .string y1.Path, .string y1.To, v1, v2] 51], [bx b2 #[.i6 0, .i6 0] 30]] fr w := S
     refine wE (ev_assign rfl) F S rfl fun a F=>?_
     refine wpList_nil ?_
     refine then_n ?_
     refine wp_seq ?_
     refine wp_region_lit ?_
     refine wE (ev_move rfl) F S rfl fun a F=>?_
     refine wE (ev_int rfl rfl (bo_neq _ _ _ _)) F S rfl fun a F=>?_
     refine wpList_nil ?_
     refine then_n ?_
     obtain ⟨hc3, hm⟩ | ⟨hc3, hm⟩ := ite_or hm
     ·refine wp_condT F rfl hc3 ?_
      refine wp_seq ?_
      refine wp_region_lit ?_
      refine wE (ev_move rfl) F S rfl fun a F=>?_
      refine wE (ev_move rfl) F S rfl fun a F=>?_
      refine wE (ev_build (parts := [(0, .tmp 23), (1, .tmp 24)]) (vs := [(0, .i6 y2), (1, .i6 x1)]) rfl (fun w => tb30_0_1 y2 x1 w)) F S rfl fun a F=>?_
      refine wl_storeC (wn rfl) rfl F S rfl rfl (vs := [.i6 y2, .i6 x1]) rfl ts30 (one_cons rfl (one_cons rfl one_nil)) (k := 1) rfl (lb rfl) (c' := #[.i6 y2, .i6 x1]) rfl rfl ?_; clear S; intro w S
      refine wpList_nil ?_
      refine then_n ?_
      refine wp_ret ?_
      refine inb_r ?_
      refine then_r ?_
      refine then_r ?_
      refine inb_r ?_
      refine then_r ?_
      obtain rfl := sinj hm
      obtain rfl := hfin1 _ rfl
      clear hm
      have hm : (some ({ Code := y2, Index := x1 } : Fault) : Option Fault) = some _ := hmo1
      obtain rfl := sinj hm
      refine post_r _ F rfl (ar_cons (resA rfl tu30 rfl (box_ptr (cells := [.i6 y2, .i6 x1]) 1 rfl 0 rfl (lb rfl) w S) ts30) ar_nil) ?_
      replace S : St g3 [] fr w := St.tail [] _ S
      exact ⟨_, rfl, g3, (l2.trans l3), S, rfl⟩
     ·refine wp_condF F rfl hc3 ?_
      refine wp_skip ?_
      refine inb_n ?_
      refine then_n ?_
      refine wp_region_lit ?_
      obtain ⟨z1, hz1, hm⟩ := bind_some hm
      refine wE (ev_int rfl rfl (bo_add hz1)) F S rfl fun a F=>?_
      refine wE (ev_move rfl) F S rfl fun a F=>?_
      refine wpList_nil ?_
      refine then_n ?_
      obtain rfl := sinj hm
      refine ⟨_, rfl, ?_⟩
      replace S : St g3 [[bx b2 #[.i6 0, .i6 0] 30]] fr w := St.tail [[bx b2 #[.i6 0, .i6 0] 30]] _ (S.frontC 1 rfl)
      exact ⟨g3, F.sub ⟨rfl, rfl, rfl, rfl, trivial⟩, (l2.trans l3), S⟩
    ·refine wp_condF F rfl hc2 ?_
     refine wp_exit ?_
     refine then_e ?_
     refine then_e ?_
     refine inb_x ?_
     refine then_n ?_
     obtain rfl := sinj hm
     obtain rfl := hfin1 _ rfl
     clear hm
     have hm : (treepatch_ValidatePatch.j1 : Option Fault) = some _ := hmo1
     exact ⟨g2, F.sub ⟨rfl, trivial⟩, l2, S, hm⟩
  ·clear F S hm; rintro a w ⟨g1, F, l1, S, hm⟩
   refine wp_seq ?_
   refine wp_region_lit ?_
   refine wE (ev_build (parts := []) (vs := []) rfl (fun w => tb30_  w)) F S rfl fun a F=>?_
   refine wl_storeC (wn rfl) rfl F S rfl rfl (vs := [.i6 0, .i6 0]) rfl ts30 (one_cons rfl (one_cons rfl one_nil)) (k := 0) rfl (lb rfl) (c' := #[.i6 0, .i6 0]) rfl rfl ?_; clear S; intro w S
   refine wpList_nil ?_
   refine then_n ?_
   refine wp_ret ?_
   obtain rfl := sinj hm
   refine post_r _ F rfl (ar_cons (resA rfl tu30 rfl (box_ptr (cells := [.i6 0, .i6 0]) 0 rfl 0 rfl (lb rfl) w S) ts30) ar_nil) ?_
   replace S : St g1 [] fr w := St.tail [] _ S
   exact ⟨_, rfl, g1, l1, S, rfl⟩

theorem treepatch_Clash_ok {g : Gh} {fr : Hl} {w : World} {r : Bool} (files : (List File)) (vfiles1 : Value) (hfiles1 : RepSl g files vfiles1) (path : ByteArray) (except : Int) (S : St g [] fr w) (hm : treepatch_Clash files path except = some r) :
  Calls Tryz.prog 36 [vfiles1, .string path, .i6 except].toArray w (fun en w' => ∃ v, en = .returned v ∧ ∃ (g' : Gh), Le g g' ∧ St g' [] fr w' ∧ .bool r = v) := by
 unfold treepatch_Clash at hm
 refine calls_enter (fn := Tryz.f36) Tryz.func36 rfl Tryz.ntmps36 (lb rfl) ?_
 intro a F
 replace F : Fr 26 a [(0, vfiles1), (1, .string path), (2, .i6 except)] := F
 refine wp_seq ?_
 refine wp_region_lit ?_
 refine wE (ev_assign rfl) F S rfl fun a F=>?_
 refine wpList_nil ?_
 refine then_n ?_
 refine wp_cut (fun a w => ∃ (g1 : Gh), Fr 26 a [] ∧ Le g g1 ∧ St g1 [] fr w ∧ treepatch_Clash.j1 = some r) ?_ ?_
 ·refine wp_seq ?_
  refine wp_region_lit ?_
  refine wE (ev_move rfl) F S rfl fun a F=>?_
  refine wE (ev_lenSh hfiles1 rfl tu22) F S rfl fun a F=>?_
  refine wE (ev_move rfl) F S rfl fun a F=>?_
  refine wpList_nil ?_
  refine then_n ?_
  refine wp_block ?_
  obtain ⟨r1, hr1, hm⟩ := bind_some hm
  have hmo1 := hm; clear hm
  refine wp_iter (σ := Int) (ρ := Bool ⊕ Unit) (m := fun s => treepatch_Clash.l1 files path except s) (I := fun x1 a w => ∃ (g2 : Gh), Fr 26 a [(11, .i6 x1), (10, .i6 (files.length : Int)), (9, vfiles1), (1, .string path), (2, .i6 except)] ∧ Le g g2 ∧ St g2 [] fr w) hr1 ?_ ?_
  ·exact ⟨g, F.sub ⟨rfl, rfl, rfl, rfl, rfl, trivial⟩, (Le.refl _), S⟩
  ·clear F S; rintro x1 a w x2 ⟨g2, F, l2, S⟩ hx1 hfin1
   have hm : treepatch_Clash.l1 files path except x1 = some x2 := hx1; clear hx1
   unfold treepatch_Clash.l1 at hm
   refine wp_seq ?_
   refine wp_region_lit ?_
   refine wE (ev_int rfl rfl (bo_lss _ _ _ _)) F S rfl fun a F=>?_
   refine wpList_nil ?_
   refine then_n ?_
   refine wp_seq ?_
   obtain ⟨hc1, hm⟩ | ⟨hc1, hm⟩ := ite_or hm
   ·refine wp_condT F rfl hc1 ?_
    refine wp_skip ?_
    refine then_n ?_
    refine wp_seq ?_
    refine wp_block ?_
    refine wp_seq ?_
    refine wp_region_lit ?_
    refine wE (ev_move rfl) F S rfl fun a F=>?_
    obtain ⟨y1, hy1, hm⟩ := bind_some hm
    obtain ⟨cs1, hr2, hp1⟩ := elemS (hfiles1.mono l2) hy1
    obtain ⟨v1, rfl, h1⟩ := rep_File hr2
    refine wE (ev_idxS (hfiles1.mono l2) hy1 tu22 ts80 rfl rfl) F S rfl fun a F=>?_
    refine wE (ev_loadA tu80 rfl (cs := [.string y1.Path, v1]) ts80 rfl (ptr_mono (cks := []) (fr := fr) hp1 (Le.refl _))) F S rfl fun a F=>?_
    refine wl_alloc (wn rfl) rfl tz80 (cs := [.string ByteArray.empty, nilS]) rfl F S rfl rfl ?_; clear F a S; rintro b1 a w F S
    refine wE (ev_assign rfl) F S rfl fun a F=>?_
    refine wl_storeC (wn rfl) rfl F S rfl rfl (vs := [.string y1.Path, v1]) rfl ts80 (one_cons rfl (one_cons h1.one one_nil)) (k := 0) rfl (lb rfl) (c' := #[.string y1.Path, v1]) rfl rfl ?_; clear S; intro w S
    refine wpList_nil ?_
    refine then_n ?_
    refine wp_seq ?_
    refine wp_region_lit ?_
    refine wE (ev_move rfl) F S rfl fun a F=>?_
    refine wE (ev_move rfl) F S rfl fun a F=>?_
    refine wE (ev_int rfl rfl (bo_neq _ _ _ _)) F S rfl fun a F=>?_
    refine wE (ev_move rfl) F S rfl fun a F=>?_
    obtain ⟨x3, hx2, hm⟩ := bind_some hm
    refine wl_cut 5 (fun a w => ∃ g3, Fr 26 a [(24, .bool x3), (11, .i6 x1), (10, .i6 (files.length : Int)), (9, vfiles1), (1, .string path), (2, .i6 except)] ∧ Le g2 g3 ∧ St g3 [[bx b1 #[.string y1.Path, v1] 80]] fr w) ?_ ?_
    ·clear hm; obtain ⟨hc2, hm⟩ | ⟨hc2, hm⟩ := ite_or hx2
     ·refine wl_ev (wg F rfl rfl rfl rfl hc2) (ev_fieldAddr' tu80 tf80_0 (z := 0) ts9 rfl ⟨_, rfl⟩ rfl) F S rfl rfl ?_; clear F a; intro a F
      refine wl_ev (wg F rfl rfl rfl rfl hc2) (ev_load1 tu9 rfl rfl (box_ptr (cells := [.string y1.Path]) 0 rfl 0 rfl (lb rfl))) F S rfl rfl ?_; clear F a; intro a F
      refine wl_ev (wg F rfl rfl rfl rfl hc2) (ev_move rfl) F S rfl rfl ?_; clear F a; intro a F
      obtain ⟨y2, hy2, hm⟩ := bind_some hm
      refine wl_call0 (wg F rfl rfl rfl rfl hc2) rfl F rfl (treepatch_Related_ok (fr := (fl [[bx b1 #[.string y1.Path, v1] 80]] fr)) y1.Path path S hy2) rfl tc92 rfl rfl ?_; clear F a S
      rintro _ a w ⟨g4, l4, S, rfl⟩ F; replace S : St g4 [[bx b1 #[.string y1.Path, v1] 80]] fr w := S
      refine wE (ev_pickT rfl hc2 rfl) F S rfl fun a F=>?_
      obtain rfl := sinj hm
      refine wpList_nil (then_n ?_); exact ⟨g4, F.sub ⟨rfl, rfl, rfl, rfl, rfl, rfl, trivial⟩, l4, S⟩
     ·refine wl_skip rfl rfl rfl rfl (ne_tf hc2) F rfl rfl ?_; clear F a; intro a F
      refine wl_skip rfl rfl rfl rfl (ne_tf hc2) F rfl rfl ?_; clear F a; intro a F
      refine wl_skip rfl rfl rfl rfl (ne_tf hc2) F rfl rfl ?_; clear F a; intro a F
      refine wl_skip rfl rfl rfl rfl (ne_tf hc2) F rfl rfl ?_; clear F a; intro a F
      refine wE (ev_pickF rfl hc2 rfl) F S rfl fun a F=>?_
      obtain rfl := sinj hm
      refine wpList_nil (then_n ?_); exact ⟨g2, F.sub ⟨rfl, rfl, rfl, rfl, rfl, rfl, trivial⟩, (Le.refl _), S⟩
    clear F S; rintro a w ⟨g3, F, l3, S⟩
    refine wpList_nil ?_
    refine then_n ?_
    obtain ⟨hc3, hm⟩ | ⟨hc3, hm⟩ := ite_or hm
    ·refine wp_condT F rfl hc3 ?_
     refine wp_seq ?_
     refine wp_region_lit ?_
     refine wE (ev_assign rfl) F S rfl fun a F=>?_
     refine wpList_nil ?_
     refine then_n ?_
     refine wp_ret ?_
     refine inb_r ?_
     refine then_r ?_
     refine then_r ?_
     refine inb_r ?_
     refine then_r ?_
     obtain rfl := sinj hm
     obtain rfl := hfin1 _ rfl
     clear hm
     have hm : (some true : Option Bool) = some _ := hmo1
     obtain rfl := sinj hm
     refine post_r _ F rfl (ar_cons (resT rfl) ar_nil) ?_
     replace S : St g3 [] fr w := St.tail [] _ S
     exact ⟨_, rfl, g3, (l2.trans l3), S, rfl⟩
    ·refine wp_condF F rfl hc3 ?_
     refine wp_skip ?_
     refine inb_n ?_
     refine then_n ?_
     refine wp_region_lit ?_
     obtain ⟨z1, hz1, hm⟩ := bind_some hm
     refine wE (ev_int rfl rfl (bo_add hz1)) F S rfl fun a F=>?_
     refine wE (ev_move rfl) F S rfl fun a F=>?_
     refine wpList_nil ?_
     refine then_n ?_
     obtain rfl := sinj hm
     refine ⟨_, rfl, ?_⟩
     replace S : St g3 [] fr w := St.tail [] _ S
     exact ⟨g3, F.sub ⟨rfl, rfl, rfl, rfl, rfl, trivial⟩, (l2.trans l3), S⟩
   ·refine wp_condF F rfl hc1 ?_
    refine wp_exit ?_
    refine then_e ?_
    refine then_e ?_
    refine inb_x ?_
    refine then_n ?_
    obtain rfl := sinj hm
    obtain rfl := hfin1 _ rfl
    clear hm
    have hm : (treepatch_Clash.j1 : Option Bool) = some _ := hmo1
    exact ⟨g2, F.sub trivial, l2, S, hm⟩
 ·clear F S hm; rintro a w ⟨g1, F, l1, S, hm⟩
  refine wp_seq ?_
  refine wp_region_lit ?_
  refine wE (ev_assign rfl) F S rfl fun a F=>?_
  refine wpList_nil ?_
  refine then_n ?_
  refine wp_ret ?_
  obtain rfl := sinj hm
  refine post_r _ F rfl (ar_cons (resT rfl) ar_nil) ?_
  exact ⟨_, rfl, g1, l1, S, rfl⟩

theorem treepatch_Clash_okb {g : Gh} {fr : Hl} {w : World} {r : Bool} (files : (List File)) (vfiles1 : Value) (cfiles1 : Hl) (hfiles1 : OwnS g files vfiles1 cfiles1) (path : ByteArray) (except : Int) (S : St g [cfiles1] fr w) (hm : treepatch_Clash files path except = some r) :
  Calls Tryz.prog 36 [vfiles1, .string path, .i6 except].toArray w (fun en w' => ∃ v, en = .returned v ∧ ∃ (g' : Gh), Le g g' ∧ St g' [cfiles1] fr w' ∧ .bool r = v) := by
 unfold treepatch_Clash at hm
 refine calls_enter (fn := Tryz.f36) Tryz.func36 rfl Tryz.ntmps36 (lb rfl) ?_
 intro a F
 replace F : Fr 26 a [(0, vfiles1), (1, .string path), (2, .i6 except)] := F
 refine wp_seq ?_
 refine wp_region_lit ?_
 refine wE (ev_assign rfl) F S rfl fun a F=>?_
 refine wpList_nil ?_
 refine then_n ?_
 refine wp_cut (fun a w => ∃ (g1 : Gh), Fr 26 a [] ∧ Le g g1 ∧ St g1 [cfiles1] fr w ∧ treepatch_Clash.j1 = some r) ?_ ?_
 ·refine wp_seq ?_
  refine wp_region_lit ?_
  refine wE (ev_move rfl) F S rfl fun a F=>?_
  refine wE (ev_lenOw hfiles1 rfl tu22) F S rfl fun a F=>?_
  refine wE (ev_move rfl) F S rfl fun a F=>?_
  refine wpList_nil ?_
  refine then_n ?_
  refine wp_block ?_
  obtain ⟨r1, hr1, hm⟩ := bind_some hm
  have hmo1 := hm; clear hm
  refine wp_iter (σ := Int) (ρ := Bool ⊕ Unit) (m := fun s => treepatch_Clash.l1 files path except s) (I := fun x1 a w => ∃ (g2 : Gh), Fr 26 a [(11, .i6 x1), (10, .i6 (files.length : Int)), (9, vfiles1), (1, .string path), (2, .i6 except)] ∧ Le g g2 ∧ St g2 [cfiles1] fr w) hr1 ?_ ?_
  ·exact ⟨g, F.sub ⟨rfl, rfl, rfl, rfl, rfl, trivial⟩, (Le.refl _), S⟩
  ·clear F S; rintro x1 a w x2 ⟨g2, F, l2, S⟩ hx1 hfin1
   have hm : treepatch_Clash.l1 files path except x1 = some x2 := hx1; clear hx1
   unfold treepatch_Clash.l1 at hm
   refine wp_seq ?_
   refine wp_region_lit ?_
   refine wE (ev_int rfl rfl (bo_lss _ _ _ _)) F S rfl fun a F=>?_
   refine wpList_nil ?_
   refine then_n ?_
   refine wp_seq ?_
   obtain ⟨hc1, hm⟩ | ⟨hc1, hm⟩ := ite_or hm
   ·refine wp_condT F rfl hc1 ?_
    refine wp_skip ?_
    refine then_n ?_
    refine wp_seq ?_
    refine wp_block ?_
    refine wp_seq ?_
    refine wp_region_lit ?_
    refine wE (ev_move rfl) F S rfl fun a F=>?_
    obtain ⟨y1, hy1, hm⟩ := bind_some hm
    refine wE (ev_idxO (hfiles1.mono l2) hy1 tu22 ts80 rfl rfl) F S rfl fun a F=>?_
    obtain ⟨cs1, hr2, hq1⟩ := elemO (hfiles1.mono l2) hy1
    obtain ⟨v1, rfl, h1⟩ := rep_File hr2
    refine wE (ev_loadA tu80 rfl (cs := [.string y1.Path, v1]) ts80 rfl (hq1 _ _ 0 rfl)) F S rfl fun a F=>?_
    refine wl_alloc (wn rfl) rfl tz80 (cs := [.string ByteArray.empty, nilS]) rfl F S rfl rfl ?_; clear F a S; rintro b1 a w F S
    refine wE (ev_assign rfl) F S rfl fun a F=>?_
    refine wl_storeC (wn rfl) rfl F S rfl rfl (vs := [.string y1.Path, v1]) rfl ts80 (one_cons rfl (one_cons h1.one one_nil)) (k := 0) rfl (lb rfl) (c' := #[.string y1.Path, v1]) rfl rfl ?_; clear S; intro w S
    refine wpList_nil ?_
    refine then_n ?_
    refine wp_seq ?_
    refine wp_region_lit ?_
    refine wE (ev_move rfl) F S rfl fun a F=>?_
    refine wE (ev_move rfl) F S rfl fun a F=>?_
    refine wE (ev_int rfl rfl (bo_neq _ _ _ _)) F S rfl fun a F=>?_
    refine wE (ev_move rfl) F S rfl fun a F=>?_
    obtain ⟨x3, hx2, hm⟩ := bind_some hm
    refine wl_cut 5 (fun a w => ∃ g3, Fr 26 a [(24, .bool x3), (11, .i6 x1), (10, .i6 (files.length : Int)), (9, vfiles1), (1, .string path), (2, .i6 except)] ∧ Le g2 g3 ∧ St g3 [[bx b1 #[.string y1.Path, v1] 80], cfiles1] fr w) ?_ ?_
    ·clear hm; obtain ⟨hc2, hm⟩ | ⟨hc2, hm⟩ := ite_or hx2
     ·refine wl_ev (wg F rfl rfl rfl rfl hc2) (ev_fieldAddr' tu80 tf80_0 (z := 0) ts9 rfl ⟨_, rfl⟩ rfl) F S rfl rfl ?_; clear F a; intro a F
      refine wl_ev (wg F rfl rfl rfl rfl hc2) (ev_load1 tu9 rfl rfl (box_ptr (cells := [.string y1.Path]) 0 rfl 0 rfl (lb rfl))) F S rfl rfl ?_; clear F a; intro a F
      refine wl_ev (wg F rfl rfl rfl rfl hc2) (ev_move rfl) F S rfl rfl ?_; clear F a; intro a F
      obtain ⟨y2, hy2, hm⟩ := bind_some hm
      refine wl_call0 (wg F rfl rfl rfl rfl hc2) rfl F rfl (treepatch_Related_ok (fr := (fl [[bx b1 #[.string y1.Path, v1] 80], cfiles1] fr)) y1.Path path S hy2) rfl tc92 rfl rfl ?_; clear F a S
      rintro _ a w ⟨g4, l4, S, rfl⟩ F; replace S : St g4 [[bx b1 #[.string y1.Path, v1] 80], cfiles1] fr w := S
      refine wE (ev_pickT rfl hc2 rfl) F S rfl fun a F=>?_
      obtain rfl := sinj hm
      refine wpList_nil (then_n ?_); exact ⟨g4, F.sub ⟨rfl, rfl, rfl, rfl, rfl, rfl, trivial⟩, l4, S⟩
     ·refine wl_skip rfl rfl rfl rfl (ne_tf hc2) F rfl rfl ?_; clear F a; intro a F
      refine wl_skip rfl rfl rfl rfl (ne_tf hc2) F rfl rfl ?_; clear F a; intro a F
      refine wl_skip rfl rfl rfl rfl (ne_tf hc2) F rfl rfl ?_; clear F a; intro a F
      refine wl_skip rfl rfl rfl rfl (ne_tf hc2) F rfl rfl ?_; clear F a; intro a F
      refine wE (ev_pickF rfl hc2 rfl) F S rfl fun a F=>?_
      obtain rfl := sinj hm
      refine wpList_nil (then_n ?_); exact ⟨g2, F.sub ⟨rfl, rfl, rfl, rfl, rfl, rfl, trivial⟩, (Le.refl _), S⟩
    clear F S; rintro a w ⟨g3, F, l3, S⟩
    refine wpList_nil ?_
    refine then_n ?_
    obtain ⟨hc3, hm⟩ | ⟨hc3, hm⟩ := ite_or hm
    ·refine wp_condT F rfl hc3 ?_
     refine wp_seq ?_
     refine wp_region_lit ?_
     refine wE (ev_assign rfl) F S rfl fun a F=>?_
     refine wpList_nil ?_
     refine then_n ?_
     refine wp_ret ?_
     refine inb_r ?_
     refine then_r ?_
     refine then_r ?_
     refine inb_r ?_
     refine then_r ?_
     obtain rfl := sinj hm
     obtain rfl := hfin1 _ rfl
     clear hm
     have hm : (some true : Option Bool) = some _ := hmo1
     obtain rfl := sinj hm
     refine post_r _ F rfl (ar_cons (resT rfl) ar_nil) ?_
     replace S : St g3 [cfiles1] fr w := St.tail [cfiles1] _ (S.frontC 1 rfl)
     exact ⟨_, rfl, g3, (l2.trans l3), S, rfl⟩
    ·refine wp_condF F rfl hc3 ?_
     refine wp_skip ?_
     refine inb_n ?_
     refine then_n ?_
     refine wp_region_lit ?_
     obtain ⟨z1, hz1, hm⟩ := bind_some hm
     refine wE (ev_int rfl rfl (bo_add hz1)) F S rfl fun a F=>?_
     refine wE (ev_move rfl) F S rfl fun a F=>?_
     refine wpList_nil ?_
     refine then_n ?_
     obtain rfl := sinj hm
     refine ⟨_, rfl, ?_⟩
     replace S : St g3 [cfiles1] fr w := St.tail [cfiles1] _ (S.frontC 1 rfl)
     exact ⟨g3, F.sub ⟨rfl, rfl, rfl, rfl, rfl, trivial⟩, (l2.trans l3), S⟩
   ·refine wp_condF F rfl hc1 ?_
    refine wp_exit ?_
    refine then_e ?_
    refine then_e ?_
    refine inb_x ?_
    refine then_n ?_
    obtain rfl := sinj hm
    obtain rfl := hfin1 _ rfl
    clear hm
    have hm : (treepatch_Clash.j1 : Option Bool) = some _ := hmo1
    exact ⟨g2, F.sub trivial, l2, S, hm⟩
 ·clear F S hm; rintro a w ⟨g1, F, l1, S, hm⟩
  refine wp_seq ?_
  refine wp_region_lit ?_
  refine wE (ev_assign rfl) F S rfl fun a F=>?_
  refine wpList_nil ?_
  refine then_n ?_
  refine wp_ret ?_
  obtain rfl := sinj hm
  refine post_r _ F rfl (ar_cons (resT rfl) ar_nil) ?_
  exact ⟨_, rfl, g1, l1, S, rfl⟩

theorem lines_Second_ok {g : Gh} {fr : Hl} {w : World} {r : Fault} (b_ : (List ByteArray)) (vb_1 : Value) (hb_1 : RepSl g b_ vb_1) (index : Int) (S : St g [] fr w) (hm : lines_Second b_ index = some r) :
  Calls Tryz.prog 54 [vb_1, .i6 index].toArray w (fun en w' => ∃ v, en = .returned v ∧ ∃ (g' : Gh), Le g g' ∧ St g' [] fr w' ∧ .agg #[.i6 r.Code, .i6 r.Index] = v) := by
 unfold lines_Second at hm
 refine calls_enter (fn := Tryz.f54) Tryz.func54 rfl Tryz.ntmps54 (lb rfl) ?_
 intro a F
 replace F : Fr 16 a [(0, vb_1), (1, .i6 index)] := F
 refine wp_seq ?_
 refine wp_region_lit ?_
 refine wl_alloc (wn rfl) rfl tz30 (cs := [.i6 0, .i6 0]) rfl F S rfl rfl ?_; clear F a S; rintro b1 a w F S
 refine wpList_nil ?_
 refine then_n ?_
 refine wp_seq ?_
 refine wp_seq ?_
 refine wp_region_lit ?_
 refine wE (ev_move rfl) F S rfl fun a F=>?_
 obtain ⟨y1, hy1, hm⟩ := bind_some hm
 refine wl_call0 (wn rfl) rfl F rfl (lines_Validate_ok (fr := (fl [[bx b1 #[.i6 0, .i6 0] 30]] fr)) b_ vb_1 hb_1 S hy1) rfl tc108 rfl rfl ?_; clear F a S
 rintro _ a w ⟨g1, l1, S, rfl⟩ F; replace S : St g1 [[bx b1 #[.i6 0, .i6 0] 30]] fr w := S
 refine wl_alloc (wn rfl) rfl tz30 (cs := [.i6 0, .i6 0]) rfl F S rfl rfl ?_; clear F a S; rintro b2 a w F S
 refine wl_storeC (wn rfl) rfl F S rfl rfl (vs := [.i6 y1.Code, .i6 y1.Index]) rfl ts30 (one_cons rfl (one_cons rfl one_nil)) (k := 0) rfl (lb rfl) (c' := #[.i6 y1.Code, .i6 y1.Index]) rfl rfl ?_; clear S; intro w S
 refine wpList_nil ?_
 refine then_n ?_
 refine wp_seq ?_
 refine wp_region_lit ?_
 refine wE (ev_loadA tu30 rfl (cs := [.i6 y1.Code, .i6 y1.Index]) ts30 rfl (box_ptr (cells := [.i6 y1.Code, .i6 y1.Index]) 0 rfl 0 rfl (lb rfl))) F S rfl fun a F=>?_
 refine wE (ev_build (parts := []) (vs := []) rfl (fun w => tb30_  w)) F S rfl fun a F=>?_
 refine wE (ev_neS tu30 tqa30 tqb30 tqc30 (xs := [.i6 y1.Code, .i6 y1.Index]) (ys := [.i6 0, .i6 0]) rfl rfl ⟨_, _, rfl, by decide, ⟨_, _, rfl, rfl, leaf_int tu3⟩, ⟨_, _, rfl, by decide, ⟨_, _, rfl, rfl, leaf_int tu3⟩, rfl⟩⟩) F S rfl fun a F=>?_
 refine wpList_nil ?_
 refine then_n ?_
 obtain ⟨hc1, hm⟩ | ⟨hc1, hm⟩ := ite_or hm
 ·refine wp_condT F rfl hc1 ?_
  refine wp_seq ?_
  refine wp_region_lit ?_
  refine wE (ev_fieldAddr' tu30 tf30_0 (z := 0) ts3 rfl ⟨_, rfl⟩ rfl) F S rfl fun a F=>?_
  refine wE (ev_load1 tu3 rfl rfl (box_ptr (cells := [.i6 y1.Code]) 0 rfl 0 rfl (lb rfl))) F S rfl fun a F=>?_
  refine wE (ev_move rfl) F S rfl fun a F=>?_
  refine wE (ev_build (parts := [(0, .tmp 12), (1, .tmp 13)]) (vs := [(0, .i6 y1.Code), (1, .i6 index)]) rfl (fun w => tb30_0_1 y1.Code index w)) F S rfl fun a F=>?_
  refine wl_storeC (wn rfl) rfl F S rfl rfl (vs := [.i6 y1.Code, .i6 index]) rfl ts30 (one_cons rfl (one_cons rfl one_nil)) (k := 1) rfl (lb rfl) (c' := #[.i6 y1.Code, .i6 index]) rfl rfl ?_; clear S; intro w S
  refine wpList_nil ?_
  refine then_n ?_
  refine wp_ret ?_
  refine then_r ?_
  obtain rfl := sinj hm
  refine post_r _ F rfl (ar_cons (resA rfl tu30 rfl (box_ptr (cells := [.i6 y1.Code, .i6 index]) 1 rfl 0 rfl (lb rfl) w S) ts30) ar_nil) ?_
  replace S : St g1 [] fr w := St.tail [] _ S
  exact ⟨_, rfl, g1, l1, S, rfl⟩
 ·refine wp_condF F rfl hc1 ?_
  refine wp_skip ?_
  refine then_n ?_
  refine wp_seq ?_
  refine wp_region_lit ?_
  refine wE (ev_build (parts := []) (vs := []) rfl (fun w => tb30_  w)) F S rfl fun a F=>?_
  refine wl_storeC (wn rfl) rfl F S rfl rfl (vs := [.i6 0, .i6 0]) rfl ts30 (one_cons rfl (one_cons rfl one_nil)) (k := 1) rfl (lb rfl) (c' := #[.i6 0, .i6 0]) rfl rfl ?_; clear S; intro w S
  refine wpList_nil ?_
  refine then_n ?_
  refine wp_ret ?_
  obtain rfl := sinj hm
  refine post_r _ F rfl (ar_cons (resA rfl tu30 rfl (box_ptr (cells := [.i6 0, .i6 0]) 1 rfl 0 rfl (lb rfl) w S) ts30) ar_nil) ?_
  replace S : St g1 [] fr w := St.tail [] _ S
  exact ⟨_, rfl, g1, l1, S, rfl⟩

theorem treepatch_Validate_ok {g : Gh} {fr : Hl} {w : World} {r : Fault} (t_ : FileTree) (vt_1 : Value) (ht_1 : RepSl g t_.Files vt_1) (S : St g [] fr w) (hm : treepatch_Validate t_ = some r) :
  Calls Tryz.prog 16 [.agg #[vt_1]].toArray w (fun en w' => ∃ v, en = .returned v ∧ ∃ (g' : Gh), Le g g' ∧ St g' [] fr w' ∧ .agg #[.i6 r.Code, .i6 r.Index] = v) := by
 unfold treepatch_Validate at hm
 refine calls_enter (fn := Tryz.f16) Tryz.func16 rfl Tryz.ntmps16 (lb rfl) ?_
 intro a F
 replace F : Fr 63 a [(0, .agg #[vt_1])] := F
 refine wp_seq ?_
 refine wp_region_lit ?_
 refine wl_boxC (wn rfl) rfl rfl rfl F S rfl rfl ?_; clear F a S; rintro b1 a w F S
 refine wl_alloc (wn rfl) rfl tz30 (cs := [.i6 0, .i6 0]) rfl F S rfl rfl ?_; clear F a S; rintro b2 a w F S
 refine wpList_nil ?_
 refine then_n ?_
 refine wp_seq ?_
 refine wp_seq ?_
 refine wp_region_lit ?_
 refine wE (ev_fieldAddr' tu24 tf24_0 (z := 0) ts22 rfl ⟨_, rfl⟩ rfl) F S rfl fun a F=>?_
 refine wE (ev_load1 tu22 rfl rfl (box_ptr (cells := [vt_1]) 1 rfl 0 rfl (lb rfl))) F S rfl fun a F=>?_
 refine wE (ev_lenSh ht_1 rfl tu22) F S rfl fun a F=>?_
 refine wE (ev_int rfl rfl (bo_gtr _ _ _ _)) F S rfl fun a F=>?_
 refine wpList_nil ?_
 refine then_n ?_
 obtain ⟨hc1, hm⟩ | ⟨hc1, hm⟩ := ite_or hm
 ·refine wp_condT F rfl hc1 ?_
  refine wp_seq ?_
  refine wp_region_lit ?_
  refine wE (ev_build (parts := [(0, .const (.i6 2)), (1, .const (.i6 (-1)))]) (vs := [(0, .i6 2), (1, .i6 (-1))]) rfl (fun w => tb30_0_1 2 (-1) w)) F S rfl fun a F=>?_
  refine wl_storeC (wn rfl) rfl F S rfl rfl (vs := [.i6 2, .i6 (-1)]) rfl ts30 (one_cons rfl (one_cons rfl one_nil)) (k := 0) rfl (lb rfl) (c' := #[.i6 2, .i6 (-1)]) rfl rfl ?_; clear S; intro w S
  refine wpList_nil ?_
  refine then_n ?_
  refine wp_ret ?_
  refine then_r ?_
  obtain rfl := sinj hm
  refine post_r _ F rfl (ar_cons (resA rfl tu30 rfl (box_ptr (cells := [.i6 2, .i6 (-1)]) 0 rfl 0 rfl (lb rfl) w S) ts30) ar_nil) ?_
  replace S : St g [] fr w := St.tail [] _ S
  exact ⟨_, rfl, g, (Le.refl _), S, rfl⟩
 ·refine wp_condF F rfl hc1 ?_
  refine wp_skip ?_
  refine then_n ?_
  refine wp_cut (fun a w => ∃ (g1 : Gh), Fr 63 a [(2, bp b2 0)] ∧ Le g g1 ∧ St g1 [[bx b2 #[.i6 0, .i6 0] 30]] fr w ∧ treepatch_Validate.j1 = some r) ?_ ?_
  ·refine wp_seq ?_
   refine wp_region_lit ?_
   refine wE (ev_fieldAddr' tu24 tf24_0 (z := 0) ts22 rfl ⟨_, rfl⟩ rfl) F S rfl fun a F=>?_
   refine wE (ev_load1 tu22 rfl rfl (box_ptr (cells := [vt_1]) 1 rfl 0 rfl (lb rfl))) F S rfl fun a F=>?_
   refine wE (ev_lenSh ht_1 rfl tu22) F S rfl fun a F=>?_
   refine wE (ev_move rfl) F S rfl fun a F=>?_
   refine wpList_nil ?_
   refine then_n ?_
   refine wp_block ?_
   obtain ⟨r1, hr1, hm⟩ := bind_some hm
   have hmo1 := hm; clear hm
   refine wp_iter (σ := Int) (ρ := Fault ⊕ Unit) (m := fun s => treepatch_Validate.l1 t_ s) (I := fun x1 a w => ∃ (g2 : Gh), Fr 63 a [(14, .i6 x1), (13, .i6 (t_.Files.length : Int)), (12, vt_1), (2, bp b2 0), (1, bp b1 0)] ∧ Le g g2 ∧ St g2 [[bx b2 #[.i6 0, .i6 0] 30], [bx b1 #[vt_1] 24]] fr w) hr1 ?_ ?_
   ·exact ⟨g, F.sub ⟨rfl, rfl, rfl, rfl, rfl, trivial⟩, (Le.refl _), S⟩
   ·clear F S; rintro x1 a w x2 ⟨g2, F, l2, S⟩ hx1 hfin1
    have hm : treepatch_Validate.l1 t_ x1 = some x2 := hx1; clear hx1
    unfold treepatch_Validate.l1 at hm
    refine wp_seq ?_
    refine wp_region_lit ?_
    refine wE (ev_int rfl rfl (bo_lss _ _ _ _)) F S rfl fun a F=>?_
    refine wpList_nil ?_
    refine then_n ?_
    refine wp_seq ?_
    obtain ⟨hc2, hm⟩ | ⟨hc2, hm⟩ := ite_or hm
    ·refine wp_condT F rfl hc2 ?_
     refine wp_skip ?_
     refine then_n ?_
     refine wp_seq ?_
     refine wp_block ?_
     refine wp_seq ?_
     refine wp_region_lit ?_
     refine wE (ev_move rfl) F S rfl fun a F=>?_
     obtain ⟨y1, hy1, hm⟩ := bind_some hm
     obtain ⟨cs1, hr2, hp1⟩ := elemS (ht_1.mono l2) hy1
     obtain ⟨v1, rfl, h1⟩ := rep_File hr2
     refine wE (ev_idxS (ht_1.mono l2) hy1 tu22 ts80 rfl rfl) F S rfl fun a F=>?_
     refine wE (ev_loadA tu80 rfl (cs := [.string y1.Path, v1]) ts80 rfl (ptr_mono (cks := [[bx b2 #[.i6 0, .i6 0] 30], [bx b1 #[vt_1] 24]]) (fr := fr) hp1 (Le.refl _))) F S rfl fun a F=>?_
     refine wl_alloc (wn rfl) rfl tz80 (cs := [.string ByteArray.empty, nilS]) rfl F S rfl rfl ?_; clear F a S; rintro b3 a w F S
     refine wE (ev_assign rfl) F S rfl fun a F=>?_
     refine wl_storeC (wn rfl) rfl F S rfl rfl (vs := [.string y1.Path, v1]) rfl ts80 (one_cons rfl (one_cons h1.one one_nil)) (k := 0) rfl (lb rfl) (c' := #[.string y1.Path, v1]) rfl rfl ?_; clear S; intro w S
     refine wpList_nil ?_
     refine then_n ?_
     refine wp_seq ?_
     refine wp_block ?_
     refine wp_seq ?_
     refine wp_region_lit ?_
     refine wE (ev_fieldAddr' tu80 tf80_0 (z := 0) ts9 rfl ⟨_, rfl⟩ rfl) F S rfl fun a F=>?_
     refine wE (ev_load1 tu9 rfl rfl (box_ptr (cells := [.string y1.Path]) 0 rfl 0 rfl (lb rfl))) F S rfl fun a F=>?_
     obtain ⟨y2, hy2, hm⟩ := bind_some hm
     refine wl_call0 (wn rfl) rfl F rfl (treepatch_ValidPath_ok (fr := (fl [[bx b3 #[.string y1.Path, v1] 80], [bx b2 #[.i6 0, .i6 0] 30], [bx b1 #[vt_1] 24]] fr)) y1.Path S hy2) rfl tc53 rfl rfl ?_; clear F a S
     rintro _ a w ⟨g3, l3, S, rfl⟩ F; replace S : St g3 [[bx b3 #[.string y1.Path, v1] 80], [bx b2 #[.i6 0, .i6 0] 30], [bx b1 #[vt_1] 24]] fr w := S
     refine wE (ev_not rfl) F S rfl fun a F=>?_
     refine wE (ev_assign rfl) F S rfl fun a F=>?_
     refine wpList_nil ?_
     refine then_n ?_
     obtain ⟨hc3, hm⟩ | ⟨hc3, hm⟩ := ite_or hm
     ·refine wp_condT F rfl hc3 ?_
      refine wp_seq ?_
      refine wp_region_lit ?_
      refine wE (ev_move rfl) F S rfl fun a F=>?_
      refine wE (ev_build (parts := [(0, .const (.i6 12)), (1, .tmp 24)]) (vs := [(0, .i6 12), (1, .i6 x1)]) rfl (fun w => tb30_0_1 12 x1 w)) F S rfl fun a F=>?_
      refine wl_storeC (wn rfl) rfl F S rfl rfl (vs := [.i6 12, .i6 x1]) rfl ts30 (one_cons rfl (one_cons rfl one_nil)) (k := 1) rfl (lb rfl) (c' := #[.i6 12, .i6 x1]) rfl rfl ?_; clear S; intro w S
      refine wpList_nil ?_
      refine then_n ?_
      refine wp_ret ?_
      refine inb_r ?_
      refine then_r ?_
      refine inb_r ?_
      refine then_r ?_
      refine then_r ?_
      refine inb_r ?_
      refine then_r ?_
      obtain rfl := sinj hm
      obtain rfl := hfin1 _ rfl
      clear hm
      have hm : (some ({ Code := 12, Index := x1 } : Fault) : Option Fault) = some _ := hmo1
      obtain rfl := sinj hm
      refine post_r _ F rfl (ar_cons (resA rfl tu30 rfl (box_ptr (cells := [.i6 12, .i6 x1]) 1 rfl 0 rfl (lb rfl) w S) ts30) ar_nil) ?_
      replace S : St g3 [] fr w := St.tail [] _ S
      exact ⟨_, rfl, g3, (l2.trans l3), S, rfl⟩
     ·refine wp_condF F rfl hc3 ?_
      refine wp_seq ?_
      refine wp_quiet mo (by kernel_rfl) S ?_
      refine wq_ev (wn rfl) (ev_move rfl) F rfl rfl ?_; clear F a; intro a F
      refine wq_ev (wn rfl) (ev_int rfl rfl (bo_gtr _ _ _ _)) F rfl rfl ?_; clear F a; intro a F
      refine wq_ev (wn rfl) (ev_move rfl) F rfl rfl ?_; clear F a; intro a F
      obtain ⟨x3, hx2, hm⟩ := bind_some hm
      refine wq_cut 11 (fun a => Fr 63 a [(40, .bool x3), (3, .i6 x1), (4, bp b3 0), (14, .i6 x1), (13, .i6 (t_.Files.length : Int)), (12, vt_1), (2, bp b2 0), (1, bp b1 0)]) ?_ ?_
      ·clear hm; obtain ⟨hc4, hm⟩ | ⟨hc4, hm⟩ := ite_or hx2
       ·refine wq_ev (wg F rfl rfl rfl rfl hc4) (ev_fieldAddr' tu80 tf80_0 (z := 0) ts9 rfl ⟨_, rfl⟩ rfl) F rfl rfl ?_; clear F a; intro a F
        refine wq_ev (wg F rfl rfl rfl rfl hc4) (ev_load1 tu9 rfl rfl (box_ptr (cells := [.string y1.Path]) 0 rfl 0 rfl (lb rfl))) F rfl rfl ?_; clear F a; intro a F
        refine wq_ev (wg F rfl rfl rfl rfl hc4) (ev_fieldAddr' tu24 tf24_0 (z := 0) ts22 rfl ⟨_, rfl⟩ rfl) F rfl rfl ?_; clear F a; intro a F
        refine wq_ev (wg F rfl rfl rfl rfl hc4) (ev_load1 tu22 rfl rfl (box_ptr (cells := [vt_1]) 2 rfl 0 rfl (lb rfl))) F rfl rfl ?_; clear F a; intro a F
        refine wq_ev (wg F rfl rfl rfl rfl hc4) (ev_move rfl) F rfl rfl ?_; clear F a; intro a F
        obtain ⟨z1, hz1, hm⟩ := bind_some hm
        refine wq_ev (wg F rfl rfl rfl rfl hc4) (ev_int rfl rfl (bo_sub hz1)) F rfl rfl ?_; clear F a; intro a F
        obtain ⟨y3, hy3, hm⟩ := bind_some hm
        obtain ⟨cs2, hr3, hp2⟩ := elemS (ht_1.mono (l2.trans l3)) hy3
        obtain ⟨v2, rfl, h2⟩ := rep_File hr3
        refine wq_ev (wg F rfl rfl rfl rfl hc4) (ev_idxS (ht_1.mono (l2.trans l3)) hy3 tu22 ts80 rfl rfl) F rfl rfl ?_; clear F a; intro a F
        have hp3 := PtrC.field hp2 0 1 (lb rfl)
        have hp3 : PtrC g3 (addP (elemP vt_1 z1 2) 0) [.string y3.Path] := hp3
        refine wq_ev (wg F rfl rfl rfl rfl hc4) (ev_fieldAddr' tu80 tf80_0 (z := 0) ts9 rfl hp2.ptr rfl) F rfl rfl ?_; clear F a; intro a F
        refine wq_ev (wg F rfl rfl rfl rfl hc4) (ev_load1 tu9 rfl rfl (ptr_mono (cks := [[bx b3 #[.string y1.Path, v1] 80], [bx b2 #[.i6 0, .i6 0] 30], [bx b1 #[vt_1] 24]]) (fr := fr) hp3 (Le.refl _))) F rfl rfl ?_; clear F a; intro a F
        refine wq_ev (wg F rfl rfl rfl rfl hc4) (ev_str rfl rfl (bs_leq _ _ _)) F rfl rfl ?_; clear F a; intro a F
        refine wq_ev (wn rfl) (ev_pickT rfl hc4 rfl) F rfl rfl ?_; clear F a; intro a F
        obtain rfl := sinj hm
        refine wq_nil ?_; exact F.sub ⟨rfl, rfl, rfl, rfl, rfl, rfl, rfl, rfl, trivial⟩
       ·refine wq_skip rfl rfl rfl rfl (ne_tf hc4) F rfl rfl ?_; clear F a; intro a F
        refine wq_skip rfl rfl rfl rfl (ne_tf hc4) F rfl rfl ?_; clear F a; intro a F
        refine wq_skip rfl rfl rfl rfl (ne_tf hc4) F rfl rfl ?_; clear F a; intro a F
        refine wq_skip rfl rfl rfl rfl (ne_tf hc4) F rfl rfl ?_; clear F a; intro a F
        refine wq_skip rfl rfl rfl rfl (ne_tf hc4) F rfl rfl ?_; clear F a; intro a F
        refine wq_skip rfl rfl rfl rfl (ne_tf hc4) F rfl rfl ?_; clear F a; intro a F
        refine wq_skip rfl rfl rfl rfl (ne_tf hc4) F rfl rfl ?_; clear F a; intro a F
        refine wq_skip rfl rfl rfl rfl (ne_tf hc4) F rfl rfl ?_; clear F a; intro a F
        refine wq_skip rfl rfl rfl rfl (ne_tf hc4) F rfl rfl ?_; clear F a; intro a F
        refine wq_skip rfl rfl rfl rfl (ne_tf hc4) F rfl rfl ?_; clear F a; intro a F
        refine wq_ev (wn rfl) (ev_pickF rfl hc4 rfl) F rfl rfl ?_; clear F a; intro a F
        obtain rfl := sinj hm
        refine wq_nil ?_; exact F.sub ⟨rfl, rfl, rfl, rfl, rfl, rfl, rfl, rfl, trivial⟩
      clear F; intro a F
      refine wq_ev (wn rfl) (ev_assign rfl) F rfl rfl ?_; clear F a; intro a F
      refine wq_nil ?_; clear S; intro w S
      refine then_n ?_
      obtain ⟨hc5, hm⟩ | ⟨hc5, hm⟩ := ite_or hm
      ·refine wp_condT F rfl hc5 ?_
       refine wp_seq ?_
       refine wp_region_lit ?_
       refine wE (ev_move rfl) F S rfl fun a F=>?_
       refine wE (ev_build (parts := [(0, .const (.i6 5)), (1, .tmp 41)]) (vs := [(0, .i6 5), (1, .i6 x1)]) rfl (fun w => tb30_0_1 5 x1 w)) F S rfl fun a F=>?_
       refine wl_storeC (wn rfl) rfl F S rfl rfl (vs := [.i6 5, .i6 x1]) rfl ts30 (one_cons rfl (one_cons rfl one_nil)) (k := 1) rfl (lb rfl) (c' := #[.i6 5, .i6 x1]) rfl rfl ?_; clear S; intro w S
       refine wpList_nil ?_
       refine then_n ?_
       refine wp_ret ?_
       refine inb_r ?_
       refine then_r ?_
       refine inb_r ?_
       refine then_r ?_
       refine then_r ?_
       refine inb_r ?_
       refine then_r ?_
       obtain rfl := sinj hm
       obtain rfl := hfin1 _ rfl
       clear hm
       have hm : (some ({ Code := 5, Index := x1 } : Fault) : Option Fault) = some _ := hmo1
       obtain rfl := sinj hm
       refine post_r _ F rfl (ar_cons (resA rfl tu30 rfl (box_ptr (cells := [.i6 5, .i6 x1]) 1 rfl 0 rfl (lb rfl) w S) ts30) ar_nil) ?_
       replace S : St g3 [] fr w := St.tail [] _ S
       exact ⟨_, rfl, g3, (l2.trans l3), S, rfl⟩
      ·refine wp_condF F rfl hc5 ?_
       refine wp_seq ?_
       refine wp_quiet mo (by kernel_rfl) S ?_
       refine wq_ev (wn rfl) (ev_fieldAddr' tu24 tf24_0 (z := 0) ts22 rfl ⟨_, rfl⟩ rfl) F rfl rfl ?_; clear F a; intro a F
       refine wq_ev (wn rfl) (ev_load1 tu22 rfl rfl (box_ptr (cells := [vt_1]) 2 rfl 0 rfl (lb rfl))) F rfl rfl ?_; clear F a; intro a F
       refine wq_ev (wn rfl) (ev_move rfl) F rfl rfl ?_; clear F a; intro a F
       obtain ⟨y4, hy4, hm⟩ := bind_some hm
       refine wq_cutS (wn rfl) rfl (ht_1.mono (l2.trans l3)) hy4 tu22 ts80 rfl (bnd0 _) (bndV rfl) F rfl rfl ?_; clear F a; rintro v3 h3 a F
       refine wq_ev (wn rfl) (ev_fieldAddr' tu80 tf80_0 (z := 0) ts9 rfl ⟨_, rfl⟩ rfl) F rfl rfl ?_; clear F a; intro a F
       refine wq_ev (wn rfl) (ev_load1 tu9 rfl rfl (box_ptr (cells := [.string y1.Path]) 0 rfl 0 rfl (lb rfl))) F rfl rfl ?_; clear F a; intro a F
       obtain ⟨y5, hy5, hm⟩ := bind_some hm
       refine wq_call (wn rfl) rfl (xs := [.tmp 47, .tmp 49, .const (.i6 (-1))]) (vs := [v3, .string y1.Path, .i6 (-1)]) (cap := []) F rfl rfl tc36 (v := .bool y5) (fun w S => (treepatch_Clash_ok (g := g3) (fr := (fl [[bx b3 #[.string y1.Path, v1] 80], [bx b2 #[.i6 0, .i6 0] 30], [bx b1 #[vt_1] 24]] fr)) (w := w) y4 v3 h3 y1.Path (-1) S hy5).mono (by rintro en w' ⟨_, rfl, g2, l2, S2, rfl⟩; exact ⟨rfl, S2.weak l2⟩)) rfl rfl ?_; clear F a; intro a F
       refine wq_ev (wn rfl) (ev_assign rfl) F rfl rfl ?_; clear F a; intro a F
       refine wq_nil ?_; clear S; intro w S
       refine then_n ?_
       obtain ⟨hc6, hm⟩ | ⟨hc6, hm⟩ := ite_or hm
       ·refine wp_condT F rfl hc6 ?_
        refine wp_seq ?_
        refine wp_region_lit ?_
        refine wE (ev_move rfl) F S rfl fun a F=>?_
        refine wE (ev_build (parts := [(0, .const (.i6 7)), (1, .tmp 51)]) (vs := [(0, .i6 7), (1, .i6 x1)]) rfl (fun w => tb30_0_1 7 x1 w)) F S rfl fun a F=>?_
        refine wl_storeC (wn rfl) rfl F S rfl rfl (vs := [.i6 7, .i6 x1]) rfl ts30 (one_cons rfl (one_cons rfl one_nil)) (k := 1) rfl (lb rfl) (c' := #[.i6 7, .i6 x1]) rfl rfl ?_; clear S; intro w S
        refine wpList_nil ?_
        refine then_n ?_
        refine wp_ret ?_
        refine inb_r ?_
        refine then_r ?_
        refine inb_r ?_
        refine then_r ?_
        refine then_r ?_
        refine inb_r ?_
        refine then_r ?_
        obtain rfl := sinj hm
        obtain rfl := hfin1 _ rfl
        clear hm
        have hm : (some ({ Code := 7, Index := x1 } : Fault) : Option Fault) = some _ := hmo1
        obtain rfl := sinj hm
        refine post_r _ F rfl (ar_cons (resA rfl tu30 rfl (box_ptr (cells := [.i6 7, .i6 x1]) 1 rfl 0 rfl (lb rfl) w S) ts30) ar_nil) ?_
        replace S : St g3 [] fr w := St.tail [] _ S
        exact ⟨_, rfl, g3, (l2.trans l3), S, rfl⟩
       ·refine wp_condF F rfl hc6 ?_
        refine wp_skip ?_
        refine inb_n ?_
        refine then_n ?_
        refine wp_seq ?_
        refine wp_region_lit ?_
        refine wE (ev_fieldAddr' tu80 tf80_1 (z := 0) ts42 rfl ⟨_, rfl⟩ rfl) F S rfl fun a F=>?_
        refine wE (ev_load1 tu42 rfl rfl (box_ptr (cells := [v1]) 0 rfl 1 rfl (lb rfl))) F S rfl fun a F=>?_
        refine wE (ev_move rfl) F S rfl fun a F=>?_
        obtain ⟨y6, hy6, hm⟩ := bind_some hm
        refine wl_call0 (wn rfl) rfl F rfl (lines_Second_ok (fr := (fl [[bx b3 #[.string y1.Path, v1] 80], [bx b2 #[.i6 0, .i6 0] 30], [bx b1 #[vt_1] 24]] fr)) y1.Lines v1 (h1.mono l3) x1 S hy6) rfl tc54 rfl rfl ?_; clear F a S
        rintro _ a w ⟨g5, l5, S, rfl⟩ F; replace S : St g5 [[bx b3 #[.string y1.Path, v1] 80], [bx b2 #[.i6 0, .i6 0] 30], [bx b1 #[vt_1] 24]] fr w := S
        refine wl_alloc (wn rfl) rfl tz30 (cs := [.i6 0, .i6 0]) rfl F S rfl rfl ?_; clear F a S; rintro b4 a w F S
        refine wl_storeC (wn rfl) rfl F S rfl rfl (vs := [.i6 y6.Code, .i6 y6.Index]) rfl ts30 (one_cons rfl (one_cons rfl one_nil)) (k := 0) rfl (lb rfl) (c' := #[.i6 y6.Code, .i6 y6.Index]) rfl rfl ?_; clear S; intro w S
        refine wpList_nil ?_
        refine then_n ?_
        refine wp_seq ?_
        refine wp_region_lit ?_
        refine wE (ev_loadA tu30 rfl (cs := [.i6 y6.Code, .i6 y6.Index]) ts30 rfl (box_ptr (cells := [.i6 y6.Code, .i6 y6.Index]) 0 rfl 0 rfl (lb rfl))) F S rfl fun a F=>?_
        refine wE (ev_build (parts := []) (vs := []) rfl (fun w => tb30_  w)) F S rfl fun a F=>?_
        refine wE (ev_neS tu30 tqa30 tqb30 tqc30 (xs := [.i6 y6.Code, .i6 y6.Index]) (ys := [.i6 0, .i6 0]) rfl rfl ⟨_, _, rfl, by decide, ⟨_, _, rfl, rfl, leaf_int tu3⟩, ⟨_, _, rfl, by decide, ⟨_, _, rfl, rfl, leaf_int tu3⟩, rfl⟩⟩) F S rfl fun a F=>?_
        refine wpList_nil ?_
        refine then_n ?_
        obtain ⟨hc7, hm⟩ | ⟨hc7, hm⟩ := ite_or hm
        ·refine wp_condT F rfl hc7 ?_
         refine wp_seq ?_
         refine wp_region_lit ?_
         refine wE (ev_loadA tu30 rfl (cs := [.i6 y6.Code, .i6 y6.Index]) ts30 rfl (box_ptr (cells := [.i6 y6.Code, .i6 y6.Index]) 0 rfl 0 rfl (lb rfl))) F S rfl fun a F=>?_
         refine wl_storeC (wn rfl) rfl F S rfl rfl (vs := [.i6 y6.Code, .i6 y6.Index]) rfl ts30 (one_cons rfl (one_cons rfl one_nil)) (k := 2) rfl (lb rfl) (c' := #[.i6 y6.Code, .i6 y6.Index]) rfl rfl ?_; clear S; intro w S
         refine wpList_nil ?_
         refine then_n ?_
         refine wp_ret ?_
         refine inb_r ?_
         refine then_r ?_
         refine then_r ?_
         refine inb_r ?_
         refine then_r ?_
         obtain rfl := sinj hm
         obtain rfl := hfin1 _ rfl
         clear hm
         have hm : (some y6 : Option Fault) = some _ := hmo1
         obtain rfl := sinj hm
         refine post_r _ F rfl (ar_cons (resA rfl tu30 rfl (box_ptr (cells := [.i6 y6.Code, .i6 y6.Index]) 2 rfl 0 rfl (lb rfl) w S) ts30) ar_nil) ?_
         replace S : St g5 [] fr w := St.tail [] _ S
         exact ⟨_, rfl, g5, ((l2.trans l3).trans l5), S, rfl⟩
        ·refine wp_condF F rfl hc7 ?_
         refine wp_skip ?_
         refine inb_n ?_
         refine then_n ?_
         refine wp_region_lit ?_
         obtain ⟨z2, hz2, hm⟩ := bind_some hm
         refine wE (ev_int rfl rfl (bo_add hz2)) F S rfl fun a F=>?_
         refine wE (ev_move rfl) F S rfl fun a F=>?_
         refine wpList_nil ?_
         refine then_n ?_
         obtain rfl := sinj hm
         refine ⟨_, rfl, ?_⟩
         replace S : St g5 [[bx b2 #[.i6 0, .i6 0] 30], [bx b1 #[vt_1] 24]] fr w := St.tail [[bx b2 #[.i6 0, .i6 0] 30], [bx b1 #[vt_1] 24]] _ ((S.frontC 3 rfl).frontC 3 rfl)
         exact ⟨g5, F.sub ⟨rfl, rfl, rfl, rfl, rfl, trivial⟩, ((l2.trans l3).trans l5), S⟩
    ·refine wp_condF F rfl hc2 ?_
     refine wp_exit ?_
     refine then_e ?_
     refine then_e ?_
     refine inb_x ?_
     refine then_n ?_
     obtain rfl := sinj hm
     obtain rfl := hfin1 _ rfl
     clear hm
     have hm : (treepatch_Validate.j1 : Option Fault) = some _ := hmo1
     replace S : St g2 [[bx b2 #[.i6 0, .i6 0] 30]] fr w := St.tail [[bx b2 #[.i6 0, .i6 0] 30]] _ (S.frontC 0 rfl)
     exact ⟨g2, F.sub ⟨rfl, trivial⟩, l2, S, hm⟩
  ·clear F S hm; rintro a w ⟨g1, F, l1, S, hm⟩
   refine wp_seq ?_
   refine wp_region_lit ?_
   refine wE (ev_build (parts := []) (vs := []) rfl (fun w => tb30_  w)) F S rfl fun a F=>?_
   refine wl_storeC (wn rfl) rfl F S rfl rfl (vs := [.i6 0, .i6 0]) rfl ts30 (one_cons rfl (one_cons rfl one_nil)) (k := 0) rfl (lb rfl) (c' := #[.i6 0, .i6 0]) rfl rfl ?_; clear S; intro w S
   refine wpList_nil ?_
   refine then_n ?_
   refine wp_ret ?_
   obtain rfl := sinj hm
   refine post_r _ F rfl (ar_cons (resA rfl tu30 rfl (box_ptr (cells := [.i6 0, .i6 0]) 0 rfl 0 rfl (lb rfl) w S) ts30) ar_nil) ?_
   replace S : St g1 [] fr w := St.tail [] _ S
   exact ⟨_, rfl, g1, l1, S, rfl⟩

theorem treepatch_Second_ok {g : Gh} {fr : Hl} {w : World} {r : Fault} (t_ : FileTree) (vt_1 : Value) (ht_1 : RepSl g t_.Files vt_1) (index : Int) (S : St g [] fr w) (hm : treepatch_Second t_ index = some r) :
  Calls Tryz.prog 50 [.agg #[vt_1], .i6 index].toArray w (fun en w' => ∃ v, en = .returned v ∧ ∃ (g' : Gh), Le g g' ∧ St g' [] fr w' ∧ .agg #[.i6 r.Code, .i6 r.Index] = v) := by
 unfold treepatch_Second at hm
 refine calls_enter (fn := Tryz.f50) Tryz.func50 rfl Tryz.ntmps50 (lb rfl) ?_
 intro a F
 replace F : Fr 16 a [(0, .agg #[vt_1]), (1, .i6 index)] := F
 refine wp_seq ?_
 refine wp_region_lit ?_
 refine wl_boxC (wn rfl) rfl rfl rfl F S rfl rfl ?_; clear F a S; rintro b1 a w F S
 refine wl_alloc (wn rfl) rfl tz30 (cs := [.i6 0, .i6 0]) rfl F S rfl rfl ?_; clear F a S; rintro b2 a w F S
 refine wpList_nil ?_
 refine then_n ?_
 refine wp_seq ?_
 refine wp_seq ?_
 refine wp_region_lit ?_
 refine wE (ev_loadA tu24 rfl (cs := [vt_1]) ts24 rfl (box_ptr (cells := [vt_1]) 1 rfl 0 rfl (lb rfl))) F S rfl fun a F=>?_
 obtain ⟨y1, hy1, hm⟩ := bind_some hm
 refine wl_call0 (wn rfl) rfl F rfl (treepatch_Validate_ok (fr := (fl [[bx b2 #[.i6 0, .i6 0] 30], [bx b1 #[vt_1] 24]] fr)) t_ vt_1 ht_1 S hy1) rfl tc16 rfl rfl ?_; clear F a S
 rintro _ a w ⟨g1, l1, S, rfl⟩ F; replace S : St g1 [[bx b2 #[.i6 0, .i6 0] 30], [bx b1 #[vt_1] 24]] fr w := S
 refine wl_alloc (wn rfl) rfl tz30 (cs := [.i6 0, .i6 0]) rfl F S rfl rfl ?_; clear F a S; rintro b3 a w F S
 refine wl_storeC (wn rfl) rfl F S rfl rfl (vs := [.i6 y1.Code, .i6 y1.Index]) rfl ts30 (one_cons rfl (one_cons rfl one_nil)) (k := 0) rfl (lb rfl) (c' := #[.i6 y1.Code, .i6 y1.Index]) rfl rfl ?_; clear S; intro w S
 refine wpList_nil ?_
 refine then_n ?_
 refine wp_seq ?_
 refine wp_region_lit ?_
 refine wE (ev_loadA tu30 rfl (cs := [.i6 y1.Code, .i6 y1.Index]) ts30 rfl (box_ptr (cells := [.i6 y1.Code, .i6 y1.Index]) 0 rfl 0 rfl (lb rfl))) F S rfl fun a F=>?_
 refine wE (ev_build (parts := []) (vs := []) rfl (fun w => tb30_  w)) F S rfl fun a F=>?_
 refine wE (ev_neS tu30 tqa30 tqb30 tqc30 (xs := [.i6 y1.Code, .i6 y1.Index]) (ys := [.i6 0, .i6 0]) rfl rfl ⟨_, _, rfl, by decide, ⟨_, _, rfl, rfl, leaf_int tu3⟩, ⟨_, _, rfl, by decide, ⟨_, _, rfl, rfl, leaf_int tu3⟩, rfl⟩⟩) F S rfl fun a F=>?_
 refine wpList_nil ?_
 refine then_n ?_
 obtain ⟨hc1, hm⟩ | ⟨hc1, hm⟩ := ite_or hm
 ·refine wp_condT F rfl hc1 ?_
  refine wp_seq ?_
  refine wp_region_lit ?_
  refine wE (ev_fieldAddr' tu30 tf30_0 (z := 0) ts3 rfl ⟨_, rfl⟩ rfl) F S rfl fun a F=>?_
  refine wE (ev_load1 tu3 rfl rfl (box_ptr (cells := [.i6 y1.Code]) 0 rfl 0 rfl (lb rfl))) F S rfl fun a F=>?_
  refine wE (ev_move rfl) F S rfl fun a F=>?_
  refine wE (ev_build (parts := [(0, .tmp 12), (1, .tmp 13)]) (vs := [(0, .i6 y1.Code), (1, .i6 index)]) rfl (fun w => tb30_0_1 y1.Code index w)) F S rfl fun a F=>?_
  refine wl_storeC (wn rfl) rfl F S rfl rfl (vs := [.i6 y1.Code, .i6 index]) rfl ts30 (one_cons rfl (one_cons rfl one_nil)) (k := 1) rfl (lb rfl) (c' := #[.i6 y1.Code, .i6 index]) rfl rfl ?_; clear S; intro w S
  refine wpList_nil ?_
  refine then_n ?_
  refine wp_ret ?_
  refine then_r ?_
  obtain rfl := sinj hm
  refine post_r _ F rfl (ar_cons (resA rfl tu30 rfl (box_ptr (cells := [.i6 y1.Code, .i6 index]) 1 rfl 0 rfl (lb rfl) w S) ts30) ar_nil) ?_
  replace S : St g1 [] fr w := St.tail [] _ S
  exact ⟨_, rfl, g1, l1, S, rfl⟩
 ·refine wp_condF F rfl hc1 ?_
  refine wp_skip ?_
  refine then_n ?_
  refine wp_seq ?_
  refine wp_region_lit ?_
  refine wE (ev_build (parts := []) (vs := []) rfl (fun w => tb30_  w)) F S rfl fun a F=>?_
  refine wl_storeC (wn rfl) rfl F S rfl rfl (vs := [.i6 0, .i6 0]) rfl ts30 (one_cons rfl (one_cons rfl one_nil)) (k := 1) rfl (lb rfl) (c' := #[.i6 0, .i6 0]) rfl rfl ?_; clear S; intro w S
  refine wpList_nil ?_
  refine then_n ?_
  refine wp_ret ?_
  obtain rfl := sinj hm
  refine post_r _ F rfl (ar_cons (resA rfl tu30 rfl (box_ptr (cells := [.i6 0, .i6 0]) 1 rfl 0 rfl (lb rfl) w S) ts30) ar_nil) ?_
  replace S : St g1 [] fr w := St.tail [] _ S
  exact ⟨_, rfl, g1, l1, S, rfl⟩

theorem slices_Clone_ok {g : Gh} {fr : Hl} {w : World} {r : (List ByteArray)} (s_ : (List ByteArray)) (vs_1 : Value) (hs_1 : RepSl g s_ vs_1) (S : St g [] fr w) (hm : slices_Clone s_ = some r) :
  Calls Tryz.prog 64 [vs_1].toArray w (fun en w' => ∃ v, en = .returned v ∧ ∃ (g' : Gh) (v1 : Value) (c1 : Hl), Le g g' ∧ St g' [c1] fr w' ∧ OwnS g' r v1 c1 ∧ v1 = v) := by
 unfold slices_Clone at hm
 refine calls_enter (fn := Tryz.f64) Tryz.func64 rfl Tryz.ntmps64 (lb rfl) ?_
 intro a F
 replace F : Fr 8 a [(0, vs_1)] := F
 refine wp_seq ?_
 refine wp_region_lit ?_
 refine wE (ev_assign rfl) F S rfl fun a F=>?_
 refine wpList_nil ?_
 refine then_n ?_
 refine wp_seq ?_
 refine wp_seq ?_
 refine wp_region_lit ?_
 refine wE (ev_move rfl) F S rfl fun a F=>?_
 obtain ⟨nb1, hnb1, he1⟩ := ev_nileqlS (P := Tryz.prog) (n := 8) (e := [(3, vs_1), (2, nilS), (0, vs_1)]) (C := fun w => St g [] fr w) (x := .tmp 3) (y := .const (nilS)) hs_1 tu42 rfl rfl
 refine wE he1 F S rfl fun a F=>?_
 refine wpList_nil ?_
 refine then_n ?_
 obtain ⟨hc1, hm⟩ | ⟨hc1, hm⟩ := nil_or hnb1 hm
 ·refine wp_condT F rfl hc1 ?_
  refine wp_seq ?_
  refine wp_region_lit ?_
  refine wE (ev_assign rfl) F S rfl fun a F=>?_
  refine wpList_nil ?_
  refine then_n ?_
  refine wp_ret ?_
  refine then_r ?_
  obtain rfl := sinj hm
  replace S : St g [[]] fr w := S
  refine post_r _ F rfl (ar_cons (resT rfl) ar_nil) ?_
  exact ⟨_, rfl, g, (nilS), [], (Le.refl _), S, (OwnS.nil _), rfl⟩
 ·refine wp_condF F rfl hc1 ?_
  refine wp_skip ?_
  refine then_n ?_
  refine wp_seq ?_
  refine wp_region_lit ?_
  refine wl_lit (l := ([] : List ByteArray)) (vs := []) (parts := []) (wn rfl) rfl rfl rfl tu42 te9 sz_nil rfl (Cat.nil _) coa_nil rfl F S rfl rfl ?_; clear F a S
  rintro v1 c1 a w h1 F S
  refine wE (ev_move rfl) F S rfl fun a F=>?_
  obtain ⟨cs1, hk1, hr1⟩ := RepSl.reads hs_1
  obtain ⟨y1, hy1, hm⟩ := bind_some hm
  refine wl_append (wn rfl) rfl tu42 tu42 te9 (by decide) (by decide) F S rfl rfl (k := 0) rfl h1 hk1 rfl (hr1 _ _ S) hy1 rfl rfl ?_; clear F a S
  rintro v2 c2 a w h2 S F; replace S : St g [c2] fr w := S
  refine wE (ev_assign rfl) F S rfl fun a F=>?_
  refine wpList_nil ?_
  refine then_n ?_
  refine wp_ret ?_
  obtain rfl := sinj hm
  refine post_r _ F rfl (ar_cons (resT rfl) ar_nil) ?_
  exact ⟨_, rfl, g, v2, c2, (Le.refl _), S, h2, rfl⟩

theorem treepatch_CopyTree_ok {g : Gh} {fr : Hl} {w : World} {r : FileTree} (t_ : FileTree) (vt_1 : Value) (ht_1 : RepSl g t_.Files vt_1) (S : St g [] fr w) (hm : treepatch_CopyTree t_ = some r) :
  Calls Tryz.prog 51 [.agg #[vt_1]].toArray w (fun en w' => ∃ v, en = .returned v ∧ ∃ (g' : Gh) (v1 : Value) (c1 : Hl), Le g g' ∧ St g' [c1] fr w' ∧ OwnS g' r.Files v1 c1 ∧ .agg #[v1] = v) := by
 unfold treepatch_CopyTree at hm
 refine calls_enter (fn := Tryz.f51) Tryz.func51 rfl Tryz.ntmps51 (lb rfl) ?_
 intro a F
 replace F : Fr 26 a [(0, .agg #[vt_1])] := F
 refine wp_seq ?_
 refine wp_region_lit ?_
 refine wl_boxC (wn rfl) rfl rfl rfl F S rfl rfl ?_; clear F a S; rintro b1 a w F S
 refine wl_alloc (wn rfl) rfl tz24 (cs := [nilS]) rfl F S rfl rfl ?_; clear F a S; rintro b2 a w F S
 refine wpList_nil ?_
 refine then_n ?_
 refine wp_seq ?_
 refine wp_region_lit ?_
 refine wl_alloc (wn rfl) rfl tz24 (cs := [nilS]) rfl F S rfl rfl ?_; clear F a S; rintro b3 a w F S
 refine wpList_nil ?_
 refine then_n ?_
 refine wp_cut (fun a w => ∃ (x1 : List File) (v1 : Value) (c1 : Hl) (g1 : Gh), Fr 26 a [(3, bp b3 0), (2, bp b2 0)] ∧ Le g g1 ∧ St g1 [[bx b3 #[v1] 24], [bx b2 #[nilS] 24], c1] fr w ∧ OwnS g1 x1 v1 c1 ∧ treepatch_CopyTree.j1 x1 = some r) ?_ ?_
 ·refine wp_seq ?_
  refine wp_region_lit ?_
  refine wE (ev_fieldAddr' tu24 tf24_0 (z := 0) ts22 rfl ⟨_, rfl⟩ rfl) F S rfl fun a F=>?_
  refine wE (ev_load1 tu22 rfl rfl (box_ptr (cells := [vt_1]) 2 rfl 0 rfl (lb rfl))) F S rfl fun a F=>?_
  refine wE (ev_lenSh ht_1 rfl tu22) F S rfl fun a F=>?_
  refine wE (ev_move rfl) F S rfl fun a F=>?_
  refine wpList_nil ?_
  refine then_n ?_
  refine wp_block ?_
  obtain ⟨r1, hr1, hm⟩ := bind_some hm
  have hmo1 := hm; clear hm
  refine wp_iter (σ := Int × (List File)) (ρ := (List File)) (m := fun s => treepatch_CopyTree.l1 t_ s.1 s.2) (I := fun s a w => match s with | (x2, x3) => ∃ (v2 : Value) (c2 : Hl) (g2 : Gh), Fr 26 a [(9, .i6 x2), (8, .i6 (t_.Files.length : Int)), (7, vt_1), (3, bp b3 0), (2, bp b2 0)] ∧ Le g g2 ∧ St g2 [[bx b3 #[v2] 24], [bx b2 #[nilS] 24], c2] fr w ∧ OwnS g2 x3 v2 c2) hr1 ?_ ?_
  ·dsimp only
   replace S : St g [[], [bx b3 #[nilS] 24], [bx b2 #[nilS] 24], [bx b1 #[vt_1] 24]] fr w := S
   replace S : St g [[bx b3 #[nilS] 24], [bx b2 #[nilS] 24], []] fr w := St.tail [[bx b3 #[nilS] 24], [bx b2 #[nilS] 24], []] _ (((S.frontC 0 rfl).frontC 3 rfl).frontC 3 rfl)
   exact ⟨(nilS), [], g, F.sub ⟨rfl, rfl, rfl, rfl, rfl, trivial⟩, (Le.refl _), S, (OwnS.nil _)⟩
  ·clear F S; rintro ⟨x2, x3⟩ a w x4 ⟨v2, c2, g2, F, l2, S, h2⟩ hx1 hfin1
   have hm : treepatch_CopyTree.l1 t_ x2 x3 = some x4 := hx1; clear hx1
   unfold treepatch_CopyTree.l1 at hm
   refine wp_seq ?_
   refine wp_region_lit ?_
   refine wE (ev_int rfl rfl (bo_lss _ _ _ _)) F S rfl fun a F=>?_
   refine wpList_nil ?_
   refine then_n ?_
   refine wp_seq ?_
   obtain ⟨hc1, hm⟩ | ⟨hc1, hm⟩ := ite_or hm
   ·refine wp_condT F rfl hc1 ?_
    refine wp_skip ?_
    refine then_n ?_
    refine wp_seq ?_
    refine wp_block ?_
    refine wp_seq ?_
    refine wp_region_lit ?_
    obtain ⟨y1, hy1, hm⟩ := bind_some hm
    obtain ⟨cs1, hr2, hp1⟩ := elemS (ht_1.mono l2) hy1
    obtain ⟨v3, rfl, h3⟩ := rep_File hr2
    refine wE (ev_idxS (ht_1.mono l2) hy1 tu22 ts80 rfl rfl) F S rfl fun a F=>?_
    refine wE (ev_loadA tu80 rfl (cs := [.string y1.Path, v3]) ts80 rfl (ptr_mono (cks := [[bx b3 #[v2] 24], [bx b2 #[nilS] 24], c2]) (fr := fr) hp1 (Le.refl _))) F S rfl fun a F=>?_
    refine wl_alloc (wn rfl) rfl tz80 (cs := [.string ByteArray.empty, nilS]) rfl F S rfl rfl ?_; clear F a S; rintro b4 a w F S
    refine wl_storeC (wn rfl) rfl F S rfl rfl (vs := [.string y1.Path, v3]) rfl ts80 (one_cons rfl (one_cons h3.one one_nil)) (k := 0) rfl (lb rfl) (c' := #[.string y1.Path, v3]) rfl rfl ?_; clear S; intro w S
    refine wpList_nil ?_
    refine then_n ?_
    refine wp_dv [] mo S ?_; clear S; intro ok1 w S
    refine dv_et ok1 0 rfl (ev_fieldAddr' tu24 tf24_0 (z := 0) ts22 rfl ⟨_, rfl⟩ rfl) F rfl fun a F=>?_
    refine dv_ev ok1 1 rfl (ev_load1 tu22 rfl rfl (box_ptr (cells := [v2]) 1 rfl 0 rfl (lb rfl))) F S rfl fun a F=>?_
    refine dv_et ok1 2 rfl (ev_fieldAddr' tu80 tf80_0 (z := 0) ts9 rfl ⟨_, rfl⟩ rfl) F rfl fun a F=>?_
    refine dv_ev ok1 3 rfl (ev_load1 tu9 rfl rfl (box_ptr (cells := [.string y1.Path]) 0 rfl 0 rfl (lb rfl))) F S rfl fun a F=>?_
    refine dv_et ok1 4 rfl (ev_fieldAddr' tu80 tf80_1 (z := 0) ts42 rfl ⟨_, rfl⟩ rfl) F rfl fun a F=>?_
    refine dv_ev ok1 5 rfl (ev_load1 tu42 rfl rfl (box_ptr (cells := [v3]) 0 rfl 1 rfl (lb rfl))) F S rfl fun a F=>?_
    refine dv_op ok1 6 rfl [(3, .string y1.Path), (1, v2)] ?_
    obtain ⟨y2, hy2, hm⟩ := bind_some hm
    refine wl_call0 (wn rfl) rfl F rfl (slices_Clone_ok (fr := (fl [[bx b4 #[.string y1.Path, v3] 80], [bx b3 #[v2] 24], [bx b2 #[nilS] 24], c2] fr)) y1.Lines v3 h3 S hy2) rfl tc64 rfl rfl ?_; clear F a S
    rintro _ a w ⟨g3, v4, c3, l3, S, h4, rfl⟩ F; replace S : St g3 [c3, [bx b4 #[.string y1.Path, v3] 80], [bx b3 #[v2] 24], [bx b2 #[nilS] 24], c2] fr w := S
    refine dv_nx ⟨yl_ev rfl rfl (ev_load1 tu9 rfl rfl (box_ptr (cells := [.string y1.Path]) 1 rfl 0 rfl (lb rfl))) F S, yl_ev rfl rfl (ev_load1 tu22 rfl rfl (box_ptr (cells := [v2]) 2 rfl 0 rfl (lb rfl))) F S, trivial⟩ ?_
    refine dv_et ok1 7 rfl (ev_build (parts := [(0, .tmp 16), (1, .tmp 19)]) (vs := [(0, .string y1.Path), (1, v4)]) rfl (fun w => tb80_0_1 y1.Path v4 (OwnS.isSl h4) w)) F rfl fun a F=>?_
    refine dv_op ok1 8 rfl [(1, v2)] ?_
    obtain ⟨g4, l4, S, h5⟩ : ∃ gz, Le g3 gz ∧ St gz [[bx b4 #[.string y1.Path, v3] 80], [bx b3 #[v2] 24], [bx b2 #[nilS] 24], c2] fr w ∧ RepSl gz y2 v4 := ⟨_, Le.add _ _, S.freeze 0 rfl, OwnS.freeze (S.front 0 rfl) h4⟩
    refine wl_lit (l := ([({ Path := y1.Path, Lines := y2 } : File)] : List File)) (vs := [.agg #[.string y1.Path, v4]]) (parts := [(0, .tmp 20)]) (wn rfl) rfl rfl rfl tu22 te80 (sz_cons rfl sz_nil) rfl (Cat.cons (rep_File_mk (x := ({ Path := y1.Path, Lines := y2 } : File)) h5) (Cat.nil _)) (coa_cons rfl coa_nil) rfl F S rfl rfl ?_; clear F a S
    rintro v5 c4 a w h6 F S
    refine dv_nx ⟨yl_ev rfl rfl (ev_load1 tu22 rfl rfl (box_ptr (cells := [v2]) 2 rfl 0 rfl (lb rfl))) F S, trivial⟩ ?_
    refine dv_op ok1 9 rfl [] ?_
    obtain ⟨cs2, hk1, hr3⟩ := OwnS.reads h6
    obtain ⟨y3, hy3, hm⟩ := bind_some hm
    refine wl_append (wn rfl) rfl tu22 tu22 te80 (by decide) (by decide) F S rfl rfl (k := 4) rfl (h2.mono (l3.trans l4)) hk1 rfl (hr3 _ _ _ 0 rfl S) hy3 rfl rfl ?_; clear F a S
    rintro v6 c5 a w h7 S F; replace S : St g4 [c4, [bx b4 #[.string y1.Path, v3] 80], [bx b3 #[v2] 24], [bx b2 #[nilS] 24], c5] fr w := S
    refine dv_nx trivial ?_
    refine dv_et ok1 10 rfl (ev_fieldAddr' tu24 tf24_0 (z := 0) ts22 rfl ⟨_, rfl⟩ rfl) F rfl fun a F=>?_
    refine dv_op ok1 11 rfl [] ?_
    refine wl_storeC (wn rfl) rfl F S rfl rfl (vs := [v6]) (OwnS.cl h7) ts22 (one_cons (OwnS.one h7) one_nil) (k := 2) rfl (lb rfl) (c' := #[v6]) rfl rfl ?_; clear S; intro w S
    refine dv_nx trivial ?_
    refine dv_fin ok1 ?_
    refine inb_n ?_
    refine then_n ?_
    refine wp_region_lit ?_
    obtain ⟨z1, hz1, hm⟩ := bind_some hm
    refine wE (ev_int rfl rfl (bo_add hz1)) F S rfl fun a F=>?_
    refine wE (ev_move rfl) F S rfl fun a F=>?_
    refine wpList_nil ?_
    refine then_n ?_
    obtain rfl := sinj hm
    refine ⟨_, rfl, ?_⟩
    dsimp only
    replace S : St g4 [[bx b3 #[v6] 24], [bx b2 #[nilS] 24], c5] fr w := St.tail [[bx b3 #[v6] 24], [bx b2 #[nilS] 24], c5] _ (((S.frontC 4 rfl).frontC 4 rfl).frontC 4 rfl)
    exact ⟨v6, c5, g4, F.sub ⟨rfl, rfl, rfl, rfl, rfl, trivial⟩, ((l2.trans l3).trans l4), S, h7⟩
   ·refine wp_condF F rfl hc1 ?_
    refine wp_exit ?_
    refine then_e ?_
    refine then_e ?_
    refine inb_x ?_
    refine then_n ?_
    obtain rfl := sinj hm
    obtain rfl := hfin1 _ rfl
    clear hm
    have hm : (treepatch_CopyTree.j1 x3 : Option FileTree) = some _ := hmo1
    exact ⟨x3, v2, c2, g2, F.sub ⟨rfl, rfl, trivial⟩, l2, S, h2, hm⟩
 ·clear F S hm; rintro a w ⟨x1, v1, c1, g1, F, l1, S, h1, hm⟩
  refine wp_seq ?_
  refine wp_region_lit ?_
  refine wE (ev_loadA tu24 rfl (cs := [v1]) ts24 rfl (box_ptr (cells := [v1]) 0 rfl 0 rfl (lb rfl))) F S rfl fun a F=>?_
  refine wl_storeC (wn rfl) rfl F S rfl rfl (vs := [v1]) rfl ts24 (one_cons (OwnS.one h1) one_nil) (k := 1) rfl (lb rfl) (c' := #[v1]) rfl rfl ?_; clear S; intro w S
  refine wpList_nil ?_
  refine then_n ?_
  refine wp_ret ?_
  obtain rfl := sinj hm
  refine post_r _ F rfl (ar_cons (resA rfl tu24 rfl (box_ptr (cells := [v1]) 1 rfl 0 rfl (lb rfl) w S) ts24) ar_nil) ?_
  replace S : St g1 [c1] fr w := St.tail [c1] _ (S.frontC 2 rfl)
  exact ⟨_, rfl, g1, v1, c1, l1, S, h1, rfl⟩

theorem slices_Equal_ok {g : Gh} {fr : Hl} {w : World} {r : Bool} (s1_ : (List ByteArray)) (vs1_1 : Value) (hs1_1 : RepSl g s1_ vs1_1) (s2_ : (List ByteArray)) (vs2_1 : Value) (hs2_1 : RepSl g s2_ vs2_1) (S : St g [] fr w) (hm : slices_Equal s1_ s2_ = some r) :
  Calls Tryz.prog 63 [vs1_1, vs2_1].toArray w (fun en w' => ∃ v, en = .returned v ∧ ∃ (g' : Gh), Le g g' ∧ St g' [] fr w' ∧ .bool r = v) := by
 unfold slices_Equal at hm
 refine calls_enter (fn := Tryz.f63) Tryz.func63 rfl Tryz.ntmps63 (lb rfl) ?_
 intro a F
 replace F : Fr 26 a [(0, vs1_1), (1, vs2_1)] := F
 refine wp_seq ?_
 refine wp_region_lit ?_
 refine wE (ev_assign rfl) F S rfl fun a F=>?_
 refine wpList_nil ?_
 refine then_n ?_
 refine wp_seq ?_
 refine wp_seq ?_
 refine wp_region_lit ?_
 refine wE (ev_move rfl) F S rfl fun a F=>?_
 refine wE (ev_lenSh hs1_1 rfl tu42) F S rfl fun a F=>?_
 refine wE (ev_move rfl) F S rfl fun a F=>?_
 refine wE (ev_lenSh hs2_1 rfl tu42) F S rfl fun a F=>?_
 refine wE (ev_int rfl rfl (bo_neq _ _ _ _)) F S rfl fun a F=>?_
 refine wpList_nil ?_
 refine then_n ?_
 obtain ⟨hc1, hm⟩ | ⟨hc1, hm⟩ := ite_or hm
 ·refine wp_condT F rfl hc1 ?_
  refine wp_seq ?_
  refine wp_region_lit ?_
  refine wE (ev_assign rfl) F S rfl fun a F=>?_
  refine wpList_nil ?_
  refine then_n ?_
  refine wp_ret ?_
  refine then_r ?_
  obtain rfl := sinj hm
  refine post_r _ F rfl (ar_cons (resT rfl) ar_nil) ?_
  exact ⟨_, rfl, g, (Le.refl _), S, rfl⟩
 ·refine wp_condF F rfl hc1 ?_
  refine wp_skip ?_
  refine then_n ?_
  refine wp_cut (fun a w => ∃ (g1 : Gh), Fr 26 a [] ∧ Le g g1 ∧ St g1 [] fr w ∧ slices_Equal.j1 = some r) ?_ ?_
  ·refine wp_seq ?_
   refine wp_region_lit ?_
   refine wE (ev_move rfl) F S rfl fun a F=>?_
   refine wE (ev_lenSh hs1_1 rfl tu42) F S rfl fun a F=>?_
   refine wE (ev_move rfl) F S rfl fun a F=>?_
   refine wpList_nil ?_
   refine then_n ?_
   refine wp_block ?_
   obtain ⟨r1, hr1, hm⟩ := bind_some hm
   have hmo1 := hm; clear hm
   refine wp_iter (σ := Int) (ρ := Bool ⊕ Unit) (m := fun s => slices_Equal.l1 s1_ s2_ s) (I := fun x1 a w => ∃ (g2 : Gh), Fr 26 a [(13, .i6 x1), (12, .i6 (s1_.length : Int)), (0, vs1_1), (1, vs2_1)] ∧ Le g g2 ∧ St g2 [] fr w) hr1 ?_ ?_
   ·exact ⟨g, F.sub ⟨rfl, rfl, rfl, rfl, trivial⟩, (Le.refl _), S⟩
   ·clear F S; rintro x1 a w x2 ⟨g2, F, l2, S⟩ hx1 hfin1
    have hm : slices_Equal.l1 s1_ s2_ x1 = some x2 := hx1; clear hx1
    unfold slices_Equal.l1 at hm
    refine wp_seq ?_
    refine wp_region_lit ?_
    refine wE (ev_int rfl rfl (bo_lss _ _ _ _)) F S rfl fun a F=>?_
    refine wpList_nil ?_
    refine then_n ?_
    refine wp_seq ?_
    obtain ⟨hc2, hm⟩ | ⟨hc2, hm⟩ := ite_or hm
    ·refine wp_condT F rfl hc2 ?_
     refine wp_skip ?_
     refine then_n ?_
     refine wp_seq ?_
     refine wp_block ?_
     refine wp_seq ?_
     refine wp_region_lit ?_
     refine wE (ev_move rfl) F S rfl fun a F=>?_
     refine wE (ev_assign rfl) F S rfl fun a F=>?_
     refine wpList_nil ?_
     refine then_n ?_
     refine wp_seq ?_
     refine wp_quiet mo (by kernel_rfl) S ?_
     refine wq_ev (wn rfl) (ev_move rfl) F rfl rfl ?_; clear F a; intro a F
     refine wq_ev (wn rfl) (ev_move rfl) F rfl rfl ?_; clear F a; intro a F
     obtain ⟨y1, hy1, hm⟩ := bind_some hm
     obtain ⟨cs1, hr2, hp1⟩ := elemS (hs1_1.mono l2) hy1
     obtain rfl := rep_str hr2
     refine wq_ev (wn rfl) (ev_idxS (hs1_1.mono l2) hy1 tu42 ts9 rfl rfl) F rfl rfl ?_; clear F a; intro a F
     refine wq_ev (wn rfl) (ev_load1 tu9 rfl rfl (ptr_mono (cks := []) (fr := fr) hp1 (Le.refl _))) F rfl rfl ?_; clear F a; intro a F
     refine wq_ev (wn rfl) (ev_move rfl) F rfl rfl ?_; clear F a; intro a F
     refine wq_ev (wn rfl) (ev_move rfl) F rfl rfl ?_; clear F a; intro a F
     obtain ⟨y2, hy2, hm⟩ := bind_some hm
     obtain ⟨cs2, hr3, hp2⟩ := elemS (hs2_1.mono l2) hy2
     obtain rfl := rep_str hr3
     refine wq_ev (wn rfl) (ev_idxS (hs2_1.mono l2) hy2 tu42 ts9 rfl rfl) F rfl rfl ?_; clear F a; intro a F
     refine wq_ev (wn rfl) (ev_load1 tu9 rfl rfl (ptr_mono (cks := []) (fr := fr) hp2 (Le.refl _))) F rfl rfl ?_; clear F a; intro a F
     refine wq_ev (wn rfl) (ev_str rfl rfl (bs_neq _ _ _)) F rfl rfl ?_; clear F a; intro a F
     refine wq_nil ?_; clear S; intro w S
     refine then_n ?_
     obtain ⟨hc3, hm⟩ | ⟨hc3, hm⟩ := ite_or hm
     ·refine wp_condT F rfl hc3 ?_
      refine wp_seq ?_
      refine wp_region_lit ?_
      refine wE (ev_assign rfl) F S rfl fun a F=>?_
      refine wpList_nil ?_
      refine then_n ?_
      refine wp_ret ?_
      refine inb_r ?_
      refine then_r ?_
      refine then_r ?_
      refine inb_r ?_
      refine then_r ?_
      obtain rfl := sinj hm
      obtain rfl := hfin1 _ rfl
      clear hm
      have hm : (some false : Option Bool) = some _ := hmo1
      obtain rfl := sinj hm
      refine post_r _ F rfl (ar_cons (resT rfl) ar_nil) ?_
      exact ⟨_, rfl, g2, l2, S, rfl⟩
     ·refine wp_condF F rfl hc3 ?_
      refine wp_skip ?_
      refine inb_n ?_
      refine then_n ?_
      refine wp_region_lit ?_
      obtain ⟨z1, hz1, hm⟩ := bind_some hm
      refine wE (ev_int rfl rfl (bo_add hz1)) F S rfl fun a F=>?_
      refine wE (ev_move rfl) F S rfl fun a F=>?_
      refine wpList_nil ?_
      refine then_n ?_
      obtain rfl := sinj hm
      refine ⟨_, rfl, ?_⟩
      exact ⟨g2, F.sub ⟨rfl, rfl, rfl, rfl, trivial⟩, l2, S⟩
    ·refine wp_condF F rfl hc2 ?_
     refine wp_exit ?_
     refine then_e ?_
     refine then_e ?_
     refine inb_x ?_
     refine then_n ?_
     obtain rfl := sinj hm
     obtain rfl := hfin1 _ rfl
     clear hm
     have hm : (slices_Equal.j1 : Option Bool) = some _ := hmo1
     exact ⟨g2, F.sub trivial, l2, S, hm⟩
  ·clear F S hm; rintro a w ⟨g1, F, l1, S, hm⟩
   refine wp_seq ?_
   refine wp_region_lit ?_
   refine wE (ev_assign rfl) F S rfl fun a F=>?_
   refine wpList_nil ?_
   refine then_n ?_
   refine wp_ret ?_
   obtain rfl := sinj hm
   refine post_r _ F rfl (ar_cons (resT rfl) ar_nil) ?_
   exact ⟨_, rfl, g1, l1, S, rfl⟩

theorem lines_Occurs_ok {g : Gh} {fr : Hl} {w : World} {r : Bool} (text : (List ByteArray)) (vtext1 : Value) (htext1 : RepSl g text vtext1) (part : (List ByteArray)) (vpart1 : Value) (hpart1 : RepSl g part vpart1) (at_ : Int) (S : St g [] fr w) (hm : lines_Occurs text part at_ = some r) :
  Calls Tryz.prog 56 [vtext1, vpart1, .i6 at_].toArray w (fun en w' => ∃ v, en = .returned v ∧ ∃ (g' : Gh), Le g g' ∧ St g' [] fr w' ∧ .bool r = v) := by
 unfold lines_Occurs at hm
 refine calls_enter (fn := Tryz.f56) Tryz.func56 rfl Tryz.ntmps56 (lb rfl) ?_
 intro a F
 replace F : Fr 35 a [(0, vtext1), (1, vpart1), (2, .i6 at_)] := F
 refine wp_seq ?_
 refine wp_region_lit ?_
 refine wE (ev_assign rfl) F S rfl fun a F=>?_
 refine wpList_nil ?_
 refine then_n ?_
 refine wp_seq ?_
 refine wp_region_lit ?_
 refine wE (ev_move rfl) F S rfl fun a F=>?_
 refine wE (ev_int rfl rfl (bo_geq _ _ _ _)) F S rfl fun a F=>?_
 refine wE (ev_move rfl) F S rfl fun a F=>?_
 obtain ⟨x1, hx1, hm⟩ := bind_some hm
 refine wl_cut 5 (fun a w' => w = w' ∧ Fr 35 a [(14, .bool x1), (6, .bool false), (0, vtext1), (1, vpart1), (2, .i6 at_)]) ?_ ?_
 ·clear hm; obtain ⟨hc1, hm⟩ | ⟨hc1, hm⟩ := ite_or hx1
  ·refine wl_ev (wg F rfl rfl rfl rfl hc1) (ev_move rfl) F S rfl rfl ?_; clear F a; intro a F
   refine wl_ev (wg F rfl rfl rfl rfl hc1) (ev_move rfl) F S rfl rfl ?_; clear F a; intro a F
   refine wl_ev (wg F rfl rfl rfl rfl hc1) (ev_lenSh htext1 rfl tu42) F S rfl rfl ?_; clear F a; intro a F
   refine wl_ev (wg F rfl rfl rfl rfl hc1) (ev_int rfl rfl (bo_leq _ _ _ _)) F S rfl rfl ?_; clear F a; intro a F
   refine wE (ev_pickT rfl hc1 rfl) F S rfl fun a F=>?_
   obtain rfl := sinj hm
   refine wpList_nil (then_n ?_); exact ⟨rfl, F.sub ⟨rfl, rfl, rfl, rfl, rfl, trivial⟩⟩
  ·refine wl_skip rfl rfl rfl rfl (ne_tf hc1) F rfl rfl ?_; clear F a; intro a F
   refine wl_skip rfl rfl rfl rfl (ne_tf hc1) F rfl rfl ?_; clear F a; intro a F
   refine wl_skip rfl rfl rfl rfl (ne_tf hc1) F rfl rfl ?_; clear F a; intro a F
   refine wl_skip rfl rfl rfl rfl (ne_tf hc1) F rfl rfl ?_; clear F a; intro a F
   refine wE (ev_pickF rfl hc1 rfl) F S rfl fun a F=>?_
   obtain rfl := sinj hm
   refine wpList_nil (then_n ?_); exact ⟨rfl, F.sub ⟨rfl, rfl, rfl, rfl, rfl, trivial⟩⟩
 clear F; rintro a w' ⟨rfl, F⟩
 refine wE (ev_move rfl) F S rfl fun a F=>?_
 obtain ⟨x2, hx2, hm⟩ := bind_some hm
 refine wl_cut 8 (fun a w' => w = w' ∧ Fr 35 a [(23, .bool x2), (6, .bool false), (0, vtext1), (1, vpart1), (2, .i6 at_)]) ?_ ?_
 ·clear hm; obtain ⟨hc2, hm⟩ | ⟨hc2, hm⟩ := ite_or hx2
  ·refine wl_ev (wg F rfl rfl rfl rfl hc2) (ev_move rfl) F S rfl rfl ?_; clear F a; intro a F
   refine wl_ev (wg F rfl rfl rfl rfl hc2) (ev_lenSh hpart1 rfl tu42) F S rfl rfl ?_; clear F a; intro a F
   refine wl_ev (wg F rfl rfl rfl rfl hc2) (ev_move rfl) F S rfl rfl ?_; clear F a; intro a F
   refine wl_ev (wg F rfl rfl rfl rfl hc2) (ev_lenSh htext1 rfl tu42) F S rfl rfl ?_; clear F a; intro a F
   refine wl_ev (wg F rfl rfl rfl rfl hc2) (ev_move rfl) F S rfl rfl ?_; clear F a; intro a F
   obtain ⟨z1, hz1, hm⟩ := bind_some hm
   refine wl_ev (wg F rfl rfl rfl rfl hc2) (ev_int rfl rfl (bo_sub hz1)) F S rfl rfl ?_; clear F a; intro a F
   refine wl_ev (wg F rfl rfl rfl rfl hc2) (ev_int rfl rfl (bo_leq _ _ _ _)) F S rfl rfl ?_; clear F a; intro a F
   refine wE (ev_pickT rfl hc2 rfl) F S rfl fun a F=>?_
   obtain rfl := sinj hm
   refine wpList_nil (then_n ?_); exact ⟨rfl, F.sub ⟨rfl, rfl, rfl, rfl, rfl, trivial⟩⟩
  ·refine wl_skip rfl rfl rfl rfl (ne_tf hc2) F rfl rfl ?_; clear F a; intro a F
   refine wl_skip rfl rfl rfl rfl (ne_tf hc2) F rfl rfl ?_; clear F a; intro a F
   refine wl_skip rfl rfl rfl rfl (ne_tf hc2) F rfl rfl ?_; clear F a; intro a F
   refine wl_skip rfl rfl rfl rfl (ne_tf hc2) F rfl rfl ?_; clear F a; intro a F
   refine wl_skip rfl rfl rfl rfl (ne_tf hc2) F rfl rfl ?_; clear F a; intro a F
   refine wl_skip rfl rfl rfl rfl (ne_tf hc2) F rfl rfl ?_; clear F a; intro a F
   refine wl_skip rfl rfl rfl rfl (ne_tf hc2) F rfl rfl ?_; clear F a; intro a F
   refine wE (ev_pickF rfl hc2 rfl) F S rfl fun a F=>?_
   obtain rfl := sinj hm
   refine wpList_nil (then_n ?_); exact ⟨rfl, F.sub ⟨rfl, rfl, rfl, rfl, rfl, trivial⟩⟩
 clear F; rintro a w' ⟨rfl, F⟩
 refine wE (ev_move rfl) F S rfl fun a F=>?_
 obtain ⟨x3, hx3, hm⟩ := bind_some hm
 refine wl_cut 10 (fun a w => ∃ g1, Fr 35 a [(34, .bool x3), (6, .bool false)] ∧ Le g g1 ∧ St g1 [] fr w) ?_ ?_
 ·clear hm; obtain ⟨hc3, hm⟩ | ⟨hc3, hm⟩ := ite_or hx3
  ·refine wl_ev (wg F rfl rfl rfl rfl hc3) (ev_move rfl) F S rfl rfl ?_; clear F a; intro a F
   refine wl_ev (wg F rfl rfl rfl rfl hc3) (ev_move rfl) F S rfl rfl ?_; clear F a; intro a F
   refine wl_ev (wg F rfl rfl rfl rfl hc3) (ev_move rfl) F S rfl rfl ?_; clear F a; intro a F
   refine wl_ev (wg F rfl rfl rfl rfl hc3) (ev_move rfl) F S rfl rfl ?_; clear F a; intro a F
   refine wl_ev (wg F rfl rfl rfl rfl hc3) (ev_lenSh hpart1 rfl tu42) F S rfl rfl ?_; clear F a; intro a F
   obtain ⟨z2, hz2, hm⟩ := bind_some hm
   refine wl_ev (wg F rfl rfl rfl rfl hc3) (ev_int rfl rfl (bo_add hz2)) F S rfl rfl ?_; clear F a; intro a F
   obtain ⟨y1, hy1, hm⟩ := bind_some hm
   refine wl_cutS (wg F rfl rfl rfl rfl hc3) rfl htext1 hy1 tu42 ts9 rfl (bndV rfl) (bndV rfl) F rfl rfl ?_; clear F a; rintro v1 h1 a F
   refine wl_ev (wg F rfl rfl rfl rfl hc3) (ev_move rfl) F S rfl rfl ?_; clear F a; intro a F
   obtain ⟨y2, hy2, hm⟩ := bind_some hm
   refine wl_call0 (wg F rfl rfl rfl rfl hc3) rfl F rfl (slices_Equal_ok y1 v1 h1 part vpart1 hpart1 S hy2) rfl tc63 rfl rfl ?_; clear F a S
   rintro _ a w ⟨g2, l2, S, rfl⟩ F; replace S : St g2 [] fr w := S
   refine wE (ev_pickT rfl hc3 rfl) F S rfl fun a F=>?_
   obtain rfl := sinj hm
   refine wpList_nil (then_n ?_); exact ⟨g2, F.sub ⟨rfl, rfl, trivial⟩, l2, S⟩
  ·refine wl_skip rfl rfl rfl rfl (ne_tf hc3) F rfl rfl ?_; clear F a; intro a F
   refine wl_skip rfl rfl rfl rfl (ne_tf hc3) F rfl rfl ?_; clear F a; intro a F
   refine wl_skip rfl rfl rfl rfl (ne_tf hc3) F rfl rfl ?_; clear F a; intro a F
   refine wl_skip rfl rfl rfl rfl (ne_tf hc3) F rfl rfl ?_; clear F a; intro a F
   refine wl_skip rfl rfl rfl rfl (ne_tf hc3) F rfl rfl ?_; clear F a; intro a F
   refine wl_skip rfl rfl rfl rfl (ne_tf hc3) F rfl rfl ?_; clear F a; intro a F
   refine wl_skip rfl rfl rfl rfl (ne_tf hc3) F rfl rfl ?_; clear F a; intro a F
   refine wl_skip rfl rfl rfl rfl (ne_tf hc3) F rfl rfl ?_; clear F a; intro a F
   refine wl_skip rfl rfl rfl rfl (ne_tf hc3) F rfl rfl ?_; clear F a; intro a F
   refine wE (ev_pickF rfl hc3 rfl) F S rfl fun a F=>?_
   obtain rfl := sinj hm
   refine wpList_nil (then_n ?_); exact ⟨g, F.sub ⟨rfl, rfl, trivial⟩, (Le.refl _), S⟩
 clear F S; rintro a w ⟨g1, F, l1, S⟩
 refine wE (ev_assign rfl) F S rfl fun a F=>?_
 refine wpList_nil ?_
 refine then_n ?_
 refine wp_ret ?_
 obtain rfl := sinj hm
 refine post_r _ F rfl (ar_cons (resT rfl) ar_nil) ?_
 exact ⟨_, rfl, g1, l1, S, rfl⟩

theorem textpatch_Raw_ok {g : Gh} {fr : Hl} {w : World} {r : (List ByteArray)} (hunks : (List Hunk)) (vhunks1 : Value) (hhunks1 : RepSl g hunks vhunks1) (text : (List ByteArray)) (vtext1 : Value) (htext1 : RepSl g text vtext1) (low : Int) (high : Int) (S : St g [] fr w) (hm : textpatch_Raw hunks text low high = some r) :
  Calls Tryz.prog 57 [vhunks1, vtext1, .i6 low, .i6 high].toArray w (fun en w' => ∃ v, en = .returned v ∧ ∃ (g' : Gh) (v1 : Value) (c1 : Hl), Le g g' ∧ St g' [c1] fr w' ∧ OwnS g' r v1 c1 ∧ v1 = v) := by
 unfold textpatch_Raw at hm
 refine calls_enter (fn := Tryz.f57) Tryz.func57 rfl Tryz.ntmps57 (lb rfl) ?_
 intro a F
 replace F : Fr 37 a [(0, vhunks1), (1, vtext1), (2, .i6 low), (3, .i6 high)] := F
 refine wp_seq ?_
 refine wp_region_lit ?_
 refine wE (ev_assign rfl) F S rfl fun a F=>?_
 refine wpList_nil ?_
 refine then_n ?_
 refine wp_seq ?_
 refine wp_region_lit ?_
 refine wE (ev_assign rfl) F S rfl fun a F=>?_
 refine wpList_nil ?_
 refine then_n ?_
 refine wp_cut (fun a w => ∃ (x1 : List ByteArray) (x2 : Int) (v1 : Value) (c1 : Hl) (g1 : Gh), Fr 37 a [(9, v1), (1, vtext1), (2, .i6 x2), (3, .i6 high)] ∧ Le g g1 ∧ St g1 [c1] fr w ∧ OwnS g1 x1 v1 c1 ∧ textpatch_Raw.j1 text high x1 x2 = some r) ?_ ?_
 ·refine wp_seq ?_
  refine wp_region_lit ?_
  refine wE (ev_move rfl) F S rfl fun a F=>?_
  refine wE (ev_lenSh hhunks1 rfl tu43) F S rfl fun a F=>?_
  refine wE (ev_move rfl) F S rfl fun a F=>?_
  refine wpList_nil ?_
  refine then_n ?_
  refine wp_block ?_
  obtain ⟨r1, hr2, hm⟩ := bind_some hm
  have hmo1 := hm; clear hm
  refine wp_iter (σ := Int × (List ByteArray) × Int) (ρ := (List ByteArray) × Int) (m := fun s => textpatch_Raw.l1 hunks text s.1 s.2.1 s.2.2) (I := fun s a w => match s with | (x3, x4, x5) => ∃ (v4 : Value) (c3 : Hl) (g2 : Gh), Fr 37 a [(14, .i6 x3), (13, .i6 (hunks.length : Int)), (12, vhunks1), (9, v4), (1, vtext1), (2, .i6 x5), (3, .i6 high)] ∧ Le g g2 ∧ St g2 [c3] fr w ∧ OwnS g2 x4 v4 c3) hr2 ?_ ?_
  ·dsimp only
   replace S : St g [[]] fr w := S
   exact ⟨(nilS), [], g, F.sub ⟨rfl, rfl, rfl, rfl, rfl, rfl, rfl, trivial⟩, (Le.refl _), S, (OwnS.nil _)⟩
  ·clear F S; rintro ⟨x3, x4, x5⟩ a w x6 ⟨v4, c3, g2, F, l2, S, h4⟩ hx1 hfin1
   have hm : textpatch_Raw.l1 hunks text x3 x4 x5 = some x6 := hx1; clear hx1
   unfold textpatch_Raw.l1 at hm
   refine wp_seq ?_
   refine wp_region_lit ?_
   refine wE (ev_int rfl rfl (bo_lss _ _ _ _)) F S rfl fun a F=>?_
   refine wpList_nil ?_
   refine then_n ?_
   refine wp_seq ?_
   obtain ⟨hc1, hm⟩ | ⟨hc1, hm⟩ := ite_or hm
   ·refine wp_condT F rfl hc1 ?_
    refine wp_skip ?_
    refine then_n ?_
    refine wp_seq ?_
    refine wp_block ?_
    refine wp_seq ?_
    refine wp_region_lit ?_
    obtain ⟨y3, hy3, hm⟩ := bind_some hm
    obtain ⟨cs2, hr3, hp1⟩ := elemS (hhunks1.mono l2) hy3
    obtain ⟨v5, v6, rfl, h5, h6⟩ := rep_Hunk hr3
    refine wE (ev_idxS (hhunks1.mono l2) hy3 tu43 ts91 rfl rfl) F S rfl fun a F=>?_
    refine wE (ev_loadA tu91 rfl (cs := [.i6 y3.At, v5, v6]) ts91 rfl (ptr_mono (cks := [c3]) (fr := fr) hp1 (Le.refl _))) F S rfl fun a F=>?_
    refine wl_alloc (wn rfl) rfl tz91 (cs := [.i6 0, nilS, nilS]) rfl F S rfl rfl ?_; clear F a S; rintro b1 a w F S
    refine wl_storeC (wn rfl) rfl F S rfl rfl (vs := [.i6 y3.At, v5, v6]) rfl ts91 (one_cons rfl (one_cons h5.one (one_cons h6.one one_nil))) (k := 0) rfl (lb rfl) (c' := #[.i6 y3.At, v5, v6]) rfl rfl ?_; clear S; intro w S
    refine wpList_nil ?_
    refine then_n ?_
    refine wp_seq ?_
    refine wp_dv [10] mo S ?_; clear S; intro ok1 w S
    refine dv_et ok1 0 rfl (ev_move rfl) F rfl fun a F=>?_
    refine dv_et ok1 1 rfl (ev_move rfl) F rfl fun a F=>?_
    refine dv_et ok1 2 rfl (ev_move rfl) F rfl fun a F=>?_
    refine dv_et ok1 3 rfl (ev_fieldAddr' tu91 tf91_0 (z := 0) ts3 rfl ⟨_, rfl⟩ rfl) F rfl fun a F=>?_
    refine dv_ev ok1 4 rfl (ev_load1 tu3 rfl rfl (box_ptr (cells := [.i6 y3.At]) 0 rfl 0 rfl (lb rfl))) F S rfl fun a F=>?_
    obtain ⟨y4, hy4, hm⟩ := bind_some hm
    obtain ⟨v7, h7, he1⟩ := ev_cut (P := Tryz.prog) (n := 37) (e := [(22, .i6 y3.At), (21, bp b1 0), (20, .i6 x5), (19, vtext1), (18, v4), (11, bp b1 0), (17, .agg #[.i6 y3.At, v5, v6]), (16, (elemP vhunks1 x3 3)), (15, .bool (decide (x3 < (hunks.length : Int)))), (14, .i6 x3), (13, .i6 (hunks.length : Int)), (12, vhunks1), (9, v4), (1, vtext1), (2, .i6 x5), (3, .i6 high)]) (C := fun _ => True) (x := .tmp 19) (lo := some (.tmp 20)) (hi := some (.tmp 22)) (htext1.mono l2) hy4 tu42 ts9 rfl (bndV rfl) (bndV rfl)
    refine dv_et ok1 5 rfl he1 F rfl fun a F=>?_
    refine dv_et ok1 7 rfl (ev_fieldAddr' tu91 tf91_2 (z := 0) ts42 rfl ⟨_, rfl⟩ rfl) F rfl fun a F=>?_
    refine dv_ev ok1 8 rfl (ev_load1 tu42 rfl rfl (box_ptr (cells := [v6]) 0 rfl 2 rfl (lb rfl))) F S rfl fun a F=>?_
    refine dv_op ok1 6 rfl [(8, v6)] ?_
    obtain ⟨cs3, hk2, hr4⟩ := RepSl.reads h7
    obtain ⟨y5, hy5, hm⟩ := bind_some hm
    refine wl_append (wn rfl) rfl tu42 tu42 te9 (by decide) (by decide) F S rfl rfl (k := 1) rfl h4 hk2 rfl (hr4 _ _ S) hy5 rfl rfl ?_; clear F a S
    rintro v8 c4 a w h8 S F; replace S : St g2 [[bx b1 #[.i6 y3.At, v5, v6] 91], c4] fr w := S
    refine dv_nx ⟨yl_ev rfl rfl (ev_load1 tu42 rfl rfl (box_ptr (cells := [v6]) 0 rfl 2 rfl (lb rfl))) F S, trivial⟩ ?_
    refine dv_op ok1 9 rfl [] ?_
    obtain ⟨cs4, hk3, hr5⟩ := RepSl.reads h6
    obtain ⟨y6, hy6, hm⟩ := bind_some hm
    refine wl_append (wn rfl) rfl tu42 tu42 te9 (by decide) (by decide) F S rfl rfl (k := 1) rfl h8 hk3 rfl (hr5 _ _ S) hy6 rfl rfl ?_; clear F a S
    rintro v9 c5 a w h9 S F; replace S : St g2 [[bx b1 #[.i6 y3.At, v5, v6] 91], c5] fr w := S
    refine dv_nx trivial ?_
    refine dv_op ok1 10 rfl [] ?_
    refine wE (ev_assign rfl) F S rfl fun a F=>?_
    refine dv_nx trivial ?_
    refine dv_fin ok1 ?_
    refine then_n ?_
    refine wp_region_lit ?_
    refine wE (ev_loadA tu91 rfl (cs := [.i6 y3.At, v5, v6]) ts91 rfl (box_ptr (cells := [.i6 y3.At, v5, v6]) 0 rfl 0 rfl (lb rfl))) F S rfl fun a F=>?_
    obtain ⟨y7, hy7, hm⟩ := bind_some hm
    refine wl_call0 (wn rfl) rfl F rfl (textpatch_End_ok (fr := (fl [[bx b1 #[.i6 y3.At, v5, v6] 91], c5] fr)) y3 v5 h5 v6 h6 S hy7) rfl tc110 rfl rfl ?_; clear F a S
    rintro _ a w ⟨g3, l3, S, rfl⟩ F; replace S : St g3 [[bx b1 #[.i6 y3.At, v5, v6] 91], c5] fr w := S
    refine wE (ev_assign rfl) F S rfl fun a F=>?_
    refine wpList_nil ?_
    refine inb_n ?_
    refine then_n ?_
    refine wp_region_lit ?_
    obtain ⟨z1, hz1, hm⟩ := bind_some hm
    refine wE (ev_int rfl rfl (bo_add hz1)) F S rfl fun a F=>?_
    refine wE (ev_move rfl) F S rfl fun a F=>?_
    refine wpList_nil ?_
    refine then_n ?_
    obtain rfl := sinj hm
    refine ⟨_, rfl, ?_⟩
    dsimp only
    replace S : St g3 [c5] fr w := St.tail [c5] _ (S.frontC 1 rfl)
    exact ⟨v9, c5, g3, F.sub ⟨rfl, rfl, rfl, rfl, rfl, rfl, rfl, trivial⟩, (l2.trans l3), S, (h9.mono l3)⟩
   ·refine wp_condF F rfl hc1 ?_
    refine wp_exit ?_
    refine then_e ?_
    refine then_e ?_
    refine inb_x ?_
    refine then_n ?_
    obtain rfl := sinj hm
    obtain rfl := hfin1 _ rfl
    clear hm
    have hm : (textpatch_Raw.j1 text high x4 x5 : Option (List ByteArray)) = some _ := hmo1
    exact ⟨x4, x5, v4, c3, g2, F.sub ⟨rfl, rfl, rfl, rfl, trivial⟩, l2, S, h4, hm⟩
 ·clear F S hm; rintro a w ⟨x1, x2, v1, c1, g1, F, l1, S, h1, hm⟩
  refine wp_seq ?_
  refine wp_region_lit ?_
  refine wE (ev_move rfl) F S rfl fun a F=>?_
  refine wE (ev_move rfl) F S rfl fun a F=>?_
  refine wE (ev_move rfl) F S rfl fun a F=>?_
  refine wE (ev_move rfl) F S rfl fun a F=>?_
  obtain ⟨y1, hy1, hm⟩ := bind_some hm
  refine wl_cutS (wn rfl) rfl (htext1.mono l1) hy1 tu42 ts9 rfl (bndV rfl) (bndV rfl) F rfl rfl ?_; clear F a; rintro v2 h2 a F
  obtain ⟨cs1, hk1, hr1⟩ := RepSl.reads h2
  obtain ⟨y2, hy2, hm⟩ := bind_some hm
  refine wl_append (wn rfl) rfl tu42 tu42 te9 (by decide) (by decide) F S rfl rfl (k := 0) rfl h1 hk1 rfl (hr1 _ _ S) hy2 rfl rfl ?_; clear F a S
  rintro v3 c2 a w h3 S F; replace S : St g1 [c2] fr w := S
  refine wE (ev_assign rfl) F S rfl fun a F=>?_
  refine wpList_nil ?_
  refine then_n ?_
  refine wp_ret ?_
  obtain rfl := sinj hm
  refine post_r _ F rfl (ar_cons (resT rfl) ar_nil) ?_
  exact ⟨_, rfl, g1, v3, c2, l1, S, h3, rfl⟩
end Go.Dc
